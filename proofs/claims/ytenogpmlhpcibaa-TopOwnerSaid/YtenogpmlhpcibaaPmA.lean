/-
  Plain laws.
  Conditions: none.
-/
import Derived.Test.YtenogpmlhpcibaaMd
import Derived.Test.YtenogpmlhpcibaaPlA
import Derived.Test.YtenogpmlhpcibaaEn
set_option linter.all false
namespace Go.Law
open Go Go.AM
theorem loopL {α S R:Type} (F:Nat→Int→S→Option R) (xs:List α) (spec:List α→S→Option R) (hl:xs.length<1048576) (h0:∀m s,F (m+1) (xs.length:Int) s=spec [] s)
  (hs:∀m (i:Nat) x l s,idx xs (i:Int)=some x→(i:Int)<(xs.length:Int)→i<1048576→xs.drop (i+1)=l→(∀s',F m (w64 ((i:Int)+1)) s'=spec l s')→F (m+1) (i:Int) s=spec (x::l) s) :
  ∀(l:List α) (i m:Nat) (s:S),i≤xs.length→xs.drop i=l→l.length<m→F m (i:Int) s=spec l s:=by
 intro l
 induction l with
 | nil =>
  intro i m s hi hd hm
  obtain ⟨m,rfl⟩:∃k,m=k+1:=⟨m-1,by omega⟩
  have:i=xs.length:=by have:=List.drop_eq_nil_iff.1 hd;omega
  subst this
  exact h0 m s
 | cons x l ih =>
  intro i m s hi hd hm
  obtain ⟨m,rfl⟩:∃k,m=k+1:=⟨m-1,by omega⟩
  simp only [List.length_cons] at hm
  have hlt:i<xs.length:=by
   rcases Nat.lt_or_ge i xs.length with h | h
   ·exact h
   ·rw [List.drop_eq_nil_of_le h] at hd;cases hd
  rw [List.drop_eq_getElem_cons hlt] at hd
  injection hd with h1 h2
  refine hs m i x l s (by rw [idx_nat hlt,h1]) (by omega) (by omega) h2 fun s'=>?_
  rw [w64_id (by omega) (by omega)]
  exact ih (i+1) m s' (by omega) h2 (by omega)
theorem loopI {α S R:Type} (F:Nat→Int→S→Option R) (xs:List α) (spec:List α→S→Option R) (I:List α→S→Prop) (hl:xs.length<1048576) (h0:∀m s,I [] s→F (m+1) (xs.length:Int) s=spec [] s)
  (hs:∀m (i:Nat) x l s,I (x::l) s→idx xs (i:Int)=some x→(i:Int)<(xs.length:Int)→i<1048576→xs.drop (i+1)=l→(∀s',I l s'→F m (w64 ((i:Int)+1)) s'=spec l s')→F (m+1) (i:Int) s=spec (x::l) s) :
  ∀(l:List α) (i m:Nat) (s:S),i≤xs.length→xs.drop i=l→l.length<m→I l s→F m (i:Int) s=spec l s:=by
 intro l
 induction l with
 | nil =>
  intro i m s hi hd hm hI
  obtain ⟨m,rfl⟩:∃k,m=k+1:=⟨m-1,by omega⟩
  have:i=xs.length:=by have:=List.drop_eq_nil_iff.1 hd;omega
  subst this
  exact h0 m s hI
 | cons x l ih =>
  intro i m s hi hd hm hI
  obtain ⟨m,rfl⟩:∃k,m=k+1:=⟨m-1,by omega⟩
  simp only [List.length_cons] at hm
  have hlt:i<xs.length:=by
   rcases Nat.lt_or_ge i xs.length with h | h
   ·exact h
   ·rw [List.drop_eq_nil_of_le h] at hd;cases hd
  rw [List.drop_eq_getElem_cons hlt] at hd
  injection hd with h1 h2
  refine hs m i x l s hI (by rw [idx_nat hlt,h1]) (by omega) (by omega) h2 fun s' hI'=>?_
  rw [w64_id (by omega) (by omega)]
  exact ih (i+1) m s' (by omega) h2 (by omega) hI'
theorem bnd_some {α β:Type} (a:α) (f:α→Option β):Option.bind (some a) f=f a:=rfl
theorem within_eq (a b c:Int):coins_within a b c=some (inR a b c):=by
 unfold coins_within coins_within_j1 inR
 by_cases h:b≤a<;>simp [h]
theorem Within_eq (a b c:Int):ref01_Within a b c=some (inR a b c):=by
 unfold ref01_Within ref01_Within_j1 inR
 by_cases h:b≤a<;>simp [h]
def rise (lo hi:Int):Option Int→List Int→Bool
 | _,[]=>true
 | prev,x::l=>inR x lo hi&&(match prev with | none=>true | some y=>decide (y<x))&&rise lo hi (some x) l
theorem nil_or_last (pre:List Int):pre=[]∨∃q y,pre=q++[y]:=by
 rcases List.eq_nil_or_concat pre with h | ⟨q,y,h⟩
 ·exact .inl h
 ·exact .inr ⟨q,y,by simpa using h⟩
theorem idx_last (q:List Int) (y:Int) (l:List Int) (h:(q++[y]++l).length<1048576):idx (q++[y]++l) (w64 (((q++[y]).length:Int)-1))=some y:=by
 simp at h
 rw [w64_id (by simp<;>omega) (by simp<;>omega),show (((q++[y]).length:Int)-1)=(q.length:Int) by simp,show q++[y]++l=q++y::l by simp,idx_mid]
theorem Rising_l (lo hi:Int):∀(l pre:List Int) (m:Nat),(pre++l).length<1048576→l.length<m →
  ref01_Rising_l1 (pre++l) lo hi m (pre.length:Int)=some (rise lo hi pre.getLast? l):=by
 intro l
 induction l with
 | nil =>
  intro pre m hs hm
  obtain ⟨m,rfl⟩:∃k,m=k+1:=⟨m-1,by omega⟩
  simp [ref01_Rising_l1,ref01_Rising_l1_b,ref01_Rising_j1,rise]
 | cons x l ih =>
  intro pre m hs hm
  obtain ⟨m,rfl⟩:∃k,m=k+1:=⟨m-1,by omega⟩
  have h:=ih (pre++[x]) m (by simpa using hs) (by simp at hm;omega)
  rw [show (((pre++[x]).length:Nat):Int)=(pre.length:Int)+1 by simp,List.getLast?_concat,show pre++[x]++l=pre++x::l by simp] at h
  simp at hs hm
  simp only [ref01_Rising_l1,ref01_Rising_l1_b]
  rw [if_pos (by simp<;>omega),idx_mid]
  simp only [Option.bind_some,Within_eq,rise]
  by_cases hr:inR x lo hi=true
  ·rw [if_neg (by simp [hr])]
   rcases nil_or_last pre with rfl | ⟨q,y,rfl⟩
   ·rw [if_neg (by simp)]
    simp only [ref01_Rising_j2]
    rw [if_neg (by simp),w64_id (by simp) (by simp),h]
    simp [hr]
   ·rw [if_pos (by simp<;>omega),idx_last q y (x::l) (by simp at hs ⊢;omega)]
    simp only [Option.bind_some,ref01_Rising_j2,List.getLast?_concat]
    by_cases hb:x≤y
    ·rw [if_pos (by simpa using hb)]
     simp [hr,show ¬y<x by omega]
    ·rw [if_neg (by simpa using hb),w64_id (by omega) (by omega),h]
     simp [hr,show y<x by omega]
  ·have hr':inR x lo hi=false:=by simpa using hr
   rw [if_pos (by simp [hr'])]
   simp [ref01_Rising_j2,hr']
theorem Rising_eq {n:Nat} (l:List Int) (lo hi:Int) (hs:l.length<1048576) (hn:l.length<n):ref01_Rising n l lo hi=some (rise lo hi none l):=Rising_l lo hi l [] n (by simpa using hs) hn
theorem rising_l (many most:Int):∀(l pre:List Int) (m:Nat),(pre++l).length<1048576→l.length<m →
  coins_rising_l1 (pre++l) many most m (pre.length:Int)=some (rise 1 most pre.getLast? l&&decide (((pre++l).length:Int)≤many)):=by
 intro l
 induction l with
 | nil =>
  intro pre m hs hm
  obtain ⟨m,rfl⟩:∃k,m=k+1:=⟨m-1,by omega⟩
  simp [coins_rising_l1,coins_rising_l1_b,coins_rising_j1,rise]
 | cons x l ih =>
  intro pre m hs hm
  obtain ⟨m,rfl⟩:∃k,m=k+1:=⟨m-1,by omega⟩
  have h:=ih (pre++[x]) m (by simpa using hs) (by simp at hm;omega)
  rw [show (((pre++[x]).length:Nat):Int)=(pre.length:Int)+1 by simp,List.getLast?_concat,show pre++[x]++l=pre++x::l by simp] at h
  simp at hs hm
  simp only [coins_rising_l1,coins_rising_l1_b]
  rw [if_pos (by simp<;>omega),idx_mid]
  simp only [Option.bind_some,within_eq,rise]
  by_cases hr:inR x 1 most=true
  ·rw [if_neg (by simp [hr])]
   rcases nil_or_last pre with rfl | ⟨q,y,rfl⟩
   ·rw [if_neg (by simp)]
    simp only [coins_rising_j2]
    rw [if_neg (by simp),w64_id (by simp) (by simp),h]
    simp [hr]
   ·rw [if_pos (by simp<;>omega),idx_last q y (x::l) (by simp at hs ⊢;omega)]
    simp only [Option.bind_some,coins_rising_j2,List.getLast?_concat]
    by_cases hb:x≤y
    ·rw [if_pos (by simpa using hb)]
     simp [hr,show ¬y<x by omega]
    ·rw [if_neg (by simpa using hb),w64_id (by omega) (by omega),h]
     simp [hr,show y<x by omega]
  ·have hr':inR x 1 most=false:=by simpa using hr
   rw [if_pos (by simp [hr'])]
   simp [coins_rising_j2,hr']
theorem rising_eq {n:Nat} (l:List Int) (many most:Int) (hs:l.length<1048576) (hn:l.length<n):coins_rising n l many most=some (rise 1 most none l&&decide ((l.length:Int)≤many)):=rising_l many most l [] n (by simpa using hs) hn
def valid (w:Wheel):Bool:=inR w.Round 1 200&&(rise 1 w.Round none w.Notches&&decide ((w.Notches.length:Int)≤12))&&(rise 1 100 none w.Coins&&decide ((w.Coins.length:Int)≤4))
def okLen (n:Nat) (w:Wheel):Prop:=w.Notches.length<1048576∧w.Coins.length<1048576∧w.Notches.length<n∧w.Coins.length<n
theorem Check_eq {n:Nat} {w:Wheel} (h:okLen n w):coins_Check n w=some (cond (valid w) 0 10):=by
 obtain ⟨h1,h2,h3,h4⟩:=h
 unfold coins_Check coins_Check_j1 valid
 rw [within_eq,bnd_some,rising_eq _ _ _ h1 h3,rising_eq _ _ _ h2 h4,bnd_some,bnd_some]
 cases inR w.Round 1 200<;>cases (rise 1 w.Round none w.Notches&&decide ((w.Notches.length:Int)≤12))<;>cases (rise 1 100 none w.Coins&&decide ((w.Coins.length:Int)≤4))<;>rfl
theorem rCheck_eq {n:Nat} {w:Wheel} (h:okLen n w):ref01_Check n w=some (cond (valid w) 0 10):=by
 obtain ⟨h1,h2,h3,h4⟩:=h
 unfold ref01_Check ref01_Check_j1 valid
 rw [Within_eq,bnd_some,Rising_eq _ _ _ h1 h3,Rising_eq _ _ _ h2 h4,bnd_some,bnd_some]
 by_cases q1:(w.Notches.length:Int)≤12
 ·have e1:decide ((w.Notches.length:Int)>12)=false:=by simpa using q1
  rw [e1]
  by_cases q2:(w.Coins.length:Int)≤4
  ·have e2:decide ((w.Coins.length:Int)>4)=false:=by simpa using q2
   rw [e2]
   simp only [q1,q2,decide_true,Bool.and_true]
   cases inR w.Round 1 200<;>cases rise 1 w.Round none w.Notches<;>cases rise 1 100 none w.Coins<;>rfl
  ·have e2:decide ((w.Coins.length:Int)>4)=true:=by simp;omega
   rw [e2]
   simp only [q2,decide_false,Bool.and_false]
   cases inR w.Round 1 200<;>cases rise 1 w.Round none w.Notches<;>rfl
 ·have e1:decide ((w.Notches.length:Int)>12)=true:=by simp;omega
  rw [e1]
  simp only [q1,decide_false,Bool.and_false,Bool.false_and]
  cases inR w.Round 1 200<;>rfl
theorem rise_mem {lo hi:Int}:∀{l:List Int} {p:Option Int},rise lo hi p l=true→(∀x,x∈l→lo≤x∧x≤hi∧∀y,p=some y→y<x)∧l.Pairwise (·<·)
 | [],_,_=>⟨fun x h=>by simp at h,.nil⟩
 | x::l,p,h=>by
  simp only [rise,Bool.and_eq_true] at h
  obtain ⟨⟨h1,h2⟩,h3⟩:=h
  obtain ⟨ih1,ih2⟩:=rise_mem h3
  have h1':=inR_iff.1 h1
  have hp:∀y,p=some y→y<x:=fun y e=>by subst e;simpa using h2
  refine ⟨fun z hz=>?_,List.pairwise_cons.2 ⟨fun z hz=>(ih1 z hz).2.2 x rfl,ih2⟩⟩
  rcases List.mem_cons.1 hz with rfl | hz
  ·exact ⟨h1'.1,h1'.2,hp⟩
  ·have:=ih1 z hz
   exact ⟨this.1,this.2.1,fun y e=>Int.lt_trans (hp y e) (this.2.2 x rfl)⟩
structure OkW (w:Wheel):Prop where
 r1:1≤w.Round
 r2:w.Round≤200
 nlen:w.Notches.length≤12
 clen:w.Coins.length≤4
 nm:∀x,x∈w.Notches→1≤x∧x≤w.Round
 nd:w.Notches.Pairwise (·<·)
 cm:∀x,x∈w.Coins→1≤x∧x≤100
 cd:w.Coins.Pairwise (·<·)
theorem valid_ok {w:Wheel} (h:valid w=true):OkW w:=by
 simp only [valid,Bool.and_eq_true,decide_eq_true_eq] at h
 obtain ⟨⟨h1,h2,h3⟩,h4,h5⟩:=h
 have h1:=inR_iff.1 h1
 obtain ⟨a1,a2⟩:=rise_mem h2
 obtain ⟨b1,b2⟩:=rise_mem h4
 exact ⟨h1.1,h1.2,by omega,by omega,fun x hx=>⟨(a1 x hx).1,(a1 x hx).2.1⟩,a2,fun x hx=>⟨(b1 x hx).1,(b1 x hx).2.1⟩,b2⟩
theorem OkW.len {w:Wheel} (h:OkW w) {n:Nat} (hn:100≤n):okLen n w:=⟨by have:=h.nlen;omega,by have:=h.clen;omega,by have:=h.nlen;omega,by have:=h.clen;omega⟩
def nx (R p:Int):Int:=if p+1=R then 0 else p+1
def hit (w:Wheel) (p:Int):Int:=if p+1∈w.Notches then 1 else 0
def put (w:Wheel):Nat→Int→Int→Int×Int
 | 0,p,c=>(p,c)
 | k+1,p,c=>put w k (nx w.Round p) (c+hit w p)
theorem nx_range {R p:Int} (h0:0≤p) (h1:p<R):0≤nx R p∧nx R p<R:=by
 unfold nx
 split<;>omega
theorem hit_range (w:Wheel) (p:Int):0≤hit w p∧hit w p≤1:=by
 unfold hit
 split<;>omega
theorem put_range {w:Wheel} (h:OkW w):∀(k:Nat) (p c:Int),0≤p→p<w.Round→(0≤(put w k p c).1∧(put w k p c).1<w.Round)∧c≤(put w k p c).2∧(put w k p c).2≤c+k
 | 0,p,c,h0,h1=>⟨⟨h0,h1⟩,by simp [put],by simp [put]⟩
 | k+1,p,c,h0,h1=>by
  have hy:=nx_range h0 h1
  have hx:=hit_range w p
  have:=put_range h k (nx w.Round p) (c+hit w p) hy.1 hy.2
  simp only [put]
  omega
theorem put_add (w:Wheel):∀(j k:Nat) (p c:Int),put w (j+k) p c=put w k (put w j p c).1 (put w j p c).2
 | 0,k,p,c=>by simp [put]
 | j+1,k,p,c=>by
  rw [show j+1+k=(j+k)+1 by omega]
  simp only [put]
  exact put_add w j k _ _
theorem ediv_succ {A R:Int} (hR:0<R):(A+1) / R=A / R+(if A % R=R-1 then 1 else 0):=by
 have h1:=Int.mul_ediv_add_emod A R
 have h2:=Int.emod_nonneg A (show R≠0 by omega)
 have h3:=Int.emod_lt_of_pos A hR
 split
 ·rename_i h
  have:A+1=R*(A / R+1):=by rw [Int.mul_add];omega
  rw [this,Int.mul_ediv_cancel_left _ (by omega)]
 ·rename_i h
  have:A+1=(A % R+1)+R*(A / R):=by omega
  rw [this,Int.add_mul_ediv_left _ _ (by omega),Int.ediv_eq_zero_of_lt (by omega) (by omega)]
  omega
theorem emod_succ {A R:Int} (hR:0<R):(A+1) % R=nx R (A % R):=by
 have h1:=Int.mul_ediv_add_emod A R
 have h2:=Int.emod_nonneg A (show R≠0 by omega)
 have h3:=Int.emod_lt_of_pos A hR
 unfold nx
 split
 ·rename_i h
  have:A+1=R*(A / R+1):=by rw [Int.mul_add];omega
  rw [this,Int.mul_emod_right]
 ·rename_i h
  have:A+1=(A % R+1)+R*(A / R):=by omega
  rw [this,Int.add_mul_emod_self_left,Int.emod_eq_of_lt (by omega) (by omega)]
theorem emod_notch {B R m:Int} (hR:0<R) (h1:1≤m) (h2:m≤R):(B-m+R) % R=R-1↔m=B % R+1:=by
 have e1:=Int.mul_ediv_add_emod B R
 have e2:=Int.emod_nonneg B (show R≠0 by omega)
 have e3:=Int.emod_lt_of_pos B hR
 by_cases h:m≤B % R
 ·have:B-m+R=(B % R-m)+R*(B / R+1):=by rw [Int.mul_add];omega
  rw [this,Int.add_mul_emod_self_left,Int.emod_eq_of_lt (by omega) (by omega)]
  omega
 ·have:B-m+R=(B % R-m+R)+R*(B / R):=by omega
  rw [this,Int.add_mul_emod_self_left,Int.emod_eq_of_lt (by omega) (by omega)]
  omega
def reached (R e p:Int):List Int→Int
 | []=>0
 | m::l=>(e-m+R) / R-(p-m+R) / R+reached R e p l
def turn (w:Wheel) (p c:Int):Int×Int:=((p+c) % w.Round,reached w.Round (p+c) p w.Notches)
theorem reached_succ {R B p:Int} (hR:0<R):∀(l:List Int),(∀x,x∈l→1≤x∧x≤R)→l.Pairwise (·<·)→reached R (B+1) p l=reached R B p l+(if B % R+1∈l then 1 else 0)
 | [],_,_=>by simp [reached]
 | m::l,h,hd=>by
  have hm:=h m (by simp)
  obtain ⟨d1,d2⟩:=List.pairwise_cons.1 hd
  have ih:=reached_succ (B:=B) (p:=p) hR l (fun x hx=>h x (by simp [hx])) d2
  simp only [reached]
  rw [ih,show B+1-m+R=(B-m+R)+1 by omega,ediv_succ hR]
  have hn:=emod_notch (B:=B) hR hm.1 hm.2
  by_cases q:m=B % R+1
  ·rw [if_pos (hn.2 q),if_pos (show B % R+1∈m::l by simp [q]),if_neg (fun hx=>by have:=d1 _ hx;omega)]
   omega
  ·rw [if_neg (fun hx=>q (hn.1 hx))]
   by_cases q2:B % R+1∈l
   ·rw [if_pos q2,if_pos (by simp [q2])]
    omega
   ·rw [if_neg q2,if_neg (by simp [q2];omega)]
    omega
theorem reached_self {R p:Int}:∀(l:List Int),reached R p p l=0
 | []=>rfl
 | m::l=>by simp only [reached];rw [reached_self l];omega
theorem put_turn {w:Wheel} (h:OkW w) {p:Int} (h0:0≤p) (h1:p<w.Round):∀k:Nat,put w k p 0=turn w p k
 | 0=>by
  unfold turn
  rw [show p+((0:Nat):Int)=p by simp,reached_self,Int.emod_eq_of_lt h0 h1]
  rfl
 | k+1=>by
  have hr:=h.r1
  have ih:=put_turn h h0 h1 k
  rw [put_add w k 1 p 0,ih]
  unfold turn
  simp only [put]
  rw [show p+((k+1:Nat):Int)=(p+k)+1 by simp;omega,emod_succ (by omega),reached_succ (by omega) w.Notches h.nm h.nd]
  rfl
theorem turn_range {w:Wheel} (h:OkW w) {p c:Int} (h0:0≤p) (h1:p<w.Round) (hc:0≤c):(0≤(turn w p c).1∧(turn w p c).1<w.Round)∧0≤(turn w p c).2∧(turn w p c).2≤c:=by
 have:=put_range h c.toNat p 0 h0 h1
 rw [put_turn h h0 h1,show ((c.toNat:Nat):Int)=c by omega] at this
 omega
theorem reached_part {R e p:Int} (hR:0<R) (h:p≤e):∀l:List Int,0≤reached R e p l
 | []=>by simp [reached]
 | m::l=>by
  have:=reached_part hR h l
  have h2:=Int.ediv_le_ediv hR (show p-m+R≤e-m+R by omega)
  simp only [reached]
  omega
theorem turn_eq {n:Nat} {w:Wheel} (h:OkW w) (hn:100≤n) {p c:Int} (hp:0≤p) (hp':p<w.Round) (hc:0≤c) (hc2:c<1048576):coins_wheel_turn n ⟨w⟩ p c=some (turn w p c):=by
 have hr:=h.r1
 have hr2:=h.r2
 have hl:=h.nlen
 have hfin:=turn_range h hp hp' hc
 unfold turn at hfin
 simp only at hfin
 have e0:w64 (p+c)=p+c:=w64_id (by omega) (by omega)
 have key:=loopI (F:=fun m i s=>coins_wheel_turn_l1 ⟨w⟩ p c m s i) (xs:=w.Notches) (spec:=fun l s=>some ((p+c) % w.Round,s+reached w.Round (p+c) p l)) (I:=fun l s=>0≤s∧s+reached w.Round (p+c) p l≤c∧∀x,x∈l→1≤x∧x≤w.Round) (by omega)
  (fun m s hI=>by simp [coins_wheel_turn_l1,coins_wheel_turn_l1_b,coins_wheel_turn_j1,reached,e0,rem_nn (show 0≤p+c by omega) (show 0<w.Round by omega)])
  (fun m i x l s hI hx hi _ _ hrec=>by
   obtain ⟨i1,i2,i3⟩:=hI
   have hxm:=i3 x (by simp)
   simp only [reached] at i2
   have hrl:=reached_part (R:=w.Round) (e:=p+c) (p:=p) (by omega) (by omega) l
   have hd1:=Int.ediv_nonneg (show 0≤p+c-x+w.Round by omega) (show 0≤w.Round by omega)
   have hd2:=Int.ediv_nonneg (show 0≤p-x+w.Round by omega) (show 0≤w.Round by omega)
   have hd3:=Int.ediv_le_self w.Round (show 0≤p+c-x+w.Round by omega)
   have hd5:=Int.ediv_le_ediv (show 0<w.Round by omega) (show p-x+w.Round≤p+c-x+w.Round by omega)
   simp only [coins_wheel_turn_l1,coins_wheel_turn_l1_b]
   rw [if_pos (by simpa using hi),hx,bnd_some,e0,w64_id (x:=p+c-x) (by omega) (by omega),w64_id (x:=p+c-x+w.Round) (by omega) (by omega),w64_id (x:=p-x) (by omega) (by omega),w64_id (x:=p-x+w.Round) (by omega) (by omega),
    quo_nn (by omega) (by omega) (by omega),quo_nn (by omega) (by omega) (by omega),bnd_some,bnd_some,w64_id (x:=_-_) (by omega) (by omega),w64_id (x:=s+_) (by omega) (by omega),
    hrec _ ⟨by omega,by omega,fun y hy=>i3 y (by simp [hy])⟩]
   simp only [reached]
   congr 2
   omega)
  w.Notches 0 n 0 (by omega) rfl (by omega) ⟨by omega,by omega,h.nm⟩
 have key:coins_wheel_turn_l1 ⟨w⟩ p c n 0 0=_:=key
 unfold coins_wheel_turn
 rw [key]
 unfold turn
 rw [Int.zero_add]
structure OkS (w:Wheel) (s:Stand) (b:Int):Prop where
 p0:0≤s.Place
 p1:s.Place<w.Round
 c0:0≤s.Credit
 c1:s.Credit≤b
def okAct (w:Wheel) (a:Int):Bool:=inR a (-1) (w.Coins.length-1)
def okKind (w:Wheel) (a:Int):Bool:=inR a 0 (w.Coins.length-1)
def coin (w:Wheel) (a:Int):Int:=w.Coins.getD a.toNat 0
def actS (w:Wheel) (s:Stand) (a:Int):Stand×Bool :=
 if 0≤a then (⟨(turn w s.Place (coin w a)).1,s.Credit+(turn w s.Place (coin w a)).2⟩,false) else if s.Credit=0 then (s,false) else (⟨0,s.Credit-1⟩,true)
theorem coin_idx {w:Wheel} {a:Int} (h0:0≤a) (h1:a≤w.Coins.length-1):idx w.Coins a=some (coin w a):=by
 obtain ⟨k,rfl⟩:∃k:Nat,a=k:=⟨a.toNat,by omega⟩
 have hk:k<w.Coins.length:=by omega
 rw [idx_nat hk]
 simp [coin,hk]
theorem coin_range {w:Wheel} (h:OkW w) {a:Int} (h0:0≤a) (h1:a≤w.Coins.length-1):1≤coin w a∧coin w a≤100:=by
 obtain ⟨k,rfl⟩:∃k:Nat,a=k:=⟨a.toNat,by omega⟩
 have hk:k<w.Coins.length:=by omega
 have:coin w k=w.Coins[k]:=by simp [coin,hk]
 rw [this]
 exact h.cm _ (List.getElem_mem hk)
theorem actS_ok {w:Wheel} (h:OkW w) {s:Stand} {b a:Int} (hs:OkS w s b) (ha:okAct w a=true):OkS w (actS w s a).1 (b+100):=by
 have ha:=inR_iff.1 ha
 have hr:=h.r1
 unfold actS
 split
 ·rename_i h0
  have hc:=coin_range h h0 ha.2
  have ht:=turn_range h hs.p0 hs.p1 (show 0≤coin w a by omega)
  have:=hs.c0
  have:=hs.c1
  exact ⟨ht.1.1,ht.1.2,by show 0≤s.Credit+_;omega,by show s.Credit+_≤_;omega⟩
 ·have:=hs.c0
  have:=hs.c1
  split
  ·exact ⟨hs.p0,hs.p1,hs.c0,by show s.Credit≤b+100;omega⟩
  ·exact ⟨by show (0:Int)≤0;omega,by show (0:Int)<_;omega,by show 0≤s.Credit-1;omega,by show s.Credit-1≤_;omega⟩
theorem act_eq {n:Nat} {w:Wheel} (h:OkW w) (hn:200≤n) {s:Stand} {b a:Int} (hs:OkS w s b) (hb:b<1099511627776) (ha:okAct w a=true):coins_wheel_act n ⟨w⟩ s a=some (actS w s a).1:=by
 have ha:=inR_iff.1 ha
 have:=hs.c0
 have:=hs.c1
 unfold coins_wheel_act actS
 by_cases h0:0≤a
 ·have hc:=coin_range h h0 ha.2
  have ht:=turn_range h hs.p0 hs.p1 (show 0≤coin w a by omega)
  rw [if_pos (by simp;omega),if_pos h0,coin_idx h0 ha.2,bnd_some,turn_eq h (by omega) hs.p0 hs.p1 (by omega) (by omega),bnd_some,w64_id (by omega) (by omega)]
 ·rw [if_neg (by simp;omega),if_neg h0]
  by_cases hc:s.Credit=0
  ·rw [if_neg (by simp;omega),if_pos hc]
  ·rw [if_pos (by simp;omega),if_neg hc,w64_id (by omega) (by omega)]
theorem allI {n:Nat} (f:Int→Option Bool) (g:Int→Bool) (xs:List Int) (hf:∀x,x∈xs→f x=some (g x)) (hl:xs.length<1048576) (hn:xs.length<n) :
  coins_all_int n (fun x (_:Unit)=>(f x).map fun y=>(y,())) xs ()=some (decide ((xs.length:Int)≤20)&&xs.all g,()):=by
 have key:∀(l:List Int) (i m:Nat) (s:Unit),i≤xs.length→xs.drop i=l→l.length<m→(slices_IndexFunc_int_l1 xs (coins_all_int_c1 (fun x (_:Unit)=>(f x).map fun y=>(y,()))) m (i:Int) s).map (fun r=>decide (r.1≥0))=some (!l.all g):=by
  intro l i m s h1 h2 h3
  refine loopL (fun m i s=>(slices_IndexFunc_int_l1 xs (coins_all_int_c1 (fun x (_:Unit)=>(f x).map fun y=>(y,()))) m i s).map (fun r=>decide (r.1≥0))) xs (fun l _=>some (!l.all g)) hl (fun m s=>?_) (fun m i x l s hx hi _ _ hrec=>?_) l i m s h1 h2 h3
  ·simp [slices_IndexFunc_int_l1,slices_IndexFunc_int_l1_b,slices_IndexFunc_int_j1]
  ·have hmem:x∈xs:=by
    unfold idx at hx
    rw [if_pos (by omega)] at hx
    exact List.mem_of_getElem? hx
   simp only [slices_IndexFunc_int_l1,slices_IndexFunc_int_l1_b]
   rw [if_pos (by simpa using hi),hx,bnd_some]
   simp only [coins_all_int_c1,hf x hmem,Option.map_some,bnd_some]
   by_cases hg:g x=true
   ·rw [if_neg (by simp [hg])]
    have:=hrec ()
    rw [this]
    simp [hg]
   ·rw [if_pos (by simpa using hg)]
    simp [hg]
 have h:=key xs 0 n () (by omega) rfl hn
 unfold coins_all_int coins_all_int_j1
 by_cases hq:(xs.length:Int)≤20
 ·rw [if_pos (by simpa using hq)]
  unfold slices_ContainsFunc_int slices_IndexFunc_int
  change Option.map _ (slices_IndexFunc_int_l1 xs _ n 0 ())=_ at h
  cases hx:slices_IndexFunc_int_l1 xs (coins_all_int_c1 (fun x (_:Unit)=>(f x).map fun y=>(y,()))) n 0 () with
  | none=>rw [hx] at h;cases h
  | some r =>
   rw [hx] at h
   simp only [Option.map_some,Option.some.injEq] at h
   simp only [bnd_some]
   rw [h]
   simp [hq]
 ·rw [if_neg (by simpa using hq)]
  simp [hq]
theorem isKind_eq {w:Wheel} (hw:w.Coins.length<1048576) (x:Int):coins_wheel_isKind ⟨w⟩ x=some (okKind w x):=by
 unfold coins_wheel_isKind okKind
 simp only []
 rw [w64_id (by omega) (by omega),within_eq,bnd_some]
theorem isAct_eq {w:Wheel} (hw:w.Coins.length<1048576) (x:Int):coins_wheel_isAct ⟨w⟩ x=some (okAct w x):=by
 unfold coins_wheel_isAct coins_wheel_isAct_j1
 rw [isKind_eq hw,bnd_some]
 have e:okAct w x=(decide (x=-1) || okKind w x):=by
  rw [Bool.eq_iff_iff]
  simp only [okAct,okKind,inR_iff,Bool.or_eq_true,decide_eq_true_eq]
  omega
 rw [e]
 by_cases h:x=-1
 ·rw [if_pos (by simpa using h)]
  simp [h]
 ·rw [if_neg (by simpa using h)]
  simp [h]
def okPlace (w:Wheel) (p:Int):Bool:=inR p 0 (w.Round-1)
theorem isPlace_eq {w:Wheel} (h:OkW w) (p:Int):coins_wheel_isPlace ⟨w⟩ p=some (okPlace w p):=by
 have:=h.r1
 have:=h.r2
 unfold coins_wheel_isPlace okPlace
 simp only []
 rw [w64_id (by omega) (by omega),within_eq,bnd_some]
def okStand (w:Wheel) (s:Stand):Bool:=okPlace w s.Place&&inR s.Credit 0 20
theorem okStand_ok {w:Wheel} {s:Stand} (h:okStand w s=true):OkS w s 20:=by
 simp only [okStand,okPlace,Bool.and_eq_true,inR_iff] at h
 exact ⟨h.1.1,by omega,h.2.1,h.2.2⟩
def zw:Wheel_:=⟨⟨0,[],[]⟩⟩
theorem open_eq {n:Nat} {w:Wheel} (hl:okLen n w) (aF:Wheel_→Unit→Option (Bool×Unit)) (b:Bool) (ha:valid w=true→aF ⟨w⟩ ()=some (b,())) :
  coins_open n aF w ()=some (cond (valid w) (cond b (((⟨w⟩:Wheel_),0),()) ((zw,1),())) ((zw,10),())):=by
 unfold coins_open
 rw [Check_eq hl,bnd_some]
 cases hv:valid w with
 | false=>rfl
 | true =>
  rw [ha hv]
  cases b<;>rfl
def runL (w:Wheel):List Int→Int→Stand→Stand×Int
 | [],k,s=>(s,k)
 | a::l,k,s=>runL w l (k+if (actS w s a).2 then 1 else 0) (actS w s a).1
def runS (w:Wheel) (s:Stand) (acts:List Int):Stand×Int×Int :=
 if valid w=true then (if okStand w s=true∧(acts.length:Int)≤20∧acts.all (okAct w)=true then ((runL w acts 0 s).1,(runL w acts 0 s).2,0) else (⟨0,0⟩,0,1)) else (⟨0,0⟩,0,10)
theorem made_iff {w:Wheel} {s:Stand} {a:Int} (h:okAct w a=true) (hc:0≤s.Credit):(actS w s a).2=true↔a=-1∧s.Credit>0:=by
 have h:=inR_iff.1 h
 unfold actS
 split
 ·simp;omega
 ·split<;>simp<;>omega
theorem run_l {n:Nat} {w:Wheel} (h:OkW w) (hn:200≤n) (acts:List Int) (hl:(acts.length:Int)≤20) (ha:acts.all (okAct w)=true) {s:Stand} (hs:OkS w s 20) :
  coins_Run_l1 n acts ((⟨w⟩,0),()) n 0 0 s.Place s.Credit=some ((runL w acts 0 s).1,(runL w acts 0 s).2,0):=by
 have key:=loopI (F:=fun m i (q:Int×Stand)=>coins_Run_l1 n acts ((⟨w⟩,0),()) m q.1 i q.2.Place q.2.Credit) (xs:=acts) (spec:=fun l q=>some ((runL w l q.1 q.2).1,(runL w l q.1 q.2).2,0))
  (I:=fun l q=>(0≤q.1∧q.1+l.length≤100)∧OkS w q.2 (2100-100*l.length)∧l.length≤20∧l.all (okAct w)=true) (by omega)
  (fun m q hI=>by simp [coins_Run_l1,coins_Run_l1_b,coins_Run_j1,runL])
  (fun m i x l q hI hx hi _ _ hrec=>by
   obtain ⟨i1,i2,i3,i4⟩:=hI
   simp only [List.length_cons,List.all_cons,Bool.and_eq_true] at i1 i2 i3 i4
   have hb:(2100-100*((l.length+1:Nat):Int))+100=2100-100*(l.length:Int):=by simp;omega
   have hok:=actS_ok h i2 i4.1
   rw [hb] at hok
   have hmi:=made_iff i4.1 i2.c0
   have goal:∀c:Bool,(c=(actS w q.2 x).2)→coins_Run_j3 n (coins_Run_l1 n acts ((⟨w⟩,0),()) m) ((⟨w⟩,0),()) q.1 (i:Int) q.2.Place q.2.Credit x c=some ((runL w (x::l) q.1 q.2).1,(runL w (x::l) q.1 q.2).2,0):=by
    rintro c rfl
    have e:(⟨q.2.Place,q.2.Credit⟩:Stand)=q.2:=rfl
    simp only [coins_Run_j3,coins_Run_j2,runL,e,act_eq h hn i2 (by omega) i4.1,bnd_some]
    by_cases hm:(actS w q.2 x).2=true
    ·rw [if_pos hm,w64_id (x:=q.1+1) (by omega) (by omega)]
     have:=hrec (q.1+1,(actS w q.2 x).1) ⟨⟨by simp;omega,by simp;omega⟩,hok,by omega,i4.2⟩
     simp only at this
     rw [this]
     simp [hm]
    ·rw [if_neg hm]
     have:=hrec (q.1,(actS w q.2 x).1) ⟨⟨by simp;omega,by simp;omega⟩,hok,by omega,i4.2⟩
     simp only at this
     rw [this]
     simp [hm]
   simp only [coins_Run_l1,coins_Run_l1_b]
   rw [if_pos (by simpa using hi),hx,bnd_some]
   by_cases hx1:x=-1
   ·rw [if_pos (by simpa using hx1)]
    refine goal _ ?_
    rw [Bool.eq_iff_iff,hmi]
    simp [hx1]
   ·rw [if_neg (by simpa using hx1)]
    refine goal _ ?_
    rw [Bool.eq_iff_iff,hmi]
    simp [hx1])
  acts 0 n (0,s) (by omega) rfl (by omega) ⟨⟨by simp,by simp;omega⟩,⟨hs.p0,hs.p1,hs.c0,by have:=hs.c1;simp;omega⟩,by omega,ha⟩
 exact key
theorem Run_eq {n:Nat} {w:Wheel} (hl:okLen n w) (hn:200≤n) (s:Stand) (acts:List Int) (h1:acts.length<1048576) (h2:acts.length<n):coins_Run n w s acts=some (runS w s acts):=by
 unfold coins_Run runS
 rw [open_eq hl _ (okStand w s&&(decide ((acts.length:Int)≤20)&&acts.all (okAct w))) (fun hv=>?_),bnd_some]
 ·cases hv:valid w with
  | false=>rfl
  | true =>
   have h:=valid_ok hv
   by_cases hq:okStand w s=true∧(acts.length:Int)≤20∧acts.all (okAct w)=true
   ·rw [if_pos rfl,if_pos hq,hq.1,hq.2.2,show decide ((acts.length:Int)≤20)=true by simpa using hq.2.1]
    exact run_l h hn acts hq.2.1 hq.2.2 (okStand_ok hq.1)
   ·rw [if_pos rfl,if_neg hq,show (okStand w s&&(decide ((acts.length:Int)≤20)&&acts.all (okAct w)))=false by
     cases hz:(okStand w s&&(decide ((acts.length:Int)≤20)&&acts.all (okAct w))) with
     | false=>rfl
     | true=>simp only [Bool.and_eq_true,decide_eq_true_eq] at hz;exact (hq hz).elim]
    rfl
 ·have h:=valid_ok hv
  show (coins_Run_c1 n ⟨w⟩ s acts).map (fun y=>(y,()))=_
  unfold coins_Run_c1 coins_Run_c1_j1
  rw [isPlace_eq h,bnd_some,within_eq,allI (fun x=>coins_wheel_isAct ⟨w⟩ x) (okAct w) acts (fun x _=>isAct_eq hl.2.1 x) h1 h2]
  unfold okStand
  cases okPlace w s.Place<;>cases inR s.Credit 0 20<;>rfl
theorem Copy_eq {n:Nat} {w:Wheel} (h:okLen n w):ref01_Copy w=some w:=by
 unfold ref01_Copy
 rw [app_ok (by simp;exact Nat.le_of_lt h.1),app_ok (by simp;exact Nat.le_of_lt h.2.1)]
 rfl
theorem app_nil {α:Type} {l:List α} (h:l.length<1048576):app ([]:List α) l=some l:=by rw [app_ok (by simp;omega)];rfl
section
variable {κ:Type} [DecidableEq κ]
theorem mhas_iff:∀{M:List (κ×Int)} {k:κ},mhas M k=true↔k∈M.map (·.1)
 | [],k=>by simp [mhas]
 | p::M,k=>by
  simp only [mhas,List.map_cons,List.mem_cons]
  by_cases h:p.1=k
  ·simp [h]
  ·rw [if_neg h,mhas_iff]
   exact ⟨.inr,fun e=>e.resolve_left (Ne.symm h)⟩
theorem mget_mem:∀{M:List (κ×Int)} {k:κ},mhas M k=true→(k,mget M k)∈M
 | [],k,h=>by simp [mhas] at h
 | p::M,k,h=>by
  by_cases e:p.1=k
  ·simp only [mget,if_pos e]
   rw [←e]
   exact List.mem_cons_self
  ·simp only [mhas,if_neg e] at h
   simp only [mget,if_neg e]
   exact List.mem_cons_of_mem _ (mget_mem h)
theorem mset_mem:∀{M:List (κ×Int)} {k:κ} {v:Int} {p:κ×Int},p∈mset M k v→p=(k,v)∨p∈M
 | [],k,v,p,h=>by simp [mset] at h;exact .inl h
 | q::M,k,v,p,h=>by
  simp only [mset] at h
  split at h
  ·rcases List.mem_cons.1 h with h | h
   ·exact .inl h
   ·exact .inr (List.mem_cons_of_mem _ h)
  ·rcases List.mem_cons.1 h with h | h
   ·exact .inr (h▸List.mem_cons_self)
   ·rcases mset_mem h with h | h
    ·exact .inl h
    ·exact .inr (List.mem_cons_of_mem _ h)
theorem mset_keys:∀{M:List (κ×Int)} {k:κ} {v:Int},(mset M k v).map (·.1)=if mhas M k=true then M.map (·.1) else M.map (·.1)++[k]
 | [],k,v=>by simp [mset,mhas]
 | q::M,k,v=>by
  by_cases e:q.1=k
  ·simp [mset,mhas,e]
  ·simp only [mset,mhas,if_neg e,List.map_cons]
   rw [mset_keys]
   cases mhas M k<;>simp
theorem mset_nodup {M:List (κ×Int)} {k:κ} {v:Int} (h:(M.map (·.1)).Nodup):((mset M k v).map (·.1)).Nodup:=by
 rw [mset_keys]
 cases e:mhas M k with
 | true=>simpa using h
 | false =>
  have:¬k∈M.map (·.1):=fun hk=>by rw [mhas_iff.2 hk] at e;cases e
  simp only [Bool.false_eq_true,if_false]
  rw [List.nodup_append]
  refine ⟨h,by simp,fun a ha b hb=>?_⟩
  simp only [List.mem_singleton] at hb
  subst hb
  exact fun e=>this (e▸ha)
end
def stepB (b:Bool) (s:Bool×Int) (n:Int):Bool×Int:=if s.1=true∨cond b (decide (n>s.2)) (decide (n<s.2))=true then (false,n) else s
def pick (b:Bool) (vs:List Int):Int:=(vs.foldl (stepB b) (true,0)).2
def leB (b:Bool) (x y:Int):Prop:=cond b (x≤y) (y≤x)
theorem leB.refl (b:Bool) (x:Int):leB b x x:=by cases b<;>exact Int.le_refl x
theorem leB.trans {b:Bool} {x y z:Int} (h:leB b x y) (h':leB b y z):leB b x z:=by
 cases b
 ·exact Int.le_trans h' h
 ·exact Int.le_trans h h'
theorem leB.add {b:Bool} {x y:Int} (h:leB b x y) (a:Int):leB b (a+x) (a+y):=by
 cases b
 ·exact Int.add_le_add_left h a
 ·exact Int.add_le_add_left h a
def total:List Int→Int
 | []=>0
 | x::l=>x+total l
def lessP (l:List Int) (k:Nat):List Int:=l.set k (l.getD k 0-1)
theorem total_set:∀{l:List Int} {k:Nat} {v:Int},k<l.length→total (l.set k v)=total l-l.getD k 0+v
 | [],k,v,h=>by simp at h
 | x::l,0,v,h=>by simp [total];omega
 | x::l,k+1,v,h=>by
  have:=total_set (l:=l) (k:=k) (v:=v) (by simpa using h)
  simp only [List.set_cons_succ,total,List.getD_cons_succ]
  omega
theorem total_less {l:List Int} {k:Nat} (h:k<l.length):total (lessP l k)=total l-1:=by
 unfold lessP
 rw [total_set h]
 omega
theorem total_nn:∀{l:List Int},(∀x,x∈l→0≤x)→0≤total l
 | [],_=>Int.le_refl _
 | x::l,h=>by
  have:=h x (by simp)
  have:=total_nn (l:=l) (fun y hy=>h y (by simp [hy]))
  simp only [total]
  omega
theorem getD_le:∀{l:List Int},(∀x,x∈l→0≤x)→∀k,0≤l.getD k 0∧l.getD k 0≤total l
 | [],_,k=>by simp [total]
 | x::l,h,0=>by
  have:=h x (by simp)
  have:=total_nn (l:=l) (fun y hy=>h y (by simp [hy]))
  simp only [List.getD_cons_zero,total]
  omega
 | x::l,h,k+1=>by
  have:=h x (by simp)
  have:=getD_le (l:=l) (fun y hy=>h y (by simp [hy])) k
  simp only [List.getD_cons_succ,total]
  omega
structure OkP (w:Wheel) (l:List Int):Prop where
 len:l.length=w.Coins.length
 nn:∀x,x∈l→0≤x
 tot:total l≤1000
def bag4 (l:List Int):List Int:=[l.getD 0 0,l.getD 1 0,l.getD 2 0,l.getD 3 0]
def bagOf (l:List Int):Bag_:=⟨l.getD 0 0,l.getD 1 0,l.getD 2 0,l.getD 3 0⟩
theorem idx_bag {l:List Int} {k:Nat} (h:k<4):idx (bag4 l) (k:Int)=some (l.getD k 0):=by
 match k,h with
 | 0,_=>rfl
 | 1,_=>rfl
 | 2,_=>rfl
 | 3,_=>rfl
theorem set_bag {l:List Int} {k:Nat} {v:Int} (h:k<l.length) (h4:l.length≤4):setI (bag4 l) (k:Int) v=some (bag4 (l.set k v)):=by
 unfold setI
 rw [if_pos ⟨by omega,by simp [bag4];omega⟩,Int.toNat_natCast]
 match l,k,h,h4 with
 | [a],0,_,_=>rfl
 | [a,b],0,_,_=>rfl
 | [a,b],1,_,_=>rfl
 | [a,b,c],0,_,_=>rfl
 | [a,b,c],1,_,_=>rfl
 | [a,b,c],2,_,_=>rfl
 | [a,b,c,d],0,_,_=>rfl
 | [a,b,c,d],1,_,_=>rfl
 | [a,b,c,d],2,_,_=>rfl
 | [a,b,c,d],3,_,_=>rfl
theorem bag_inj {l l':List Int} (h:bagOf l=bagOf l') (hl:l.length=l'.length) (h4:l.length≤4):l=l':=by
 simp only [bagOf,Bag_.mk.injEq] at h
 obtain ⟨h0,h1,h2,h3⟩:=h
 apply List.ext_getElem hl
 intro i hi hi'
 have e1:l[i]=l.getD i 0:=by simp [hi]
 have e2:l'[i]=l'.getD i 0:=by simp [hi']
 rw [e1,e2]
 match i,(show i<4 by omega) with
 | 0,_=>exact h0
 | 1,_=>exact h1
 | 2,_=>exact h2
 | 3,_=>exact h3
structure Opn where
 acts:List Int
 plays:Int
 p:Int
 c:Int
 k:Nat
def optC (w:Wheel) (p c:Int) (k:Nat):Opn:=⟨[(k:Int)],(turn w p (coin w k)).2,(turn w p (coin w k)).1,c+(turn w p (coin w k)).2,k⟩
def optS (w:Wheel) (c:Int) (k:Nat):Opn:=⟨[-1,(k:Int)],(turn w 0 (coin w k)).2,(turn w 0 (coin w k)).1,c-1+(turn w 0 (coin w k)).2,k⟩
def optK (w:Wheel) (p c:Int) (k:Nat):List Opn:=optC w p c k::(if c=0∨p=0 then [] else [optS w c k])
def opts (w:Wheel) (p c:Int) (l:List Int):Nat→Nat→List Opn
 | 0,_=>[]
 | d+1,k=>(if l.getD k 0=0 then [] else optK w p c k)++opts w p c l d (k+1)
theorem opts_mem {w:Wheel} {p c:Int} {l:List Int} {o:Opn}:∀{d k:Nat},o∈opts w p c l d k↔∃j,k≤j∧j<k+d∧l.getD j 0≠0∧o∈optK w p c j
 | 0,k=>by
  simp only [opts,List.not_mem_nil,false_iff]
  rintro ⟨j,h1,h2,_⟩
  omega
 | d+1,k=>by
  simp only [opts,List.mem_append]
  rw [opts_mem]
  constructor
  ·rintro (h | ⟨j,h1,h2,h3,h4⟩)
   ·split at h
    ·simp at h
    ·rename_i h0
     exact ⟨k,Nat.le_refl k,by omega,h0,h⟩
   ·exact ⟨j,by omega,by omega,h3,h4⟩
  ·rintro ⟨j,h1,h2,h3,h4⟩
   by_cases e:j=k
   ·subst e
    exact .inl (by rw [if_neg h3];exact h4)
   ·exact .inr ⟨j,by omega,by omega,h3,h4⟩
theorem optK_mem {w:Wheel} {p c:Int} {k:Nat} {o:Opn}:o∈optK w p c k↔o=optC w p c k∨(c≠0∧p≠0∧o=optS w c k):=by
 unfold optK
 rw [List.mem_cons]
 by_cases h:c=0∨p=0
 ·rw [if_pos h]
  simp only [List.not_mem_nil,or_false]
  exact ⟨.inl,fun q=>q.elim id fun q=>(h.elim q.1 q.2.1).elim⟩
 ·rw [if_neg h]
  simp only [List.mem_singleton]
  exact or_congr_right ⟨fun q=>⟨fun e=>h (.inl e),fun e=>h (.inr e),q⟩,fun q=>q.2.2⟩
def Q (b:Bool) (w:Wheel):Nat→Int→Int→List Int→Int
 | 0,_,_,_=>0
 | T+1,p,c,l=>pick b ((opts w p c l l.length 0).map fun o=>o.plays+Q b w T o.p o.c (lessP l o.k))
structure OkO (w:Wheel) (c:Int) (l:List Int) (o:Opn):Prop where
 k:o.k<w.Coins.length
 nz:l.getD o.k 0≠0
 p0:0≤o.p
 p1:o.p<w.Round
 c0:0≤o.c
 c1:o.c≤c+100
 y0:0≤o.plays
 y1:o.plays≤100
theorem OkP.out {w:Wheel} {l:List Int} (h:OkP w l):∀j,w.Coins.length≤j→l.getD j 0=0:=fun j hj=>by
 rw [←h.len] at hj
 simp [hj]
def spot (l:List Int) (p c:Int):Spot_:=⟨bagOf l,p,c⟩
def InvM (b:Bool) (w:Wheel) (M:List (Spot_×Int)):Prop :=
 (M.map (·.1)).Nodup∧∀e,e∈M→∃l p c,e.1=spot l p c∧OkP w l∧(0≤p∧p<w.Round)∧(0≤c∧c<1099511627776)∧e.2=Q b w (total l).toNat p c l
theorem InvM.nil (b:Bool) (w:Wheel):InvM b w []:=⟨by simp,fun e h=>by simp at h⟩
theorem okI_of {x:Int} (h1:-9223372036854775808≤x) (h2:x<9223372036854775808):okI x=true:=by
 simp only [okI,Lit.wf,IntKind.min,IntKind.max,IntKind.signed,IntKind.bits]
 simp
 omega
theorem okSpot_of {w:Wheel} (h:OkW w) {l:List Int} (hl:OkP w l) {p c:Int} (hp:0≤p) (hp':p<w.Round) (hc:0≤c) (hc2:c<1099511627776):okSpot_ (spot l p c)=true:=by
 have hr:=h.r2
 have ht:=hl.tot
 have g:=getD_le hl.nn
 have g0:=g 0
 have g1:=g 1
 have g2:=g 2
 have g3:=g 3
 simp only [okSpot_,spot,bagOf,List.all_cons,List.all_nil,Bool.and_true,Bool.and_eq_true]
 exact ⟨okI_of (by omega) (by omega),okI_of (by omega) (by omega),okI_of (by omega) (by omega),okI_of (by omega) (by omega),okI_of (by omega) (by omega),okI_of (by omega) (by omega)⟩
theorem InvM.mok {b:Bool} {w:Wheel} {M:List (Spot_×Int)} (hM:InvM b w M) (h:OkW w) {l:List Int} (hl:OkP w l) {p c:Int} (hp:0≤p) (hp':p<w.Round) (hc:0≤c) (hc2:c<1099511627776):mok okSpot_ M (spot l p c)=true:=by
 unfold Go.AM.mok
 rw [okSpot_of h hl hp hp' hc hc2,show M.all (fun p=>okSpot_ p.1)=true from List.all_eq_true.2 fun e he=>?_,show decide ((M.map (·.1)).Nodup)=true by simpa using hM.1]
 ·rfl
 ·obtain ⟨l',p',c',e1,e2,e3,e4,_⟩:=hM.2 e he
  rw [e1]
  exact okSpot_of h e2 e3.1 e3.2 e4.1 e4.2
theorem InvM.get {b:Bool} {w:Wheel} {M:List (Spot_×Int)} (hM:InvM b w M) (h:OkW w) {l:List Int} (hl:OkP w l) {p c:Int} (hk:mhas M (spot l p c)=true):mget M (spot l p c)=Q b w (total l).toNat p c l:=by
 obtain ⟨l',p',c',e1,e2,e3,e4,e5⟩:=hM.2 _ (mget_mem hk)
 simp only [spot,Spot_.mk.injEq] at e1
 obtain ⟨q1,q2,q3⟩:=e1
 have e:l=l':=bag_inj q1 (by rw [hl.len,e2.len]) (by rw [hl.len];exact h.clen)
 subst e q2 q3
 exact e5
theorem InvM.set {b:Bool} {w:Wheel} {M:List (Spot_×Int)} (hM:InvM b w M) {l:List Int} (hl:OkP w l) {p c:Int} (hp:0≤p) (hp':p<w.Round) (hc:0≤c) (hc2:c<1099511627776):InvM b w (mset M (spot l p c) (Q b w (total l).toNat p c l)):=by
 refine ⟨mset_nodup hM.1,fun e he=>?_⟩
 rcases mset_mem he with rfl | he
 ·exact ⟨l,p,c,rfl,hl,⟨hp,hp'⟩,⟨hc,hc2⟩,rfl⟩
 ·exact hM.2 e he
theorem total_bag {l:List Int} (h4:l.length≤4):l.getD 0 0+l.getD 1 0+l.getD 2 0+l.getD 3 0=total l:=by
 match l,h4 with
 | [],_=>rfl
 | [a],_=>simp [total]
 | [a,b],_=>simp [total]
 | [a,b,c],_=>simp [total];omega
 | [a,b,c,d],_=>simp [total];omega
def isPurse (w:Wheel) (l:List Int):Bool:=decide (l.length=w.Coins.length)&&l.all (fun x=>inR x 0 12)&&decide (total l≤12)
theorem purse_ok {w:Wheel} {l:List Int} (h:isPurse w l=true):OkP w l∧total l≤12:=by
 simp only [isPurse,Bool.and_eq_true,decide_eq_true_eq,List.all_eq_true] at h
 exact ⟨⟨h.1.1,fun x hx=>(inR_iff.1 (h.1.2 x hx)).1,by omega⟩,h.2⟩
theorem IsPurse_eq {n:Nat} {w:Wheel} (hw:w.Coins.length<100000) (hn:w.Coins.length<n) (l:List Int):ref01_IsPurse n w l=some (isPurse w l):=by
 unfold ref01_IsPurse isPurse
 by_cases hl:l.length=w.Coins.length
 ·rw [if_neg (by simp;omega)]
  have key:=loopI (F:=fun m i (s:Int)=>ref01_IsPurse_l1 l m s i) (xs:=l) (spec:=fun k s=>some (k.all (fun x=>inR x 0 12)&&decide (s+total k≤12))) (I:=fun k s=>0≤s∧s+12*k.length≤100000000) (by omega)
   (fun m s hI=>by simp [ref01_IsPurse_l1,ref01_IsPurse_l1_b,ref01_IsPurse_j1,total])
   (fun m i x k s hI hx hi _ _ hrec=>by
    simp only [List.length_cons] at hI
    simp only [ref01_IsPurse_l1,ref01_IsPurse_l1_b]
    rw [if_pos (by simpa using hi),hx,bnd_some,Within_eq,bnd_some,bnd_some]
    by_cases q:inR x 0 12=true
    ·have:=inR_iff.1 q
     rw [if_neg (by simp [q]),w64_id (x:=s+x) (by omega) (by omega),hrec (s+x) ⟨by omega,by omega⟩]
     have e:s+total (x::k)=s+x+total k:=by simp only [total];omega
     rw [e]
     simp only [List.all_cons,q,Bool.true_and]
    ·rw [if_pos (by simpa using q)]
     simp [q])
   l 0 n 0 (by omega) rfl (by omega) ⟨by omega,by omega⟩
  rw [show ref01_IsPurse_l1 l n 0 0=_ from key]
  simp [hl]
 ·rw [if_pos (by simp;omega)]
  simp [hl]
def buysL (w:Wheel):Stand→List Int→Int
 | _,[]=>0
 | s,a::l=>(if 0≤a then (turn w s.Place (coin w a)).2 else 0)+buysL w (actS w s a).1 l
def cnt (k:Int):List Int→Int
 | []=>0
 | a::l=>(if a=k then 1 else 0)+cnt k l
theorem cnt_append (k:Int):∀(a b:List Int),cnt k (a++b)=cnt k a+cnt k b
 | [],b=>by simp [cnt]
 | x::a,b=>by
  simp only [List.cons_append,cnt]
  rw [cnt_append k a b]
  omega
structure Way (w:Wheel) (s:Stand) (l acts:List Int) (q:Int):Prop where
 ok:acts.all (okAct w)=true
 len:(acts.length:Int)≤2*total l
 bag:∀k:Nat,k<w.Coins.length→cnt k acts=l.getD k 0
 buys:buysL w s acts=q
theorem lessP_getD {l:List Int} {k j:Nat} (hk:k<l.length):(lessP l k).getD j 0=l.getD j 0-(if k=j then 1 else 0):=by
 unfold lessP
 by_cases e:k=j
 ·subst e
  rw [if_pos rfl,List.getD_eq_getElem?_getD,List.getElem?_set_self hk]
  rfl
 ·rw [if_neg e,List.getD_eq_getElem?_getD,List.getElem?_set_ne e,←List.getD_eq_getElem?_getD]
  omega
theorem okAct_k {w:Wheel} {k:Nat} (h:k<w.Coins.length):okAct w k=true:=inR_iff.2 ⟨by omega,by omega⟩
theorem okAct_s {w:Wheel}:okAct w (-1)=true:=inR_iff.2 ⟨by omega,by omega⟩
theorem actS_k (w:Wheel) (p c:Int) (k:Nat):actS w ⟨p,c⟩ (k:Int)=(⟨(optC w p c k).p,(optC w p c k).c⟩,false):=by
 unfold actS
 rw [if_pos (by omega)]
 rfl
theorem actS_s (w:Wheel) (p c:Int) (hc:c≠0):actS w ⟨p,c⟩ (-1)=(⟨0,c-1⟩,true):=by
 unfold actS
 rw [if_neg (by omega),if_neg hc]
theorem Way.step {w:Wheel} {p c:Int} {l acts:List Int} {q:Int} {o:Opn} (hl:OkP w l) (hc:0≤c) (ho:o∈opts w p c l l.length 0) (h:Way w ⟨o.p,o.c⟩ (lessP l o.k) acts q):Way w ⟨p,c⟩ l (o.acts++acts) (o.plays+q):=by
 obtain ⟨j,_,h2,h3,h4⟩:=opts_mem.1 ho
 have hj:j<l.length:=by omega
 have hj':j<w.Coins.length:=by have:=hl.len;omega
 rcases optK_mem.1 h4 with rfl | ⟨h5,h6,rfl⟩
 ·refine ⟨?_,?_,fun k hk=>?_,?_⟩
  ·show List.all ([(j:Int)]++acts) (okAct w)=true
   rw [List.singleton_append,List.all_cons,okAct_k hj',h.ok]
   rfl
  ·have:=h.len
   have e:=total_less hj
   show ((([(j:Int)]++acts).length:Nat):Int)≤_
   rw [show (optC w p c j).k=j from rfl] at this
   simp
   omega
  ·show cnt k ((j:Int)::acts)=_
   simp only [cnt]
   rw [h.bag k hk,show (optC w p c j).k=j from rfl,lessP_getD hj]
   by_cases e:j=k
   ·rw [if_pos (by omega),if_pos e];omega
   ·rw [if_neg (by omega),if_neg e];omega
  ·show buysL w ⟨p,c⟩ ((j:Int)::acts)=_
   simp only [buysL]
   rw [if_pos (by omega),actS_k,h.buys]
   rfl
 ·refine ⟨?_,?_,fun k hk=>?_,?_⟩
  ·show List.all ([-1,(j:Int)]++acts) (okAct w)=true
   rw [List.cons_append,List.singleton_append,List.all_cons,List.all_cons,okAct_k hj',okAct_s,h.ok]
   rfl
  ·have:=h.len
   have e:=total_less hj
   show ((([-1,(j:Int)]++acts).length:Nat):Int)≤_
   rw [show (optS w c j).k=j from rfl] at this
   simp
   omega
  ·show cnt k (-1::(j:Int)::acts)=_
   simp only [cnt]
   rw [h.bag k hk,show (optS w c j).k=j from rfl,lessP_getD hj,if_neg (by omega)]
   by_cases e:j=k
   ·rw [if_pos (by omega),if_pos e];omega
   ·rw [if_neg (by omega),if_neg e];omega
  ·show buysL w ⟨p,c⟩ (-1::(j:Int)::acts)=_
   simp only [buysL]
   rw [if_neg (by omega),actS_s w p c h5]
   simp only []
   rw [if_pos (by omega),actS_k]
   rw [show (⟨(optC w 0 (c-1) j).p,(optC w 0 (c-1) j).c⟩:Stand)=⟨(optS w c j).p,(optS w c j).c⟩ from rfl,h.buys]
   show 0+((turn w 0 (coin w j)).2+q)=(turn w 0 (coin w j)).2+q
   omega
def wsum (w:Wheel) (l:List Int):Nat→Nat→Int
 | 0,_=>0
 | d+1,k=>coin w k*l.getD k 0+wsum w l d (k+1)
def purseW (w:Wheel) (l:List Int):Int:=wsum w l w.Coins.length 0
theorem wterm {w:Wheel} (h:OkW w) {l:List Int} (hl:∀k,0≤l.getD k 0∧l.getD k 0≤1000) {k:Nat} (hk:k<w.Coins.length):0≤coin w k*l.getD k 0∧coin w k*l.getD k 0≤100000:=by
 have hco:=coin_range h (a:=(k:Int)) (by omega) (by omega)
 have:=hl k
 refine ⟨Int.mul_nonneg (by omega) (by omega),?_⟩
 have h1:coin w k*l.getD k 0≤100*l.getD k 0:=Int.mul_le_mul_of_nonneg_right hco.2 (by omega)
 omega
theorem wsum_range {w:Wheel} (h:OkW w) {l:List Int} (hl:∀k,0≤l.getD k 0∧l.getD k 0≤1000):∀(d k:Nat),k+d≤w.Coins.length→0≤wsum w l d k∧wsum w l d k≤100000*d
 | 0,k,_=>by simp [wsum]
 | d+1,k,hk=>by
  have:=wsum_range h hl d (k+1) (by omega)
  have:=wterm h hl (show k<w.Coins.length by omega)
  simp only [wsum]
  omega
theorem wsum_mono {w:Wheel} (h:OkW w) {l l':List Int}:∀(d k:Nat),k+d≤w.Coins.length→(∀j,l.getD j 0≤l'.getD j 0)→wsum w l d k≤wsum w l' d k
 | 0,k,_,_=>by simp [wsum]
 | d+1,k,hk,hl=>by
  have:=wsum_mono h d (k+1) (by omega) hl
  have hco:=coin_range h (a:=(k:Int)) (by omega) (by omega)
  have:=Int.mul_le_mul_of_nonneg_left (hl k) (show 0≤coin w k by omega)
  simp only [wsum]
  omega
def down:Nat→List Int
 | 0=>[0]
 | n+1=>((n+1:Nat):Int)::down n
def upF:Nat→Nat→List Int
 | _,0=>[]
 | i,d+1=>(i:Int)::upF (i+1) d
theorem upF_mem {v:Int}:∀{d i:Nat},v∈upF i d↔(i:Int)≤v∧v<i+d
 | 0,i=>by simp [upF]<;>omega
 | d+1,i=>by
  simp only [upF,List.mem_cons,upF_mem]
  omega
theorem upF_len:∀(d i:Nat),(upF i d).length=d
 | 0,i=>rfl
 | d+1,i=>by simp [upF,upF_len d (i+1)]
def Part (t l:List Int):Prop:=t.length=l.length∧∀k,0≤t.getD k 0∧t.getD k 0≤l.getD k 0
def cutP (w:Wheel) (t:List Int):List Int:=t.take w.Coins.length
structure OkT (w:Wheel) (t:List Int):Prop where
 len:t.length=4
 rng:∀k,0≤t.getD k 0∧t.getD k 0≤1000
 out:∀k,w.Coins.length≤k→t.getD k 0=0
 tot:total (cutP w t)≤1000
theorem cutP_getD {w:Wheel} {t:List Int} (h:OkT w t) (k:Nat):(cutP w t).getD k 0=t.getD k 0:=by
 unfold cutP
 rw [List.getD_eq_getElem?_getD,List.getElem?_take]
 split
 ·rfl
 ·rw [h.out k (by omega)]
  rfl
theorem OkT.purse {w:Wheel} (hw:OkW w) {t:List Int} (h:OkT w t):OkP w (cutP w t):=by
 have h4:=hw.clen
 have hl:=h.len
 refine ⟨by simp [cutP];omega,fun x hx=>?_,h.tot⟩
 obtain ⟨i,hi,rfl⟩:=List.getElem_of_mem hx
 have e:(cutP w t)[i]=(cutP w t).getD i 0:=by simp [hi]
 rw [e,cutP_getD h]
 exact (h.rng i).1
theorem OkT.bag {w:Wheel} {t:List Int} (h:OkT w t):bagOf t=bagOf (cutP w t):=by
 simp only [bagOf,cutP_getD h]
def endS (w:Wheel):Stand→List Int→Stand
 | s,[]=>s
 | s,a::l=>endS w (actS w s a).1 l
theorem endS_append (w:Wheel):∀(a b:List Int) (s:Stand),endS w s (a++b)=endS w (endS w s a) b
 | [],b,s=>rfl
 | x::a,b,s=>endS_append w a b _
theorem buysL_append (w:Wheel):∀(a b:List Int) (s:Stand),buysL w s (a++b)=buysL w s a+buysL w (endS w s a) b
 | [],b,s=>by simp [buysL,endS]
 | x::a,b,s=>by
  simp only [List.cons_append,buysL,endS]
  rw [buysL_append w a b]
  omega
theorem endS_ok {w:Wheel} (h:OkW w):∀(acts:List Int) (s:Stand) (b:Int),OkS w s b→acts.all (okAct w)=true→OkS w (endS w s acts) (b+100*acts.length)
 | [],s,b,hs,_=>by simpa [endS] using hs
 | a::l,s,b,hs,ha=>by
  rw [List.all_cons,Bool.and_eq_true] at ha
  have:=endS_ok h l _ _ (actS_ok h hs ha.1) ha.2
  simp only [endS,List.length_cons]
  rwa [show b+100*((l.length+1:Nat):Int)=b+100+100*(l.length:Int) by omega]
def Can (w:Wheel) (al:List Int) (v:Int):Prop:=∃acts:List Int,acts.all (okAct w)=true∧(∀k:Nat,k<w.Coins.length→cnt k acts=al.getD k 0)∧buysL w ⟨0,0⟩ acts=v
structure Pn where
 p:Int
 c:Int
 l:List Int
 b:Int
def zl (w:Wheel):List Int:=List.replicate w.Coins.length 0
def plusP (l:List Int) (k:Nat):List Int:=l.set k (l.getD k 0+1)
def selP (cl:Int→Int→Int) (x:Pn):Pn:=⟨0,cl (total x.l) (x.c-1),x.l,x.b⟩
def coinP (cl:Int→Int→Int) (w:Wheel) (x:Pn) (k:Nat):Pn:=⟨(turn w x.p (coin w k)).1,cl (total x.l+1) (x.c+(turn w x.p (coin w k)).2),plusP x.l k,x.b+(turn w x.p (coin w k)).2⟩
def zeroP (w:Wheel):Pn:=⟨0,0,zl w,0⟩
inductive RP (cl:Int→Int→Int) (w:Wheel) (al:List Int):List Int→Pn→Prop
 | zero:RP cl w al [] (zeroP w)
 | sel {acts:List Int} {x:Pn} (h:RP cl w al acts x) (hc:0<x.c) (hp:0<x.p):RP cl w al (acts++[-1]) (selP cl x)
 | coin {acts:List Int} {x:Pn} {k:Nat} (h:RP cl w al acts x) (hk:k<w.Coins.length) (hl:x.l.getD k 0≠al.getD k 0):RP cl w al (acts++[(k:Int)]) (coinP cl w x k)
theorem total_zl:∀n:Nat,total (List.replicate n 0)=0
 | 0=>rfl
 | n+1=>by rw [List.replicate_succ,total,total_zl n];rfl
theorem zl_getD (w:Wheel) (k:Nat):(zl w).getD k 0=0:=by
 unfold zl
 rw [List.getD_eq_getElem?_getD,List.getElem?_replicate]
 split<;>rfl
theorem plusP_len (l:List Int) (k:Nat):(plusP l k).length=l.length:=by simp [plusP]
theorem plusP_getD {l:List Int} {k j:Nat} (hk:k<l.length):(plusP l k).getD j 0=l.getD j 0+(if k=j then 1 else 0):=by
 unfold plusP
 by_cases e:k=j
 ·subst e
  rw [if_pos rfl,List.getD_eq_getElem?_getD,List.getElem?_set_self hk]
  rfl
 ·rw [if_neg e,List.getD_eq_getElem?_getD,List.getElem?_set_ne e,←List.getD_eq_getElem?_getD]
  omega
theorem total_plus {l:List Int} {k:Nat} (h:k<l.length):total (plusP l k)=total l+1:=by
 unfold plusP
 rw [total_set h]
 omega
theorem total_le_of:∀{l m:List Int},l.length=m.length→(∀k,l.getD k 0≤m.getD k 0)→total l≤total m
 | [],[],_,_=>Int.le_refl _
 | [],_::_,h,_=>by simp at h
 | _::_,[],h,_=>by simp at h
 | x::l,y::m,h,hk=>by
  have h0:=hk 0
  have:=total_le_of (l:=l) (m:=m) (by simpa using h) (fun k=>by simpa using hk (k+1))
  simp only [total]
  simp at h0
  omega
theorem total_lt_of {l m:List Int} (h:l.length=m.length) (hk:∀k,l.getD k 0≤m.getD k 0) {k:Nat} (hlt:l.getD k 0<m.getD k 0):total l<total m:=by
 have hkl:k<l.length:=by
  rcases Nat.lt_or_ge k l.length with h1 | h1
  ·exact h1
  ·rw [List.getD_eq_getElem?_getD,List.getD_eq_getElem?_getD,List.getElem?_eq_none h1,List.getElem?_eq_none (by omega)] at hlt
   simp at hlt
 have h1:=total_le_of (l:=plusP l k) (m:=m) (by rw [plusP_len];exact h) fun j=>by
  rw [plusP_getD hkl]
  have:=hk j
  split
  ·rename_i e
   subst e
   omega
  ·omega
 rw [total_plus hkl] at h1
 omega
structure Clamp (cl:Int→Int→Int) (T:Int):Prop where
 le:∀t c,cl t c≤c
 nn:∀t c,t≤T→0≤c→0≤cl t c
structure OkX (w:Wheel) (al:List Int) (acts:List Int) (x:Pn):Prop where
 p0:0≤x.p
 p1:x.p<w.Round
 c0:0≤x.c
 cb:x.c≤x.b
 bt:x.b≤100*total x.l
 len:x.l.length=w.Coins.length
 nn:∀k,0≤x.l.getD k 0
 le:∀k,x.l.getD k 0≤al.getD k 0
 ok:acts.all (okAct w)=true
 bag:∀k:Nat,cnt k acts=x.l.getD k 0
 buys:buysL w ⟨0,0⟩ acts=x.b
 pl:(endS w ⟨0,0⟩ acts).Place=x.p
 cr:x.c≤(endS w ⟨0,0⟩ acts).Credit
theorem cnt_single (k:Nat) (a:Int):cnt k [a]=if a=(k:Int) then 1 else 0:=by simp [cnt]
theorem RP.ok {cl:Int→Int→Int} {w:Wheel} {al:List Int} (h:OkW w) (hl:al.length=w.Coins.length) (hnn:∀k,0≤al.getD k 0) (hcl:Clamp cl (total al)) {acts:List Int} {x:Pn} (hr:RP cl w al acts x):OkX w al acts x:=by
 have hr1:=h.r1
 induction hr with
 | zero=>exact ⟨Int.le_refl _,by show (0:Int)<w.Round;omega,Int.le_refl _,Int.le_refl _,by show (0:Int)≤100*total (zl w);rw [show total (zl w)=0 from total_zl _];omega,by simp [zeroP,zl],fun k=>by show 0≤(zl w).getD k 0;rw [zl_getD];omega,fun k=>by show (zl w).getD k 0≤_;rw [zl_getD];exact hnn k,rfl,fun k=>by show _=(zl w).getD k 0;rw [zl_getD];rfl,rfl,rfl,Int.le_refl _⟩
 | @sel acts x hr hc hp ih =>
  have ht:total x.l≤total al:=total_le_of (by rw [ih.len,hl]) ih.le
  have hcr:=ih.cr
  have he:actS w (endS w ⟨0,0⟩ acts) (-1)=(⟨0,(endS w ⟨0,0⟩ acts).Credit-1⟩,true):=by
   unfold actS
   rw [if_neg (by omega),if_neg (by omega)]
  have hle:=hcl.le (total x.l) (x.c-1)
  have hcb:=ih.cb
  refine ⟨Int.le_refl _,by show (0:Int)<w.Round;omega,hcl.nn _ _ ht (by omega),by show cl _ _≤x.b;omega,ih.bt,ih.len,ih.nn,ih.le,?_,fun k=>?_,?_,?_,?_⟩
  ·rw [List.all_append,ih.ok]
   simp [okAct_s]
  ·rw [cnt_append,ih.bag,cnt_single,if_neg (by omega)]
   exact Int.add_zero _
  ·rw [buysL_append,ih.buys]
   simp [buysL,selP]
  ·rw [endS_append]
   simp only [endS,he]
   rfl
  ·rw [endS_append]
   simp only [endS,he]
   show cl _ _≤_
   omega
 | @coin acts x k hr hk hne ih =>
  have hkl:k<x.l.length:=by rw [ih.len];exact hk
  have hlt:x.l.getD k 0<al.getD k 0:=by have:=ih.le k;omega
  have ht:total x.l<total al:=total_lt_of (by rw [ih.len,hl]) ih.le hlt
  have hcoin:=coin_range h (a:=(k:Int)) (by omega) (by omega)
  have htr:=turn_range h ih.p0 ih.p1 (show 0≤Go.Law.coin w k by omega)
  have hcb:=ih.cb
  have hbt:=ih.bt
  have hc0:=ih.c0
  have hcr:=ih.cr
  have he:(actS w (endS w ⟨0,0⟩ acts) (k:Int)).1=⟨(turn w x.p (Go.Law.coin w k)).1,(endS w ⟨0,0⟩ acts).Credit+(turn w x.p (Go.Law.coin w k)).2⟩:=by
   unfold actS
   rw [if_pos (by omega),ih.pl]
  have hle:=hcl.le (total x.l+1) (x.c+(turn w x.p (Go.Law.coin w k)).2)
  refine ⟨htr.1.1,htr.1.2,hcl.nn _ _ (by omega) (by omega),?_,?_,?_,fun j=>?_,fun j=>?_,?_,fun j=>?_,?_,?_,?_⟩
  ·show cl _ _≤x.b+_
   omega
  ·show x.b+_≤100*total (plusP x.l k)
   rw [total_plus hkl]
   omega
  ·show (plusP x.l k).length=_
   rw [plusP_len,ih.len]
  ·show 0≤(plusP x.l k).getD j 0
   rw [plusP_getD hkl]
   have:=ih.nn j
   split<;>omega
  ·show (plusP x.l k).getD j 0≤_
   rw [plusP_getD hkl]
   have:=ih.le j
   split
   ·rename_i e
    subst e
    omega
   ·omega
  ·rw [List.all_append,ih.ok]
   simp [okAct_k hk]
  ·show _=(plusP x.l k).getD j 0
   rw [cnt_append,ih.bag,cnt_single,plusP_getD hkl]
   congr 1
   by_cases e:k=j
   ·subst e;simp
   ·rw [if_neg e,if_neg (by omega)]
  ·rw [buysL_append,ih.buys]
   simp only [buysL,ih.pl]
   rw [if_pos (by omega)]
   show x.b+(_+0)=x.b+_
   omega
  ·rw [endS_append]
   simp only [endS,he]
   rfl
  ·rw [endS_append]
   simp only [endS,he]
   show cl _ _≤_
   omega
theorem nn_mem {al:List Int} (h:∀k,0≤al.getD k 0):∀x,x∈al→0≤x:=fun x hx=>by
 obtain ⟨k,hk⟩:=List.getElem?_of_mem hx
 have:=h k
 rwa [List.getD_eq_getElem?_getD,hk] at this
theorem nil_or_snoc (l:List Int):l=[]∨∃q a,l=q++[a]:=nil_or_last l
def clT (T:Int):Int→Int→Int:=fun t c=>min c (T-t)
theorem clamp_T (T:Int):Clamp (clT T) T:=⟨fun t c=>by unfold clT;omega,fun t c h1 h2=>by unfold clT;omega⟩
theorem okAct_cases {w:Wheel} {a:Int} (h:okAct w a=true):a=-1∨∃k:Nat,k<w.Coins.length∧a=k:=by
 have h:=inR_iff.1 h
 by_cases h0:0≤a
 ·exact .inr ⟨a.toNat,by omega,by omega⟩
 ·exact .inl (by omega)
theorem cnt_mono {k:Nat} {l:List Int} {a:Int}:cnt k l≤cnt k (l++[a]):=by
 rw [cnt_append,cnt_single]
 split<;>omega
theorem reach_T {w:Wheel} {al:List Int} (h:OkW w) (hl:al.length=w.Coins.length) (hnn:∀k,0≤al.getD k 0):∀(n:Nat) (acts:List Int),acts.length=n→acts.all (okAct w)=true→(∀k:Nat,k<w.Coins.length→cnt k acts≤al.getD k 0) →
  ∃acts' x,RP (clT (total al)) w al acts' x∧x.b=buysL w ⟨0,0⟩ acts∧(∀k:Nat,k<w.Coins.length→x.l.getD k 0=cnt k acts)∧(total x.l<total al→x.p=(endS w ⟨0,0⟩ acts).Place∧min (endS w ⟨0,0⟩ acts).Credit (if x.p=0 then total al-total x.l-1 else total al-total x.l)≤x.c)
 | 0,acts,hlen,_,_=>by
  obtain rfl:=List.eq_nil_of_length_eq_zero hlen
  refine ⟨[],zeroP w,.zero,rfl,fun k _=>zl_getD w k,fun ht=>⟨rfl,?_⟩⟩
  show min (0:Int) _≤0
  omega
 | n+1,acts,hlen,hok,hbag=>by
  rcases nil_or_snoc acts with rfl | ⟨l,a,rfl⟩
  ·simp at hlen
  rw [List.all_append,Bool.and_eq_true] at hok
  have hoa:okAct w a=true:=by simpa using hok.2
  obtain ⟨acts',x,hr,hb,hcn,hx⟩:=reach_T h hl hnn n l (by simpa using hlen) hok.1 fun k hk=>Int.le_trans cnt_mono (hbag k hk)
  have hX:=hr.ok h hl hnn (clamp_T _)
  have hes:=endS_ok h l ⟨0,0⟩ 0 ⟨Int.le_refl _,by show (0:Int)<w.Round;have:=h.r1;omega,Int.le_refl _,Int.le_refl _⟩ hok.1
  have hec:=hes.c0
  have hep:=hes.p0
  have htl:total x.l≤total al:=total_le_of (by rw [hX.len,hl]) hX.le
  rcases okAct_cases hoa with rfl | ⟨k,hk,rfl⟩
  ·have hbu:buysL w ⟨0,0⟩ (l++[-1])=buysL w ⟨0,0⟩ l:=by rw [buysL_append];simp [buysL]
   have hcn':∀k:Nat,cnt k (l++[-1])=cnt k l:=fun k=>by
    rw [cnt_append,cnt_single,if_neg (by omega)]
    exact Int.add_zero _
   have he:endS w ⟨0,0⟩ (l++[-1])=if (endS w ⟨0,0⟩ l).Credit=0 then endS w ⟨0,0⟩ l else ⟨0,(endS w ⟨0,0⟩ l).Credit-1⟩:=by
    rw [endS_append]
    simp only [endS,actS]
    rw [if_neg (by omega)]
    split<;>rfl
   by_cases ht:total x.l<total al
   ·obtain ⟨hp,hc⟩:=hx ht
    by_cases hz:(endS w ⟨0,0⟩ l).Credit=0
    ·exact ⟨acts',x,hr,by rw [hbu,hb],fun k hk=>by rw [hcn',hcn k hk],fun _=>by rw [he,if_pos hz];exact ⟨hp,hc⟩⟩
    ·by_cases hp0:x.p=0
     ·refine ⟨acts',x,hr,by rw [hbu,hb],fun k hk=>by rw [hcn',hcn k hk],fun _=>?_⟩
      rw [he,if_neg hz]
      refine ⟨hp0,?_⟩
      rw [if_pos hp0] at hc ⊢
      show min (_-1) _≤_
      omega
     ·rw [if_neg hp0] at hc
      have hp1:=hX.p0
      refine ⟨_,_,hr.sel (by omega) (by omega),by rw [hbu,←hb];rfl,fun k hk=>by rw [hcn',←hcn k hk];rfl,fun _=>?_⟩
      rw [he,if_neg hz]
      refine ⟨rfl,?_⟩
      show min (_-1) (if (0:Int)=0 then _ else _)≤min (x.c-1) (total al-total x.l)
      rw [if_pos rfl]
      show min (_-1) (total al-total x.l-1)≤_
      omega
   ·exact ⟨acts',x,hr,by rw [hbu,hb],fun k hk=>by rw [hcn',hcn k hk],fun ht'=>absurd ht' ht⟩
  ·have hck:cnt k (l++[(k:Int)])=cnt k l+1:=by rw [cnt_append,cnt_single,if_pos rfl]
   have hlt:x.l.getD k 0<al.getD k 0:=by
    have:=hbag k hk
    rw [hcn k hk]
    omega
   have ht:total x.l<total al:=total_lt_of (by rw [hX.len,hl]) hX.le hlt
   obtain ⟨hp,hc⟩:=hx ht
   have hkl:k<x.l.length:=by rw [hX.len];exact hk
   have he:endS w ⟨0,0⟩ (l++[(k:Int)])=⟨(turn w x.p (coin w k)).1,(endS w ⟨0,0⟩ l).Credit+(turn w x.p (coin w k)).2⟩:=by
    rw [endS_append]
    simp only [endS,actS]
    rw [if_pos (by omega),hp]
   have hcoin:=coin_range h (a:=(k:Int)) (by omega) (by omega)
   have htr:=turn_range h hX.p0 hX.p1 (show 0≤coin w k by omega)
   have hc0:=hX.c0
   refine ⟨_,_,hr.coin hk (by omega),?_,fun j hj=>?_,fun ht'=>?_⟩
   ·rw [buysL_append]
    simp only [buysL]
    rw [if_pos (by omega),←hb,←hp]
    show x.b+_=x.b+(_+0)
    omega
   ·show (plusP x.l k).getD j 0=_
    rw [plusP_getD hkl,hcn j hj,cnt_append,cnt_single]
    congr 1
    by_cases e:k=j
    ·subst e;simp
    ·rw [if_neg e,if_neg (by omega)]
   ·rw [he]
    refine ⟨rfl,?_⟩
    show min (_+_) (if (turn w x.p (coin w k)).1=0 then total al-total (plusP x.l k)-1 else total al-total (plusP x.l k))≤min (x.c+_) (total al-(total x.l+1))
    rw [total_plus hkl]
    by_cases h1:x.p=0
    ·rw [if_pos h1] at hc
     split<;>omega
    ·rw [if_neg h1] at hc
     split<;>omega
theorem list_eq_getD {l m:List Int} {n:Nat} (h1:l.length=n) (h2:m.length=n) (h:∀k:Nat,k<n→l.getD k 0=m.getD k 0):l=m:=by
 apply List.ext_getElem (by omega)
 intro k a b
 have:=h k (by omega)
 simpa [List.getD_eq_getElem?_getD,a,b] using this
theorem can_T {w:Wheel} {al:List Int} (h:OkW w) (hl:al.length=w.Coins.length) (hnn:∀k,0≤al.getD k 0) {v:Int}:Can w al v↔∃acts x,RP (clT (total al)) w al acts x∧x.l=al∧x.b=v:=by
 constructor
 ·rintro ⟨acts,hok,hbag,hb⟩
  obtain ⟨acts',x,hr,h1,h2,_⟩:=reach_T h hl hnn acts.length acts rfl hok fun k hk=>Int.le_of_eq (hbag k hk)
  have hX:=hr.ok h hl hnn (clamp_T _)
  exact ⟨acts',x,hr,list_eq_getD hX.len hl fun k hk=>by rw [h2 k hk,hbag k hk],by rw [h1,hb]⟩
 ·rintro ⟨acts,x,hr,rfl,rfl⟩
  have hX:=hr.ok h hl hnn (clamp_T _)
  exact ⟨acts,hX.ok,fun k _=>hX.bag k,hX.buys⟩
theorem RP.short {w:Wheel} {al:List Int} (h:OkW w) (hl:al.length=w.Coins.length) (hnn:∀k,0≤al.getD k 0) {acts:List Int} {x:Pn} (hr:RP (clT (total al)) w al acts x) :
  x.c≤total al-total x.l∧((acts.length:Int)≤2*total x.l∨x.p=0∧total x.l<total al∧(acts.length:Int)≤2*total x.l+1):=by
 induction hr with
 | zero =>
  have h0:total (zl w)=0:=total_zl _
  have h1:0≤total al:=total_nn (nn_mem hnn)
  refine ⟨?_,.inl ?_⟩
  ·show (0:Int)≤total al-total (zl w)
   omega
  ·show ((0:Nat):Int)≤2*total (zl w)
   omega
 | @sel acts x hr hc hp ih =>
  refine ⟨?_,.inr ⟨rfl,?_,?_⟩⟩
  ·show min (x.c-1) (total al-total x.l)≤total al-total x.l
   omega
  ·show total x.l<total al
   omega
  ·show ((acts++[-1]).length:Int)≤2*total x.l+1
   rw [List.length_append,List.length_singleton]
   rcases ih.2 with h1 | ⟨h1,_⟩
   ·omega
   ·omega
 | @coin acts x k hr hk hne ih =>
  have hX:=hr.ok h hl hnn (clamp_T _)
  have hkl:k<x.l.length:=by rw [hX.len];exact hk
  refine ⟨?_,.inl ?_⟩
  ·show min _ (total al-(total x.l+1))≤total al-total (plusP x.l k)
   rw [total_plus hkl]
   omega
  ·show ((acts++[(k:Int)]).length:Int)≤2*total (plusP x.l k)
   rw [total_plus hkl,List.length_append,List.length_singleton]
   rcases ih.2 with h1 | ⟨_,_,h1⟩<;>omega
def lvl (cl:Int→Int→Int) (w:Wheel):Nat→List Pn
 | 0=>[zeroP w]
 | t+1=>(lvl cl w t++(lvl cl w t).map (selP cl)).flatMap fun x=>(List.range w.Coins.length).map fun k=>coinP cl w x k
def lvs (cl:Int→Int→Int) (w:Wheel) (t:Nat):List Pn:=lvl cl w t++(lvl cl w t).map (selP cl)
def upTo (cl:Int→Int→Int) (w:Wheel):Nat→List Pn
 | 0=>lvs cl w 0
 | t+1=>upTo cl w t++lvs cl w (t+1)
theorem flatMap_le {α β:Type} {f:α→List β} {c:Nat}:∀{l:List α},(∀x,x∈l→(f x).length≤c)→(l.flatMap f).length≤l.length*c
 | [],_=>by simp
 | x::l,h=>by
  have h1:=h x (by simp)
  have h2:=flatMap_le (f:=f) (c:=c) (l:=l) fun y hy=>h y (by simp [hy])
  simp only [List.flatMap_cons,List.length_append,List.length_cons,Nat.add_mul,Nat.one_mul]
  omega
theorem lvl_len (cl:Int→Int→Int) {w:Wheel} (hk:w.Coins.length≤3):∀t,(lvl cl w t).length≤6 ^ t
 | 0=>by simp [lvl]
 | t+1=>by
  have h1:=lvl_len cl hk t
  unfold lvl
  refine Nat.le_trans (flatMap_le (c:=3) fun x _=>by simp;exact hk) ?_
  rw [List.length_append,List.length_map,Nat.pow_succ]
  omega
theorem upTo_len (cl:Int→Int→Int) {w:Wheel} (hk:w.Coins.length≤3) {t:Nat} (ht:t≤5):(upTo cl w t).length≤93312:=by
 have key:∀t,t≤5→(upTo cl w t).length≤(t+1)*15552:=by
  intro t
  induction t with
  | zero =>
   intro _
   have:=lvl_len cl hk 0
   simp only [upTo,lvs,List.length_append,List.length_map]
   omega
  | succ t ih =>
   intro ht
   have h1:=ih (by omega)
   have h2:=lvl_len cl hk (t+1)
   have h3:6 ^ (t+1)≤6 ^ 5:=Nat.pow_le_pow_right (by omega) ht
   simp only [upTo,lvs,List.length_append,List.length_map]
   have:(6:Nat) ^ 5=7776:=by decide
   omega
 have:=key t ht
 omega
theorem RP.level {cl:Int→Int→Int} {w:Wheel} {al:List Int} (h:OkW w) (hl:al.length=w.Coins.length) (hnn:∀k,0≤al.getD k 0) (hcl:Clamp cl (total al)) {acts:List Int} {x:Pn} (hr:RP cl w al acts x):x∈lvl cl w (total x.l).toNat∨x.p=0∧x∈(lvl cl w (total x.l).toNat).map (selP cl):=by
 induction hr with
 | zero =>
  refine .inl ?_
  have:total (zeroP w).l=0:=total_zl _
  rw [this]
  simp [lvl]
 | @sel acts x hr hc hp ih =>
  refine .inr ⟨rfl,?_⟩
  show selP cl x∈(lvl cl w (total x.l).toNat).map (selP cl)
  rcases ih with ih | ⟨h0,_⟩
  ·exact List.mem_map.2 ⟨x,ih,rfl⟩
  ·omega
 | @coin acts x k hr hk hne ih =>
  have hX:=hr.ok h hl hnn hcl
  have hkl:k<x.l.length:=by rw [hX.len];exact hk
  have h0:0≤total x.l:=total_nn (nn_mem hX.nn)
  refine .inl ?_
  have e:(total (coinP cl w x k).l).toNat=(total x.l).toNat+1:=by
   show (total (plusP x.l k)).toNat=_
   rw [total_plus hkl]
   omega
  rw [e]
  unfold lvl
  refine List.mem_flatMap.2 ⟨x,?_,List.mem_map.2 ⟨k,List.mem_range.2 hk,rfl⟩⟩
  rcases ih with ih | ⟨_,ih⟩
  ·exact List.mem_append_left _ ih
  ·exact List.mem_append_right _ ih
theorem lvs_upTo (cl:Int→Int→Int) (w:Wheel):∀{t m:Nat},m≤t→∀x,x∈lvs cl w m→x∈upTo cl w t
 | 0,m,h,x,hx=>by
  obtain rfl:m=0:=by omega
  exact hx
 | t+1,m,h,x,hx=>by
  by_cases e:m=t+1
  ·subst e
   exact List.mem_append_right _ hx
  ·exact List.mem_append_left _ (lvs_upTo cl w (by omega) x hx)
theorem RP.up {cl:Int→Int→Int} {w:Wheel} {al:List Int} (h:OkW w) (hl:al.length=w.Coins.length) (hnn:∀k,0≤al.getD k 0) (hcl:Clamp cl (total al)) {acts:List Int} {x:Pn} (hr:RP cl w al acts x) {t:Nat} (ht:total x.l≤t):x∈upTo cl w t:=by
 refine lvs_upTo cl w (m:=(total x.l).toNat) (by omega) x ?_
 rcases hr.level h hl hnn hcl with h1 | ⟨_,h1⟩
 ·exact List.mem_append_left _ h1
 ·exact List.mem_append_right _ h1
theorem nodup_sub' {α:Type} [DecidableEq α]:∀{l m:List α},l.Nodup→(∀x,x∈l→x∈m)→l.length≤m.length
 | [],_,_,_=>Nat.zero_le _
 | x::l,m,hn,h=>by
  have hn:=List.nodup_cons.1 hn
  have hx:=h x (by simp)
  have:=nodup_sub' (l:=l) (m:=m.erase x) hn.2 fun y hy=>by
   have hne:y≠x:=fun e=>hn.1 (by rw [←e];exact hy)
   exact (List.mem_erase_of_ne hne).2 (h y (by simp [hy]))
  rw [List.length_erase_of_mem hx] at this
  have:=List.length_pos_of_mem hx
  simp only [List.length_cons]
  omega
theorem many_eq {n:Nat} {l:List Int} (h4:l.length≤4) (hnn:∀k,0≤l.getD k 0∧l.getD k 0≤1000) (hn:10≤n):takings_bag_many n (bagOf l)=some (total l):=by
 obtain ⟨m,rfl⟩:∃m,n=m+5:=⟨n-5,by omega⟩
 have h0:=hnn 0
 have h1:=hnn 1
 have h2:=hnn 2
 have h3:=hnn 3
 have ht:=total_bag h4
 unfold takings_bag_many
 have e:∀(m:Nat) (s k:Int) (j:Nat),k=j→j<4→0≤s→s≤100000→takings_bag_many_l1 (bagOf l) (m+1) s k=takings_bag_many_l1 (bagOf l) m (s+l.getD j 0) (k+1):=fun m s k j hk hj hs hs2=>by
  subst hk
  have hb:=hnn j
  simp only [takings_bag_many_l1,takings_bag_many_l1_b]
  rw [if_pos (by simp;omega)]
  rw [show idx ([(bagOf l).c0,(bagOf l).c1,(bagOf l).c2,(bagOf l).c3]:List Int) (j:Int)=some (l.getD j 0) from idx_bag hj,bnd_some,w64_id (by omega) (by omega),w64_id (by omega) (by omega)]
 rw [e (m+4) 0 0 0 rfl (by omega) (by omega) (by omega),e (m+3) _ (0+1) 1 rfl (by omega) (by omega) (by omega),e (m+2) _ (0+1+1) 2 rfl (by omega) (by omega) (by omega),e (m+1) _ (0+1+1+1) 3 rfl (by omega) (by omega) (by omega)]
 simp only [takings_bag_many_l1,takings_bag_many_l1_b,takings_bag_many_j1]
 rw [if_neg (by simp)]
 congr 1
 omega
def pnt (x:Pn):PointT_:=⟨⟨x.p,x.c⟩,bagOf x.l,x.b⟩
theorem pnt_inj {x y:Pn} (h:pnt x=pnt y) (hl:x.l.length=y.l.length) (h4:x.l.length≤4):x=y:=by
 obtain ⟨a,b,c,d⟩:=x
 obtain ⟨a',b',c',d'⟩:=y
 simp only [pnt,PointT_.mk.injEq,Stand.mk.injEq] at h
 obtain ⟨⟨rfl,rfl⟩,h1,rfl⟩:=h
 obtain rfl:=bag_inj h1 hl h4
 rfl
structure Cx (w:Wheel) (al:List Int):Prop where
 v:valid w=true
 hl:al.length=w.Coins.length
 nn:∀k,0≤al.getD k 0
 k3:w.Coins.length≤3
 t5:total al≤5
theorem Cx.h {w:Wheel} {al:List Int} (C:Cx w al):OkW w:=valid_ok C.v
theorem okPt {w:Wheel} {al acts:List Int} {x:Pn} (C:Cx w al) (hr:RP (clT (total al)) w al acts x):OkX w al acts x∧total x.l≤total al∧(∀k,0≤x.l.getD k 0∧x.l.getD k 0≤5)∧okPointT_ (pnt x)=true:=by
 have hX:=hr.ok C.h C.hl C.nn (clamp_T _)
 have ht:total x.l≤total al:=total_le_of (by rw [hX.len,C.hl]) hX.le
 have hk:∀k,0≤x.l.getD k 0∧x.l.getD k 0≤5:=fun k=>by
  have:=getD_le (nn_mem hX.nn) k
  have:=C.t5
  omega
 refine ⟨hX,ht,hk,?_⟩
 have h0:=hk 0
 have h1:=hk 1
 have h2:=hk 2
 have h3:=hk 3
 have h4:=hX.p0
 have h5:=hX.p1
 have h6:=hX.c0
 have h7:=hX.cb
 have h8:=hX.bt
 have h9:=C.h.r2
 have h10:=C.t5
 unfold okPointT_ pnt bagOf
 simp only [List.all_cons,List.all_nil,Bool.and_true,Bool.and_eq_true]
 exact ⟨okI_of (by omega) (by omega),okI_of (by omega) (by omega),okI_of (by omega) (by omega),okI_of (by omega) (by omega),okI_of (by omega) (by omega),okI_of (by omega) (by omega),okI_of (by omega) (by omega)⟩
structure WI (w:Wheel) (al:List Int) (A:PointT_→List Int) (M:List (PointT_×Step_)):Prop where
 nd:(M.map (·.1)).Nodup
 pt:∀k st,(k,st)∈M→(∃X,k=pnt X∧RP (clT (total al)) w al (A k) X)∧(st.act=-2∧A k=[]∨st.act≠-2∧mhas M st.from_=true∧A k=A st.from_++[st.act])
structure Ext (A:PointT_→List Int) (M:List (PointT_×Step_)) (q:List PointT_) (A':PointT_→List Int) (M':List (PointT_×Step_)) (q':List PointT_):Prop where
 ex:∃N:List (PointT_×Step_),M'=M++N∧q'=q++N.map (·.1)
 same:∀k,mhas M k=true→A' k=A k
theorem Ext.has {A M q A' M' q'} (h:Ext A M q A' M' q') {k:PointT_} (hk:mhas M k=true):mhas M' k=true:=by
 obtain ⟨N,rfl,_⟩:=h.ex
 rw [mhas_iffV] at hk ⊢
 rw [List.map_append]
 exact List.mem_append_left _ hk
theorem Ext.refl (A M q):Ext A M q A M q:=⟨⟨[],by simp,by simp⟩,fun _ _=>rfl⟩
theorem Ext.trans {A M q A' M' q' A2 M2 q2} (h:Ext A M q A' M' q') (g:Ext A' M' q' A2 M2 q2):Ext A M q A2 M2 q2:=by
 refine ⟨?_,fun k hk=>by rw [g.same k (h.has hk),h.same k hk]⟩
 obtain ⟨N,rfl,rfl⟩:=h.ex
 obtain ⟨N',rfl,rfl⟩:=g.ex
 exact ⟨N++N',by simp,by simp⟩
theorem Ext.len {A M q A' M' q'} (h:Ext A M q A' M' q'):M.length+q'.length=M'.length+q.length:=by
 obtain ⟨N,rfl,rfl⟩:=h.ex
 simp
 omega
theorem Ext.out {A M q A' M' q'} (h:Ext A M q A' M' q') {k:PointT_} (hk:mhas M' k=true) (hq:k∉q'):mhas M k=true∧k∉q:=by
 obtain ⟨N,rfl,rfl⟩:=h.ex
 rw [mhas_iffV,List.map_append] at hk
 rw [mhas_iffV]
 simp only [List.mem_append,not_or] at hk hq
 rcases hk with hk | hk
 ·exact ⟨hk,hq.1⟩
 ·exact absurd hk hq.2
theorem WI.key {w al A M} (hW:WI w al A M) {k:PointT_} (hk:mhas M k=true):∃X,k=pnt X∧RP (clT (total al)) w al (A k) X:=(hW.pt k _ (vget_memV zeroStep hk)).1
theorem WI.len {w al A M} (C:Cx w al) (hW:WI w al A M):M.length≤93312:=by
 have h1:=nodup_sub' (m:=(upTo (clT (total al)) w 5).map pnt) hW.nd fun k hk=>by
  obtain ⟨X,rfl,hr⟩:=hW.key (mhas_iffV.2 hk)
  exact List.mem_map.2 ⟨X,hr.up C.h C.hl C.nn (clamp_T _) (by have:=(okPt C hr).2.1;have:=C.t5;omega),rfl⟩
 rw [List.length_map,List.length_map] at h1
 have h2:=upTo_len (clT (total al)) C.k3 (t:=5) (by omega)
 omega
theorem WI.mok {w al A M} (C:Cx w al) (hW:WI w al A M) {acts:List Int} {X:Pn} (hr:RP (clT (total al)) w al acts X):mok okPointT_ M (pnt X)=true:=by
 unfold Go.AM.mok
 rw [(okPt C hr).2.2.2,Bool.true_and,Bool.and_eq_true]
 refine ⟨List.all_eq_true.2 fun p hp=>?_,decide_eq_true hW.nd⟩
 obtain ⟨Y,e,hr'⟩:=(hW.pt p.1 p.2 hp).1
 show okPointT_ p.1=true
 rw [e]
 exact (okPt C hr').2.2.2
theorem Cx.len4 {w al} (C:Cx w al):al.length≤4:=by rw [C.hl];have:=C.k3;omega
theorem add_eq {w al} (C:Cx w al) {n:Nat} (hn:10≤n) {A M q} (hW:WI w al A M) {X Y:Pn} {a:Int} (hx:mhas M (pnt X)=true) (hr:RP (clT (total al)) w al (A (pnt X)++[a]) Y) (ha:a≠-2) {y:PointT_} (e1:y.in_=bagOf Y.l) (e2:y.bought=Y.b) (e3:y.Stand.Place=Y.p) (e4:min y.Stand.Credit (total al-total Y.l)=Y.c) (hq:q.length≤M.length) :
  ∃A' M' q',takings_add n (bagOf al) (pnt X) a y (M,q)=some (M',q')∧WI w al A' M'∧Ext A M q A' M' q'∧mhas M' (pnt Y)=true:=by
 obtain ⟨hY,ht,hk,hok⟩:=okPt C hr
 have h4:=C.len4
 have hal:∀k,0≤al.getD k 0∧al.getD k 0≤1000:=fun k=>by
  have h1:=getD_le (nn_mem C.nn) k
  have h2:=C.t5
  omega
 have hnn:0≤total Y.l:=total_nn (nn_mem hY.nn)
 have h5:=C.t5
 have e:clampT y (w64 (total al-total Y.l))=pnt Y:=by
  rw [w64_id (by omega) (by omega)]
  show (⟨⟨y.Stand.Place,min y.Stand.Credit (total al-total Y.l)⟩,y.in_,y.bought⟩:PointT_)=_
  rw [e1,e2,e3,e4]
  rfl
 have hlen:=hW.len C
 unfold takings_add
 rw [many_eq h4 hal hn,bnd_some,e1,many_eq (by rw [hY.len];have:=C.k3;omega) (fun k=>by have:=hk k;omega) hn,bnd_some]
 simp only [e]
 rw [show vlook okPointT_ zeroStep M (pnt Y)=some (vget zeroStep M (pnt Y)) from if_pos (hW.mok C hr),bnd_some]
 cases hh:mhas M (pnt Y) with
 | true =>
  rw [if_pos rfl]
  exact ⟨A,M,q,rfl,hW,Ext.refl A M q,hh⟩
 | false =>
  rw [if_neg (by simp),show mstore okPointT_ M (pnt Y) ⟨a,pnt X⟩=some (mset M (pnt Y) ⟨a,pnt X⟩) from if_pos (hW.mok C hr),bnd_some,if_pos (by omega),(vget_none zeroStep M _ hh).2.2]
  have hno:∀k,mhas M k=true→k≠pnt Y:=fun k hk he=>by rw [he,hh] at hk;cases hk
  refine ⟨fun k=>if k=pnt Y then A (pnt X)++[a] else A k,_,_,rfl,⟨?_,fun k st hm=>?_⟩,⟨⟨[(pnt Y,⟨a,pnt X⟩)],rfl,rfl⟩,fun k hk=>if_neg (hno k hk)⟩,?_⟩
  ·rw [List.map_append,List.nodup_append]
   refine ⟨hW.nd,by simp,fun u hu v hv=>?_⟩
   simp only [List.map_cons,List.map_nil,List.mem_singleton] at hv
   rw [hv]
   exact hno u (mhas_iffV.2 hu)
  ·have hmono:∀k,mhas M k=true→mhas (M++[(pnt Y,(⟨a,pnt X⟩:Step_))]) k=true:=fun k hk=>by
    rw [mhas_iffV] at hk ⊢
    rw [List.map_append]
    exact List.mem_append_left _ hk
   rcases List.mem_append.1 hm with hm | hm
   ·have hk:mhas M k=true:=mhas_iffV.2 (List.mem_map.2 ⟨_,hm,rfl⟩)
    obtain ⟨p1,p2⟩:=hW.pt k st hm
    simp only [if_neg (hno k hk)]
    refine ⟨p1,?_⟩
    rcases p2 with p2 | ⟨p2,p3,p4⟩
    ·exact .inl p2
    ·exact .inr ⟨p2,hmono _ p3,by rw [if_neg (hno _ p3)];exact p4⟩
   ·simp only [List.mem_singleton,Prod.mk.injEq] at hm
    obtain ⟨rfl,rfl⟩:=hm
    simp only [if_pos rfl]
    exact ⟨⟨Y,rfl,hr⟩,.inr ⟨ha,hmono _ hx,by rw [if_neg (hno _ hx)];simp⟩⟩
  ·rw [mhas_iffV,List.map_append]
   exact List.mem_append_right _ (by simp)
theorem run_sel {w:Wheel} (hv:valid w=true) {n:Nat} (hn:200≤n) {p:Int} (h0:0≤p) (h1:p<w.Round):coins_Run n w ⟨p,1⟩ [-1]=some (⟨0,0⟩,1,0):=by
 have h:=valid_ok hv
 rw [Run_eq (h.len (by omega)) hn _ _ (by simp) (by simp;omega)]
 have e:actS w ⟨p,1⟩ (-1)=(⟨0,0⟩,true):=by
  unfold actS
  rw [if_neg (by omega),if_neg (by simp)]
  rfl
 unfold runS
 rw [if_pos hv,if_pos ⟨by simp only [okStand,okPlace,Bool.and_eq_true,inR_iff];omega,by simp,by simp [okAct_s]⟩]
 simp only [runL,e]
 rfl
theorem run_coin {w:Wheel} (hv:valid w=true) {n:Nat} (hn:200≤n) {p:Int} (h0:0≤p) (h1:p<w.Round) {k:Nat} (hk:k<w.Coins.length):coins_Run n w ⟨p,0⟩ [(k:Int)]=some (⟨(turn w p (coin w k)).1,(turn w p (coin w k)).2⟩,0,0):=by
 have h:=valid_ok hv
 rw [Run_eq (h.len (by omega)) hn _ _ (by simp) (by simp;omega)]
 have e:actS w ⟨p,0⟩ (k:Int)=(⟨(turn w p (coin w k)).1,(turn w p (coin w k)).2⟩,false):=by
  unfold actS
  rw [if_pos (by omega)]
  simp
 unfold runS
 rw [if_pos hv,if_pos ⟨by simp only [okStand,okPlace,Bool.and_eq_true,inR_iff];omega,by simp,by simp [okAct_k hk]⟩]
 simp only [runL,e]
 rfl
theorem walk_s_eq {w al} (C:Cx w al) {n:Nat} (hn:200≤n) {b:Box_} (hb:b.Box.Wheel=w) {A M q} (hW:WI w al A M) {X:Pn} (hx:mhas M (pnt X)=true) (hr:RP (clT (total al)) w al (A (pnt X)) X) (hq:q.length≤M.length) :
  ∃A' M' q',takings_walk_s n b (bagOf al) (pnt X) (M,q)=some (M',q')∧WI w al A' M'∧Ext A M q A' M' q'∧(0<X.c→0<X.p→mhas M' (pnt (selP (clT (total al)) X))=true):=by
 obtain ⟨hX,ht,hk,hok⟩:=okPt C hr
 have h5:=C.t5
 have h6:=hX.cb
 have h7:=hX.bt
 unfold takings_walk_s
 rw [hb]
 show ∃A' M' q',(if decide (X.c>0)=true then if decide (X.p>0)=true then _ else _ else _)=_∧_
 by_cases hc:0<X.c
 ·by_cases hp:0<X.p
  ·rw [if_pos (by simpa using hc),if_pos (by simpa using hp)]
   show ∃A' M' q',Option.bind (coins_Run n w ⟨X.p,1⟩ [-1]) _=_∧_
   rw [run_sel C.v hn hX.p0 hX.p1,bnd_some]
   obtain ⟨A',M',q',g1,g2,g3,g4⟩:=add_eq (n:=n) C (by omega) hW (Y:=selP (clT (total al)) X) (a:=-1) (y:=⟨⟨0,w64 (X.c-1)⟩,bagOf X.l,X.b⟩) hx (hr.sel hc hp) (by omega) rfl rfl rfl (by
    show min (w64 (X.c-1)) (total al-total X.l)=min (X.c-1) (total al-total X.l)
    rw [w64_id (by omega) (by omega)]) hq
   exact ⟨A',M',q',g1,g2,g3,fun _ _=>g4⟩
  ·rw [if_pos (by simpa using hc),if_neg (by simpa using hp)]
   exact ⟨A,M,q,rfl,hW,Ext.refl A M q,fun _ h=>absurd h hp⟩
 ·rw [if_neg (by simpa using hc)]
  exact ⟨A,M,q,rfl,hW,Ext.refl A M q,fun h=>absurd h hc⟩
theorem walk_k_eq {w al} (C:Cx w al) {n:Nat} (hn:200≤n) {b:Box_} (hb:b.Box.Wheel=w) {X:Pn}:∀(d i m:Nat),i+d=w.Coins.length→d<m→∀{A M q},WI w al A M→mhas M (pnt X)=true→RP (clT (total al)) w al (A (pnt X)) X→q.length≤M.length →
  ∃A' M' q',takings_walk_k n b (bagOf al) (pnt X) m (i:Int) (M,q)=some (M',q')∧WI w al A' M'∧Ext A M q A' M' q'∧∀k:Nat,i≤k→k<w.Coins.length→X.l.getD k 0≠al.getD k 0→mhas M' (pnt (coinP (clT (total al)) w X k))=true
 | d,i,0,_,hm,_,_,_,_,_,_,_=>absurd hm (Nat.not_lt_zero _)
 | 0,i,m+1,hi,_,A,M,q,hW,hx,hr,hq=>by
  unfold takings_walk_k
  rw [hb,if_neg (by simp;omega)]
  exact ⟨A,M,q,rfl,hW,Ext.refl A M q,fun k h1 h2=>by omega⟩
 | d+1,i,m+1,hi,hm,A,M,q,hW,hx,hr,hq=>by
  obtain ⟨hX,ht,hk,hok⟩:=okPt C hr
  have h5:=C.t5
  have h6:=hX.cb
  have h7:=hX.bt
  have h8:=hX.c0
  have h9:=C.k3
  have h4:=C.len4
  have hki:=hk i
  have hil:i<X.l.length:=by rw [hX.len];omega
  unfold takings_walk_k
  rw [hb,if_pos (by simp;omega)]
  show ∃A' M' q',Option.bind (idx (bag4 X.l) (i:Int)) _=_∧_
  rw [idx_bag (by omega),bnd_some,show idx ([(bagOf al).c0,(bagOf al).c1,(bagOf al).c2,(bagOf al).c3]:List Int) (i:Int)=some (al.getD i 0) from idx_bag (by omega),bnd_some,w64_id (x:=(i:Int)+1) (by omega) (by omega)]
  by_cases he:X.l.getD i 0=al.getD i 0
  ·rw [if_pos (by simpa using he)]
   obtain ⟨A',M',q',g1,g2,g3,g4⟩:=walk_k_eq C hn hb d (i+1) m (by omega) (by omega) hW hx hr hq
   refine ⟨A',M',q',g1,g2,g3,fun k k1 k2 k3=>?_⟩
   by_cases e:k=i
   ·subst e
    exact absurd he k3
   ·exact g4 k (by omega) k2 k3
  ·rw [if_neg (by simpa using he)]
   show ∃A' M' q',Option.bind (coins_Run n w ⟨X.p,0⟩ [(i:Int)]) _=_∧_
   have hcoin:=coin_range C.h (a:=(i:Int)) (by omega) (by omega)
   have htr:=turn_range C.h hX.p0 hX.p1 (show 0≤coin w i by omega)
   rw [run_coin C.v hn hX.p0 hX.p1 (by omega),bnd_some,w64_id (x:=X.l.getD i 0+1) (by omega) (by omega)]
   rw [show setI ([(pnt X).in_.c0,(pnt X).in_.c1,(pnt X).in_.c2,(pnt X).in_.c3]:List Int) (i:Int) (X.l.getD i 0+1)=some (bag4 (plusP X.l i)) from set_bag hil (by rw [hX.len];omega),bnd_some]
   obtain ⟨A1,M1,q1,g1,g2,g3,g4⟩:=add_eq (n:=n) C (by omega) hW (Y:=coinP (clT (total al)) w X i) (a:=(i:Int)) (y:=⟨⟨(turn w X.p (coin w i)).1,w64 (X.c+(turn w X.p (coin w i)).2)⟩,bagOf (plusP X.l i),w64 (X.b+(turn w X.p (coin w i)).2)⟩) hx (hr.coin (by omega) he) (by omega) rfl (by
     show w64 _=X.b+_
     rw [w64_id (by omega) (by omega)]) rfl (by
     show min (w64 (X.c+(turn w X.p (coin w i)).2)) (total al-total (plusP X.l i))=min (X.c+(turn w X.p (coin w i)).2) (total al-(total X.l+1))
     rw [w64_id (by omega) (by omega),total_plus hil]) hq
   have hl1:=g3.len
   obtain ⟨A',M',q',k1,k2,k3,k4⟩:=walk_k_eq C hn hb d (i+1) m (by omega) (by omega) g2 (g3.has hx) (by rw [g3.same _ hx];exact hr) (show q1.length≤M1.length by omega)
   refine ⟨A',M',q',?_,k2,g3.trans k3,fun k j1 j2 j3=>?_⟩
   ·show Option.bind (takings_add n (bagOf al) (pnt X) (i:Int) ⟨⟨(turn w X.p (coin w i)).1,w64 (X.c+(turn w X.p (coin w i)).2)⟩,bagOf (plusP X.l i),w64 (X.b+(turn w X.p (coin w i)).2)⟩ (M,q)) _=_
    rw [g1,bnd_some]
    exact k1
   ·by_cases e:k=i
    ·subst e
     exact k3.has g4
    ·exact k4 k (by omega) j2 j3
def Closed (w:Wheel) (al:List Int) (M:List (PointT_×Step_)) (X:Pn):Prop:=(0<X.c→0<X.p→mhas M (pnt (selP (clT (total al)) X))=true)∧∀k:Nat,k<w.Coins.length→X.l.getD k 0≠al.getD k 0→mhas M (pnt (coinP (clT (total al)) w X k))=true
theorem Closed.ext {w al A M q A' M' q'} (h:Ext A M q A' M' q') {X:Pn} (hc:Closed w al M X):Closed w al M' X:=⟨fun a b=>h.has (hc.1 a b),fun k a b=>h.has (hc.2 k a b)⟩
theorem walk_l_eq {w al} (C:Cx w al) {n:Nat} (hn:200≤n) {b:Box_} (hb:b.Box.Wheel=w):∀(m:Nat) {A M q},93312+q.length<m+M.length→WI w al A M→q.length≤M.length→(∀k,k∈q→mhas M k=true)→mhas M (pnt (zeroP w))=true→(∀acts X,RP (clT (total al)) w al acts X→mhas M (pnt X)=true→pnt X∉q→Closed w al M X) →
  ∃A' M',takings_walk_l n b (bagOf al) m (M,q)=some M'∧WI w al A' M'∧∀acts X,RP (clT (total al)) w al acts X→mhas M' (pnt X)=true
 | 0,A,M,q,hf,hW,_,_,_,_=>by
  have:=hW.len C
  omega
 | m+1,A,M,[],hf,hW,hq,hqm,hz,hcl=>by
  refine ⟨A,M,rfl,hW,fun acts X hr=>?_⟩
  induction hr with
  | zero=>exact hz
  | sel hr hc hp ih=>exact (hcl _ _ hr ih (by simp)).1 hc hp
  | coin hr hk hne ih=>exact (hcl _ _ hr ih (by simp)).2 _ hk hne
 | m+1,A,M,x::q,hf,hW,hq,hqm,hz,hcl=>by
  have hx:mhas M x=true:=hqm x (by simp)
  obtain ⟨X,rfl,hr⟩:=hW.key hx
  simp only [List.length_cons] at hf hq
  obtain ⟨A1,M1,q1,g1,g2,g3,g4⟩:=walk_s_eq C hn hb hW hx hr (show q.length≤M.length by omega)
  have hl1:=g3.len
  obtain ⟨A2,M2,q2,k1,k2,k3,k4⟩:=walk_k_eq C hn hb w.Coins.length 0 n (by omega) (by have:=C.k3;omega) g2 (g3.has hx) (by rw [g3.same _ hx];exact hr) (show q1.length≤M1.length by omega)
  have hl2:=k3.len
  have hE:=g3.trans k3
  have hXc:Closed w al M2 X:=⟨fun a b=>k3.has (g4 a b),fun k a b=>k4 k (Nat.zero_le _) a b⟩
  have hX:=okPt C hr
  obtain ⟨A',M',j1,j2,j3⟩:=walk_l_eq C hn hb m (A:=A2) (M:=M2) (q:=q2) (by omega) k2 (by omega) (fun k hk=>by
   obtain ⟨N,e1,e2⟩:=hE.ex
   rw [e2] at hk
   rcases List.mem_append.1 hk with hk | hk
   ·exact hE.has (hqm k (List.mem_cons_of_mem _ hk))
   ·rw [mhas_iffV,e1,List.map_append]
    exact List.mem_append_right _ hk) (hE.has hz) fun acts Y hY hm hnq=>by
   obtain ⟨o1,o2⟩:=hE.out hm hnq
   by_cases e:pnt Y=pnt X
   ·obtain rfl:=pnt_inj e (by rw [(okPt C hY).1.len,hX.1.len]) (by rw [(okPt C hY).1.len];have:=C.k3;omega)
    exact hXc
   ·exact (hcl acts Y hY o1 (by simp only [List.mem_cons,not_or];exact ⟨e,o2⟩)).ext hE
  refine ⟨A',M',?_,j2,j3⟩
  unfold takings_walk_l
  simp only
  rw [g1,bnd_some]
  show Option.bind (takings_walk_k n b (bagOf al) (pnt X) n ((0:Nat):Int) (M1,q1)) _=_
  rw [k1,bnd_some]
  exact j1
theorem pnt_zero (w:Wheel):pnt (zeroP w)=zeroPt:=by
 have h:=fun k=>zl_getD w k
 unfold pnt zeroP bagOf
 simp only [h]
theorem walk_eq {w al} (C:Cx w al) {n:Nat} (hn:100000≤n) {b:Box_} (hb:b.Box.Wheel=w):∃A M,takings_box_walk n (some b) (bagOf al)=some M∧WI w al A M∧∀acts X,RP (clT (total al)) w al acts X→mhas M (pnt X)=true:=by
 have hz:mhas [(zeroPt,(⟨-2,zeroPt⟩:Step_))] (pnt (zeroP w))=true:=by rw [pnt_zero];simp [mhas]
 exact walk_l_eq C (by omega) hb n (A:=fun _=>[]) (M:=[(zeroPt,⟨-2,zeroPt⟩)]) (q:=[zeroPt]) (by simp;omega) ⟨by simp,fun k st hm=>by
  simp only [List.mem_singleton,Prod.mk.injEq] at hm
  obtain ⟨rfl,rfl⟩:=hm
  exact ⟨⟨zeroP w,(pnt_zero w).symm,.zero⟩,.inl ⟨rfl,rfl⟩⟩⟩ (by simp) (by simp [mhas]) hz fun acts X hr hm hnq=>by
  exfalso
  rw [mhas_iffV] at hm
  exact hnq hm
theorem back_eq {w al} (C:Cx w al) {A M} (hW:WI w al A M):∀(m:Nat) {k:PointT_} {acts:List Int},mhas M k=true→(A k).length<m→acts.length+(A k).length<100000→takings_back M m (vget zeroStep M k) acts=some (acts++(A k).reverse)
 | 0,k,acts,hk,hm,_=>absurd hm (Nat.not_lt_zero _)
 | m+1,k,acts,hk,hm,hl=>by
  unfold takings_back
  rcases (hW.pt k _ (vget_memV zeroStep hk)).2 with ⟨h1,h2⟩ | ⟨h1,h2,h3⟩
  ·rw [if_neg (by simpa using h1),h2]
   simp
  ·rw [h3,List.length_append,List.length_singleton] at hm hl
   obtain ⟨Y,e,hr⟩:=hW.key h2
   rw [if_pos (by simpa using h1),if_pos (by omega),show vlook okPointT_ zeroStep M (vget zeroStep M k).from_=some (vget zeroStep M (vget zeroStep M k).from_) from if_pos (by rw [e];exact hW.mok C hr),bnd_some,back_eq C hW m h2 (by omega) (by simp;omega)]
   conv=>rhs;rw [h3]
   simp
def sums (a b:List Int):List Int:=List.zipWith (·+·) a b
theorem sums_len {a b:List Int} (h:b.length=a.length):(sums a b).length=a.length:=by simp [sums,h]
theorem sums_getD:∀{a b:List Int},b.length=a.length→∀k,(sums a b).getD k 0=a.getD k 0+b.getD k 0
 | [],[],_,k=>by simp [sums]
 | [],_::_,h,_=>by simp at h
 | _::_,[],h,_=>by simp at h
 | x::a,y::b,h,0=>by simp [sums]
 | x::a,y::b,h,k+1=>by
  have:=sums_getD (a:=a) (b:=b) (by simpa using h) k
  simpa [sums] using this
theorem total_sums:∀{a b:List Int},b.length=a.length→total (sums a b)=total a+total b
 | [],[],_=>rfl
 | [],_::_,h=>by simp at h
 | _::_,[],h=>by simp at h
 | x::a,y::b,h=>by
  have:=total_sums (a:=a) (b:=b) (by simpa using h)
  simp only [sums,List.zipWith_cons_cons,total] at this ⊢
  omega
def Small (l:List Int):Prop:=∀k,0≤l.getD k 0∧l.getD k 0≤1000
theorem Small.sums {a b:List Int} (h:b.length=a.length) (ha:∀k,0≤a.getD k 0∧a.getD k 0≤500) (hb:∀k,0≤b.getD k 0∧b.getD k 0≤500):Small (sums a b):=fun k=>by
 rw [sums_getD h]
 have:=ha k
 have:=hb k
 omega
theorem getD_get {l:List Int} {k:Nat} (h:k<l.length):l[k]=l.getD k 0:=by simp [h]
theorem Both_eq {n:Nat} {a b:List Int} (h:b.length=a.length) (ha:Small a) (hb:Small b) (hl:a.length<1000) (hn:a.length<n):ref05_Both n a b=some (sums a b):=by
 have key:∀(d i m:Nat) (v:List Int),d=a.length-i→i≤a.length→d<m→v.length=i→ref05_Both_l1 a b m v (i:Int)=some (v++(sums a b).drop i):=by
  intro d
  induction d with
  | zero =>
   intro i m v hd hi hm hv
   obtain ⟨m,rfl⟩:∃q,m=q+1:=⟨m-1,by omega⟩
   simp only [ref05_Both_l1,ref05_Both_l1_b,ref05_Both_j1]
   rw [if_neg (by simp;omega),List.drop_eq_nil_of_le (by rw [sums_len h];omega),List.append_nil]
  | succ d ih =>
   intro i m v hd hi hm hv
   obtain ⟨m,rfl⟩:∃q,m=q+1:=⟨m-1,by omega⟩
   have h1:=ha i
   have h2:=hb i
   simp only [ref05_Both_l1,ref05_Both_l1_b]
   rw [if_pos (by simp;omega),idx_nat (by omega),bnd_some,idx_nat (by omega),bnd_some,getD_get,getD_get,w64_id (by omega) (by omega),app_ok (by simp;omega),bnd_some,w64_id (by omega) (by omega)]
   have:=ih (i+1) m (v++[a.getD i 0+b.getD i 0]) (by omega) (by omega) (by omega) (by simp [hv])
   rw [show (((i+1:Nat)):Int)=(i:Int)+1 by simp] at this
   rw [this,List.drop_eq_getElem_cons (l:=sums a b) (i:=i) (by rw [sums_len h];omega),getD_get,sums_getD h]
   simp
 have:=key a.length 0 n [] (by omega) (by omega) hn rfl
 rw [List.nil_append,List.drop_zero] at this
 exact this
theorem Total_eq {n:Nat} {l:List Int} (hs:Small l) (hl:l.length<1000) (hn:l.length<n):ref05_Total n l=some (total l):=by
 have key:=loopI (F:=fun m i (s:Int)=>ref05_Total_l1 l m s i) (xs:=l) (spec:=fun k s=>some (s+total k)) (I:=fun k s=>0≤s∧s+1000*k.length≤100000000∧∀x,x∈k→0≤x∧x≤1000) (by omega)
  (fun m s hI=>by simp [ref05_Total_l1,ref05_Total_l1_b,ref05_Total_j1,total])
  (fun m i x k s hI hx hi _ _ hrec=>by
   obtain ⟨i1,i2,i3⟩:=hI
   have hxr:=i3 x (by simp)
   simp only [List.length_cons] at i2
   simp only [ref05_Total_l1,ref05_Total_l1_b]
   rw [if_pos (by simpa using hi),hx,bnd_some,w64_id (x:=s+x) (by omega) (by omega),hrec (s+x) ⟨by omega,by omega,fun y hy=>i3 y (by simp [hy])⟩]
   simp only [total]
   congr 1
   omega)
  l 0 n 0 (by omega) rfl (by omega) ⟨by omega,by omega,fun x hx=>by
   obtain ⟨k,hk⟩:=List.getElem?_of_mem hx
   have:=hs k
   rwa [List.getD_eq_getElem?_getD,hk] at this⟩
 rw [show ref05_Total n l=_ from key,Int.zero_add]
theorem tWithin_eq (a b c:Int):takings_within a b c=some (inR a b c):=by
 unfold takings_within takings_within_j1 inR
 by_cases h:b≤a<;>simp [h]
theorem rwithin_eq (a b c:Int):ref05_within a b c=some (inR a b c):=by
 unfold ref05_within
 rw [Within_eq,bnd_some]
def markP (b:Box):Prop:=∀k,k<b.Found.length→0≤b.Marked.getD k 0∧b.Marked.getD k 0≤b.Found.getD k 0
instance (b:Box):Decidable (markP b):=inferInstanceAs (Decidable (∀k,k<b.Found.length→0≤b.Marked.getD k 0∧b.Marked.getD k 0≤b.Found.getD k 0))
structure BoxOk (b:Box):Prop where
 v:valid b.Wheel=true
 p:inR b.Plays 0 9999=true
 s:inR b.Skips 0 9=true
 f:isPurse b.Wheel b.Found=true
 g:isPurse b.Wheel b.Slugs=true
 ml:b.Marked.length=b.Found.length
 mkd:markP b
 t:total b.Found+total b.Slugs≤12
open Classical in
noncomputable def boxOk (b:Box):Bool:=decide (BoxOk b)
theorem boxOk_iff {b:Box}:boxOk b=true↔BoxOk b:=by simp [boxOk]
theorem boxOk_not {b:Box} (h:¬BoxOk b):boxOk b=false:=by simp [boxOk,h]
def lenB (b:Box):Prop:=b.Wheel.Notches.length≤40∧b.Wheel.Coins.length≤40∧b.Found.length≤40∧b.Marked.length≤40∧b.Slugs.length≤40
theorem purse_small {w:Wheel} {l:List Int} (h:isPurse w l=true):l.length=w.Coins.length∧(∀k,0≤l.getD k 0∧l.getD k 0≤12)∧total l≤12:=by
 obtain ⟨h1,h2⟩:=purse_ok h
 simp only [isPurse,Bool.and_eq_true,decide_eq_true_eq] at h
 refine ⟨h.1.1,fun k=>?_,h2⟩
 have:=getD_le h1.nn k
 omega
theorem purse_all {w:Wheel} {l:List Int} (h:isPurse w l=true):l.all (fun x=>inR x 0 12)=true:=by
 simp only [isPurse,Bool.and_eq_true] at h
 exact h.1.2
open Classical in
theorem bcond (b:Box) (n:Nat) (hl:lenB b) (hn:200≤n):ref05_Check n b=some (cond (boxOk b) 0 50):=by
 obtain ⟨l1,l2,l3,l4,l5⟩:=hl
 unfold ref05_Check
 have hol:okLen n b.Wheel:=⟨by omega,by omega,by omega,by omega⟩
 have no:∀h:¬BoxOk b,(some 50:Option Int)=some (cond (boxOk b) 0 50):=fun h=>by rw [boxOk_not h];rfl
 have j1:ref05_Check_j1 n b true=some 50:=rfl
 rw [rCheck_eq hol,bnd_some]
 by_cases hv:valid b.Wheel=true
 ·rw [hv]
  show Option.bind _ _=_
  rw [IsPurse_eq (by omega) (by omega),bnd_some]
  by_cases hf:isPurse b.Wheel b.Found=true
  ·rw [if_neg (by simp [hf]),IsPurse_eq (by omega) (by omega),bnd_some]
   by_cases hg:isPurse b.Wheel b.Slugs=true
   ·rw [if_neg (by simp [hg])]
    by_cases hm:b.Marked.length=b.Found.length
    ·rw [if_neg (by simp;omega),rwithin_eq,bnd_some]
     by_cases hp:inR b.Plays 0 9999=true
     ·rw [if_neg (by simp [hp]),rwithin_eq,bnd_some]
      by_cases hs:inR b.Skips 0 9=true
      ·rw [hs]
       show ref05_Check_l1 n b n 0=_
       obtain ⟨f1,f2,f3⟩:=purse_small hf
       obtain ⟨g1,g2,g3⟩:=purse_small hg
       have hfg:b.Slugs.length=b.Found.length:=by omega
       have hS:=Small.sums hfg (fun k=>by have:=f2 k;omega) (fun k=>by have:=g2 k;omega)
       have hj2:ref05_Check_j2 n b=some (if total b.Found+total b.Slugs≤12 then 0 else 50):=by
        unfold ref05_Check_j2
        rw [Both_eq hfg (fun k=>by have:=f2 k;omega) (fun k=>by have:=g2 k;omega) (by omega) (by omega),bnd_some,IsPurse_eq (by omega) (by omega),bnd_some]
        by_cases ht:total b.Found+total b.Slugs≤12
        ·rw [if_pos ht,if_neg]
         have hnn:∀k,0≤(sums b.Found b.Slugs).getD k 0:=fun k=>(hS k).1
         have:isPurse b.Wheel (sums b.Found b.Slugs)=true:=by
          simp only [isPurse,Bool.and_eq_true,decide_eq_true_eq,List.all_eq_true]
          refine ⟨⟨by rw [sums_len hfg];omega,fun x hx=>?_⟩,by rw [total_sums hfg];exact ht⟩
          obtain ⟨k,hk⟩:=List.getElem?_of_mem hx
          have h1:=getD_le (nn_mem hnn) k
          rw [total_sums hfg] at h1
          rw [List.getD_eq_getElem?_getD,hk] at h1
          exact inR_iff.2 ⟨h1.1,Int.le_trans h1.2 ht⟩
         simp [this]
        ·rw [if_neg ht,if_pos]
         have:isPurse b.Wheel (sums b.Found b.Slugs)=false:=by
          simp only [isPurse,total_sums hfg]
          simp [ht]
         simp [this]
       have key:∀(d i m:Nat),d=b.Found.length-i→i≤b.Found.length→d<m→ref05_Check_l1 n b m (i:Int)=some (if (∀k,i≤k→k<b.Found.length→0≤b.Marked.getD k 0∧b.Marked.getD k 0≤b.Found.getD k 0)∧total b.Found+total b.Slugs≤12 then 0 else 50):=by
        intro d
        induction d with
        | zero =>
         intro i m hd hi hm
         obtain ⟨m,rfl⟩:∃q,m=q+1:=⟨m-1,by omega⟩
         simp only [ref05_Check_l1,ref05_Check_l1_b]
         rw [if_neg (by simp;omega),hj2]
         congr 1
         by_cases ht:total b.Found+total b.Slugs≤12
         ·rw [if_pos ht,if_pos ⟨fun k h1 h2=>by omega,ht⟩]
         ·rw [if_neg ht,if_neg fun h=>ht h.2]
        | succ d ih =>
         intro i m hd hi hm
         obtain ⟨m,rfl⟩:∃q,m=q+1:=⟨m-1,by omega⟩
         simp only [ref05_Check_l1,ref05_Check_l1_b]
         rw [if_pos (by simp;omega),idx_nat (by omega),bnd_some,idx_nat (by omega),bnd_some,rwithin_eq,bnd_some,getD_get,getD_get,w64_id (by omega) (by omega)]
         have:=ih (i+1) m (by omega) (by omega) (by omega)
         rw [show (((i+1:Nat)):Int)=(i:Int)+1 by simp] at this
         by_cases hq:inR (b.Marked.getD i 0) 0 (b.Found.getD i 0)=true
         ·rw [if_neg (by rw [hq];simp),this]
          congr 1
          by_cases hR:(∀k,i+1≤k→k<b.Found.length→0≤b.Marked.getD k 0∧b.Marked.getD k 0≤b.Found.getD k 0)∧total b.Found+total b.Slugs≤12
          ·have hall:∀k,i≤k→k<b.Found.length→0≤b.Marked.getD k 0∧b.Marked.getD k 0≤b.Found.getD k 0:=fun k h1 h2=>by
            by_cases e:k=i
            ·subst e
             exact inR_iff.1 hq
            ·exact hR.1 k (by omega) h2
           rw [if_pos hR,if_pos ⟨hall,hR.2⟩]
          ·rw [if_neg hR,if_neg fun h=>hR ⟨fun k h1 h2=>h.1 k (by omega) h2,h.2⟩]
         ·rw [if_pos (by simpa using hq),if_neg fun h=>hq (inR_iff.2 (h.1 i (Nat.le_refl _) (by omega)))]
       rw [show ref05_Check_l1 n b n 0=_ from key b.Found.length 0 n (by omega) (by omega) (by omega)]
       by_cases hR:(∀k,0≤k→k<b.Found.length→0≤b.Marked.getD k 0∧b.Marked.getD k 0≤b.Found.getD k 0)∧total b.Found+total b.Slugs≤12
       ·rw [if_pos hR,boxOk_iff.2 ⟨hv,hp,hs,hf,hg,hm,fun k hk=>hR.1 k (Nat.zero_le _) hk,hR.2⟩]
        rfl
       ·rw [if_neg hR]
        exact no fun h=>hR ⟨fun k _ hk=>h.mkd k hk,h.t⟩
      ·rw [show (!inR b.Skips 0 9)=true by simpa using hs,j1]
       exact no fun h=>hs h.s
     ·rw [if_pos (by simpa using hp),j1]
      exact no fun h=>hp h.p
    ·rw [if_pos (by simp;omega),j1]
     exact no fun h=>hm h.ml
   ·rw [if_pos (by simpa using hg),j1]
    exact no fun h=>hg h.g
  ·rw [if_pos (by simpa using hf),j1]
   exact no fun h=>hf h.f
 ·rw [show valid b.Wheel=false by simpa using hv]
  exact no fun h=>hv h.v
theorem containsI {n:Nat} (f:Int→Option Bool) (g:Int→Bool) (xs:List Int) (hf:∀x,x∈xs→f x=some (g x)) (hl:xs.length<1048576) (hn:xs.length<n) :
  slices_ContainsFunc_int n (fun x (_:Unit)=>(f x).map fun y=>(y,())) xs ()=some (xs.any g,()):=by
 have key:∀(l:List Int) (i m:Nat) (s:Unit),i≤xs.length→xs.drop i=l→l.length<m→(slices_IndexFunc_int_l1 xs (fun x (_:Unit)=>(f x).map fun y=>(y,())) m (i:Int) s).map (fun r=>decide (r.1≥0))=some (l.any g):=by
  intro l i m s h1 h2 h3
  refine loopL (fun m i s=>(slices_IndexFunc_int_l1 xs (fun x (_:Unit)=>(f x).map fun y=>(y,())) m i s).map (fun r=>decide (r.1≥0))) xs (fun l _=>some (l.any g)) hl (fun m s=>?_) (fun m i x l s hx hi _ _ hrec=>?_) l i m s h1 h2 h3
  ·simp [slices_IndexFunc_int_l1,slices_IndexFunc_int_l1_b,slices_IndexFunc_int_j1]
  ·have hmem:x∈xs:=by
    unfold idx at hx
    rw [if_pos (by omega)] at hx
    exact List.mem_of_getElem? hx
   simp only [slices_IndexFunc_int_l1,slices_IndexFunc_int_l1_b]
   rw [if_pos (by simpa using hi),hx,bnd_some]
   simp only [hf x hmem,Option.map_some,bnd_some]
   by_cases hg:g x=true
   ·rw [if_pos (by simpa using hg)]
    simp [hg]
   ·rw [if_neg (by simpa using hg)]
    have:=hrec ()
    rw [this]
    simp [hg]
 have h:=key xs 0 n () (by omega) rfl hn
 unfold slices_ContainsFunc_int slices_IndexFunc_int
 change Option.map _ (slices_IndexFunc_int_l1 xs _ n 0 ())=_ at h
 cases hx:slices_IndexFunc_int_l1 xs (fun x (_:Unit)=>(f x).map fun y=>(y,())) n 0 () with
 | none=>rw [hx] at h;cases h
 | some r =>
  rw [hx] at h
  simp only [Option.map_some,Option.some.injEq] at h
  simp only [bnd_some]
  rw [h]
def badL (w:Wheel) (l:List Int):Bool:=decide (l.length≠w.Coins.length) || l.any (fun x=>!inR x 0 12)
theorem chk_step {n:Nat} (hn:200≤n) (b:Box) (m:Nat) (i:Int) (l:List Int) (hi:i<3) (h0:0≤i) (hl:l.length≤40) (hc:b.Wheel.Coins.length≤40) (hx:idx ([b.Found,b.Marked,b.Slugs]:List (List Int)) i=some l) :
  takings_Check_l2 n b (m+1) i=if badL b.Wheel l=true then some 50 else takings_Check_l2 n b m (i+1):=by
 simp only [takings_Check_l2,takings_Check_l2_b,takings_Check_j4]
 rw [if_pos (by simpa using hi),hx,bnd_some,containsI takings_Check_c1 (fun x=>!inR x 0 12) l (fun x _=>by unfold takings_Check_c1;rw [tWithin_eq,bnd_some]) (by omega) (by omega),bnd_some,w64_id (x:=i+1) (by omega) (by omega)]
 unfold badL
 by_cases h1:l.length=b.Wheel.Coins.length
 ·rw [if_neg (by simp;omega),show decide (l.length≠b.Wheel.Coins.length)=false by simp [h1],Bool.false_or]
 ·rw [if_pos (by simp;omega),show decide (l.length≠b.Wheel.Coins.length)=true by simp [h1],Bool.true_or]
  rfl
theorem badL_no {w:Wheel} {l:List Int} (h:badL w l=false):l.length=w.Coins.length∧l.all (fun x=>inR x 0 12)=true:=by
 simp only [badL,Bool.or_eq_false_iff,decide_eq_false_iff_not,Decidable.not_not,List.any_eq_false,List.all_eq_true] at h ⊢
 exact ⟨h.1,fun x hx=>by simpa using h.2 x hx⟩
theorem badL_of {w:Wheel} {l:List Int} (h1:l.length=w.Coins.length) (h2:l.all (fun x=>inR x 0 12)=true):badL w l=false:=by
 rw [List.all_eq_true] at h2
 simp only [badL,Bool.or_eq_false_iff,decide_eq_false_iff_not,Decidable.not_not,List.any_eq_false]
 exact ⟨h1,fun x hx=>by simp [h2 x hx]⟩
open Classical in
theorem tCheck_eq (b:Box) (n:Nat) (hl:lenB b) (hn:200≤n):takings_Check n b=some (cond (boxOk b) 0 50):=by
 obtain ⟨l1,l2,l3,l4,l5⟩:=hl
 have hol:okLen n b.Wheel:=⟨by omega,by omega,by omega,by omega⟩
 have no:∀h:¬BoxOk b,(some 50:Option Int)=some (cond (boxOk b) 0 50):=fun h=>by rw [boxOk_not h];rfl
 have j1:takings_Check_j1 n b true=some 50:=rfl
 unfold takings_Check
 rw [Check_eq hol,bnd_some]
 by_cases hv:valid b.Wheel=true
 ·rw [hv]
  show Option.bind _ _=_
  rw [tWithin_eq,bnd_some]
  by_cases hp:inR b.Plays 0 9999=true
  ·rw [if_neg (by simp [hp]),tWithin_eq,bnd_some]
   by_cases hs:inR b.Skips 0 9=true
   ·rw [hs]
    show takings_Check_l2 n b n 0=_
    obtain ⟨n,rfl⟩:∃q,n=q+4:=⟨n-4,by omega⟩
    have en:∀m i,takings_Check_l2 (n+4) b (m+1) i=takings_Check_l2 (n+4) b (m+1) i:=fun _ _=>rfl
    rw [show takings_Check_l2 (n+4) b (n+4) 0=takings_Check_l2 (n+4) b ((n+3)+1) 0 from rfl,chk_step hn b (n+3) 0 b.Found (by omega) (by omega) (by omega) l2 rfl]
    by_cases b1:badL b.Wheel b.Found=true
    ·rw [if_pos b1]
     exact no fun h=>by rw [badL_of (purse_small h.f).1 (purse_all h.f)] at b1;cases b1
    rw [if_neg b1,show takings_Check_l2 (n+4) b (n+3) (0+1)=takings_Check_l2 (n+4) b ((n+2)+1) 1 from rfl,chk_step hn b (n+2) 1 b.Marked (by omega) (by omega) (by omega) l2 rfl]
    obtain ⟨f1,f2⟩:=badL_no (by simpa using b1)
    by_cases b2:badL b.Wheel b.Marked=true
    ·rw [if_pos b2]
     refine no fun h=>?_
     rw [badL_of (by rw [h.ml];exact f1) (List.all_eq_true.2 fun x hx=>?_)] at b2
     ·cases b2
     ·obtain ⟨k,hk⟩:=List.getElem?_of_mem hx
      have hkl:k<b.Marked.length:=by
       rcases Nat.lt_or_ge k b.Marked.length with h1 | h1
       ·exact h1
       ·rw [List.getElem?_eq_none h1] at hk
        cases hk
      have h1:=h.mkd k (by have:=h.ml;omega)
      have h2:=(purse_small h.f).2.1 k
      rw [List.getD_eq_getElem?_getD,hk] at h1
      have h3:0≤x∧x≤b.Found.getD k 0:=h1
      exact inR_iff.2 ⟨h3.1,by omega⟩
    rw [if_neg b2,show takings_Check_l2 (n+4) b (n+2) (1+1)=takings_Check_l2 (n+4) b ((n+1)+1) 2 from rfl,chk_step hn b (n+1) 2 b.Slugs (by omega) (by omega) (by omega) l2 rfl]
    obtain ⟨m1,m2⟩:=badL_no (by simpa using b2)
    by_cases b3:badL b.Wheel b.Slugs=true
    ·rw [if_pos b3]
     exact no fun h=>by rw [badL_of (purse_small h.g).1 (purse_all h.g)] at b3;cases b3
    rw [if_neg b3]
    obtain ⟨g1,g2⟩:=badL_no (by simpa using b3)
    have sm:∀{l:List Int},l.all (fun x=>inR x 0 12)=true→∀k,0≤l.getD k 0∧l.getD k 0≤12:=fun {l} h k=>by
     rw [List.all_eq_true] at h
     rw [List.getD_eq_getElem?_getD]
     cases hk:l[k]? with
     | none=>simp
     | some x=>exact inR_iff.1 (h x (List.mem_of_getElem? hk))
    have f3:=sm f2
    have g3:=sm g2
    have m3:=sm m2
    show takings_Check_l1 b (n+4) 0 0=_
    have key:∀(d i m:Nat) (v:Int),d=b.Found.length-i→i≤b.Found.length→d<m→0≤v→v≤100*i→takings_Check_l1 b m v (i:Int)=some (if (∀k,i≤k→k<b.Found.length→b.Marked.getD k 0≤b.Found.getD k 0)∧v+total (b.Found.drop i)+total (b.Slugs.drop i)≤12 then 0 else 50):=by
     intro d
     induction d with
     | zero =>
      intro i m v hd hi hm h0 h1
      obtain ⟨m,rfl⟩:∃q,m=q+1:=⟨m-1,by omega⟩
      simp only [takings_Check_l1,takings_Check_l1_b,takings_Check_j3]
      have e1:total (b.Found.drop i)=0:=by rw [List.drop_eq_nil_of_le (by omega)];rfl
      have e2:total (b.Slugs.drop i)=0:=by rw [List.drop_eq_nil_of_le (by omega)];rfl
      rw [if_neg (by simp;omega)]
      by_cases ht:v>12
      ·rw [if_pos (by simpa using ht),if_neg fun h=>by omega]
      ·rw [if_neg (by simpa using ht),if_pos ⟨fun k h1 h2=>by omega,by omega⟩]
     | succ d ih =>
      intro i m v hd hi hm h0 h1
      obtain ⟨m,rfl⟩:∃q,m=q+1:=⟨m-1,by omega⟩
      have fi:=f3 i
      have gi:=g3 i
      simp only [takings_Check_l1,takings_Check_l1_b]
      rw [if_pos (by simp;omega),idx_nat (by omega),bnd_some,idx_nat (by omega),bnd_some,getD_get,getD_get]
      by_cases hq:b.Marked.getD i 0>b.Found.getD i 0
      ·rw [if_pos (by simpa using hq),if_neg fun h=>by have:=h.1 i (Nat.le_refl _) (by omega);omega]
      ·rw [if_neg (by simpa using hq),idx_nat (by omega),bnd_some,getD_get,w64_id (x:=b.Found.getD i 0+b.Slugs.getD i 0) (by omega) (by omega),w64_id (x:=v+_) (by omega) (by omega),w64_id (x:=(i:Int)+1) (by omega) (by omega)]
       have:=ih (i+1) m (v+(b.Found.getD i 0+b.Slugs.getD i 0)) (by omega) (by omega) (by omega) (by omega) (by omega)
       rw [show (((i+1:Nat)):Int)=(i:Int)+1 by simp] at this
       have e1:total (b.Found.drop i)=b.Found.getD i 0+total (b.Found.drop (i+1)):=by rw [List.drop_eq_getElem_cons (l:=b.Found) (i:=i) (by omega),getD_get];rfl
       have e2:total (b.Slugs.drop i)=b.Slugs.getD i 0+total (b.Slugs.drop (i+1)):=by rw [List.drop_eq_getElem_cons (l:=b.Slugs) (i:=i) (by omega),getD_get];rfl
       rw [this]
       congr 1
       by_cases hR:(∀k,i+1≤k→k<b.Found.length→b.Marked.getD k 0≤b.Found.getD k 0)∧v+(b.Found.getD i 0+b.Slugs.getD i 0)+total (b.Found.drop (i+1))+total (b.Slugs.drop (i+1))≤12
       ·have hall:∀k,i≤k→k<b.Found.length→b.Marked.getD k 0≤b.Found.getD k 0:=fun k h1 h2=>by
         by_cases e:k=i
         ·subst e
          omega
         ·exact hR.1 k (by omega) h2
        rw [if_pos hR,if_pos ⟨hall,by have:=hR.2;omega⟩]
       ·rw [if_neg hR,if_neg fun h=>hR ⟨fun k h1 h2=>h.1 k (by omega) h2,by have:=h.2;omega⟩]
    rw [show takings_Check_l1 b (n+4) 0 0=_ from key b.Found.length 0 (n+4) 0 (by omega) (by omega) (by omega) (by omega) (by omega)]
    simp only [List.drop_zero,Int.zero_add]
    have nnf:∀x,x∈b.Found→0≤x:=nn_mem fun k=>(f3 k).1
    have nng:∀x,x∈b.Slugs→0≤x:=nn_mem fun k=>(g3 k).1
    by_cases hR:(∀k,0≤k→k<b.Found.length→b.Marked.getD k 0≤b.Found.getD k 0)∧total b.Found+total b.Slugs≤12
    ·have tf:=total_nn nnf
     have tg:=total_nn nng
     rw [if_pos hR,boxOk_iff.2 ⟨hv,hp,hs,by simp only [isPurse,Bool.and_eq_true,decide_eq_true_eq];exact ⟨⟨f1,f2⟩,by have:=hR.2;omega⟩,by simp only [isPurse,Bool.and_eq_true,decide_eq_true_eq];exact ⟨⟨g1,g2⟩,by have:=hR.2;omega⟩,by omega,fun k hk=>⟨(m3 k).1,hR.1 k (Nat.zero_le _) hk⟩,hR.2⟩]
     rfl
    ·rw [if_neg hR]
     exact no fun h=>hR ⟨fun k _ hk=>(h.mkd k hk).2,h.t⟩
   ·rw [show (!inR b.Skips 0 9)=true by simpa using hs,j1]
    exact no fun h=>hs h.s
  ·rw [if_pos (by simpa using hp),j1]
   exact no fun h=>hp h.p
 ·rw [show valid b.Wheel=false by simpa using hv]
  exact no fun h=>hv h.v
def putB (b:Box):List Int:=sums b.Found b.Slugs
structure Near (b:Box):Prop where
 ok:BoxOk b
 k3:b.Wheel.Coins.length≤3
 t3:total b.Found+total b.Slugs≤3
theorem set_getD {l:List Int} {k j:Nat} {v:Int} (hk:k<l.length):(l.set k v).getD j 0=if k=j then v else l.getD j 0:=by
 by_cases e:k=j
 ·subst e
  rw [if_pos rfl,List.getD_eq_getElem?_getD,List.getElem?_set_self hk]
  rfl
 ·rw [if_neg e,List.getD_eq_getElem?_getD,List.getElem?_set_ne e,←List.getD_eq_getElem?_getD]
structure NearF (b:Box):Prop where
 fl:b.Found.length=b.Wheel.Coins.length
 sl:b.Slugs.length=b.Wheel.Coins.length
 ml:b.Marked.length=b.Wheel.Coins.length
 f:∀k,0≤b.Found.getD k 0∧b.Found.getD k 0≤12
 s:∀k,0≤b.Slugs.getD k 0∧b.Slugs.getD k 0≤12
 m:∀k,0≤b.Marked.getD k 0∧b.Marked.getD k 0≤12
 p:0≤b.Plays∧b.Plays≤9999
 k:0≤b.Skips∧b.Skips≤9
 h:OkW b.Wheel
theorem BoxOk.far {b:Box} (N:BoxOk b):NearF b:=by
 obtain ⟨f1,f2,f3⟩:=purse_small N.f
 obtain ⟨g1,g2,g3⟩:=purse_small N.g
 refine ⟨f1,g1,by rw [N.ml];exact f1,f2,g2,fun k=>?_,inR_iff.1 N.p,inR_iff.1 N.s,valid_ok N.v⟩
 rcases Nat.lt_or_ge k b.Found.length with h | h
 ·have:=N.mkd k h
  have:=f2 k
  omega
 ·rw [List.getD_eq_getElem?_getD,List.getElem?_eq_none (by rw [N.ml];exact h)]
  simp
theorem put_len {b:Box} (F:NearF b):(putB b).length=b.Wheel.Coins.length:=by rw [putB,sums_len (by rw [F.sl,F.fl]),F.fl]
theorem put_getD {b:Box} (F:NearF b) (k:Nat):(putB b).getD k 0=b.Found.getD k 0+b.Slugs.getD k 0:=sums_getD (by rw [F.sl,F.fl]) k
theorem put_total {b:Box} (F:NearF b):total (putB b)=total b.Found+total b.Slugs:=total_sums (by rw [F.sl,F.fl])
structure More (b:Box) (P:List Int):Prop where
 l:P.length=b.Wheel.Coins.length
 nn:∀k,0≤P.getD k 0
 t:total P≤2
theorem More.small {b:Box} {P:List Int} (h:More b P):∀k,0≤P.getD k 0∧P.getD k 0≤2:=fun k=>by
 have:=getD_le (nn_mem h.nn) k
 have:=h.t
 omega
theorem Near.cx {b:Box} (N:Near b) {P:List Int} (h:More b P):Cx b.Wheel (sums (putB b) P) :=
 have F:=N.ok.far
 have e:P.length=(putB b).length:=by rw [h.l,put_len F]
 ⟨N.ok.v,by rw [sums_len e,put_len F],fun k=>by rw [sums_getD e,put_getD F];have:=F.f k;have:=F.s k;have:=h.nn k;omega,N.k3,by rw [total_sums e,put_total F];have:=N.t3;have:=h.t;omega⟩
theorem put_eq {b:Box} (F:NearF b) (h4:b.Wheel.Coins.length≤4) {n:Nat} (hn:10≤n):takings_box_put n (some ⟨b⟩)=some (bagOf (putB b)):=by
 have hfl:=F.fl
 have hsl:=F.sl
 have key:∀(d i m:Nat) (Q:List Int),d=b.Found.length-i→i≤b.Found.length→d<m→Q.length=b.Found.length→(∀k:Nat,k<i→Q.getD k 0=b.Found.getD k 0+b.Slugs.getD k 0)→takings_box_put_l1 (some ⟨b⟩) ⟨b⟩ m (i:Int) (Q.getD 0 0) (Q.getD 1 0) (Q.getD 2 0) (Q.getD 3 0)=some (bagOf (putB b)):=by
  intro d
  induction d with
  | zero =>
   intro i m Q hd hi hm hQ hk
   obtain ⟨m,rfl⟩:∃q,m=q+1:=⟨m-1,by omega⟩
   simp only [takings_box_put_l1,takings_box_put_l1_b,takings_box_put_j1]
   have e:Q=putB b:=list_eq_getD (n:=b.Found.length) hQ (by rw [put_len F,F.fl]) fun k hk'=>by rw [hk k (by omega),put_getD F]
   rw [if_neg (by simp;omega),e]
   rfl
  | succ d ih =>
   intro i m Q hd hi hm hQ hk
   obtain ⟨m,rfl⟩:∃q,m=q+1:=⟨m-1,by omega⟩
   have h1:=F.f i
   have h2:=F.s i
   simp only [takings_box_put_l1,takings_box_put_l1_b]
   rw [if_pos (by simp;omega),show idx b.Found (i:Int)=some (b.Found.getD i 0) by rw [idx_nat (by omega),getD_get],bnd_some,bnd_some,show idx (⟨b⟩:Box_).Box.Slugs (i:Int)=some (b.Slugs.getD i 0) by show idx b.Slugs (i:Int)=_;rw [idx_nat (by omega),getD_get],bnd_some,show idx ([Q.getD 0 0,Q.getD 1 0,Q.getD 2 0,Q.getD 3 0]:List Int) (i:Int)=some (Q.getD i 0) from idx_bag (by omega),bnd_some,w64_id (x:=b.Found.getD i 0+_) (by omega) (by omega),show setI ([Q.getD 0 0,Q.getD 1 0,Q.getD 2 0,Q.getD 3 0]:List Int) (i:Int) (b.Found.getD i 0+b.Slugs.getD i 0)=some (bag4 (Q.set i (b.Found.getD i 0+b.Slugs.getD i 0))) from set_bag (by omega) (by omega),bnd_some,w64_id (x:=(i:Int)+1) (by omega) (by omega)]
   have:=ih (i+1) m (Q.set i (b.Found.getD i 0+b.Slugs.getD i 0)) (by omega) (by omega) (by omega) (by simp [hQ]) fun k hk'=>by
    rw [set_getD (by omega)]
    by_cases e:i=k
    ·subst e
     rw [if_pos rfl]
    ·rw [if_neg e,hk k (by omega)]
   rw [show (((i+1:Nat)):Int)=(i:Int)+1 by simp] at this
   exact this
 have:=key b.Found.length 0 n (List.replicate b.Found.length 0) (by omega) (by omega) (by omega) (by simp) fun k hk=>by omega
 have hz:∀k,(List.replicate b.Found.length (0:Int)).getD k 0=0:=fun k=>by
  rw [List.getD_eq_getElem?_getD,List.getElem?_replicate]
  split<;>rfl
 simp only [hz] at this
 exact this
theorem explain_a_eq {b:Box} {P base:List Int} (hP:More b P) (hb:base.length=b.Wheel.Coins.length) (hs:Small base) (h4:b.Wheel.Coins.length≤4) {n:Nat} (hn:10≤n):takings_explain_a P n 0 (bagOf base)=some (bagOf (sums base P)):=by
 have hl:=hP.l
 have key:∀(d i m:Nat) (Q:List Int),d=P.length-i→i≤P.length→d<m→Q.length=P.length→(∀k:Nat,k<i→Q.getD k 0=base.getD k 0+P.getD k 0)→(∀k:Nat,i≤k→Q.getD k 0=base.getD k 0)→takings_explain_a P m (i:Int) (bagOf Q)=some (bagOf (sums base P)):=by
  intro d
  induction d with
  | zero =>
   intro i m Q hd hi hm hQ hk _
   obtain ⟨m,rfl⟩:∃q,m=q+1:=⟨m-1,by omega⟩
   simp only [takings_explain_a]
   have e:Q=sums base P:=list_eq_getD (n:=P.length) hQ (by rw [sums_len (by omega)];omega) fun k hk'=>by rw [hk k (by omega),sums_getD (by omega)]
   rw [if_neg (by simp;omega),e]
  | succ d ih =>
   intro i m Q hd hi hm hQ hk hk2
   obtain ⟨m,rfl⟩:∃q,m=q+1:=⟨m-1,by omega⟩
   have h1:=hs i
   have h2:=hP.small i
   have h3:=hk2 i (Nat.le_refl _)
   simp only [takings_explain_a]
   rw [if_pos (by simp;omega),idx_nat (by omega),bnd_some,getD_get,show idx ([(bagOf Q).c0,(bagOf Q).c1,(bagOf Q).c2,(bagOf Q).c3]:List Int) (i:Int)=some (Q.getD i 0) from idx_bag (by omega),bnd_some,w64_id (x:=Q.getD i 0+_) (by omega) (by omega),show setI ([(bagOf Q).c0,(bagOf Q).c1,(bagOf Q).c2,(bagOf Q).c3]:List Int) (i:Int) (Q.getD i 0+P.getD i 0)=some (bag4 (Q.set i (Q.getD i 0+P.getD i 0))) from set_bag (by omega) (by omega),bnd_some,w64_id (x:=(i:Int)+1) (by omega) (by omega)]
   have:=ih (i+1) m (Q.set i (Q.getD i 0+P.getD i 0)) (by omega) (by omega) (by omega) (by simp [hQ]) (fun k hk'=>by
    rw [set_getD (by omega)]
    by_cases e:i=k
    ·subst e
     rw [if_pos rfl,h3]
    ·rw [if_neg e,hk k (by omega)]) fun k hk'=>by
    rw [set_getD (by omega),if_neg (by omega),hk2 k (by omega)]
   rw [show (((i+1:Nat)):Int)=(i:Int)+1 by simp] at this
   exact this
 exact key P.length 0 n base (by omega) (by omega) (by omega) (by omega) (fun k hk=>by omega) fun k _=>rfl
theorem worth_eq {n:Nat} {b:Box} (h:OkW b.Wheel) (hn:100≤n) {l:List Int} (hlen:l.length=b.Wheel.Coins.length) (hl:Small l):takings_box_worth n (some ⟨b⟩) l=some (purseW b.Wheel l):=by
 have h4:=h.clen
 have key:∀(d i m:Nat) (s:Int),d=b.Wheel.Coins.length-i→i≤b.Wheel.Coins.length→d<m→0≤s→s+100000*d≤1000000→takings_box_worth_l1 (some ⟨b⟩) l m s (i:Int)=some (s+wsum b.Wheel l d i):=by
  intro d
  induction d with
  | zero =>
   intro i m s hd hi hm hs hs2
   obtain ⟨m,rfl⟩:∃q,m=q+1:=⟨m-1,by omega⟩
   simp only [takings_box_worth_l1,takings_box_worth_l1_b,takings_box_worth_j1,wsum]
   rw [if_neg (by simp;omega),Int.add_zero]
  | succ d ih =>
   intro i m s hd hi hm hs hs2
   obtain ⟨m,rfl⟩:∃q,m=q+1:=⟨m-1,by omega⟩
   have ht:=wterm h hl (show i<b.Wheel.Coins.length by omega)
   simp only [takings_box_worth_l1,takings_box_worth_l1_b,wsum]
   rw [if_pos (by simp;omega),idx_nat (by omega),bnd_some,bnd_some,show idx (⟨b⟩:Box_).Box.Wheel.Coins (i:Int)=some (coin b.Wheel i) from coin_idx (w:=b.Wheel) (by omega) (by omega),bnd_some,getD_get,Int.mul_comm,w64_id (x:=coin b.Wheel i*_) (by omega) (by omega),w64_id (x:=s+_) (by omega) (by omega),w64_id (x:=(i:Int)+1) (by omega) (by omega)]
   have:=ih (i+1) m (s+coin b.Wheel i*l.getD i 0) (by omega) (by omega) (by omega) (by omega) (by omega)
   rw [show (((i+1:Nat)):Int)=(i:Int)+1 by simp] at this
   rw [this]
   congr 1
   omega
 have:=key b.Wheel.Coins.length 0 n 0 (by omega) (by omega) (by omega) (by omega) (by omega)
 rw [Int.zero_add] at this
 exact this
def IsCan (w:Wheel) (al L:List Int):Prop:=L.Pairwise (·<·)∧∀v,v∈L↔Can w al v
theorem pair_lt:∀{L:List Int},L.Pairwise (·≤·)→L.Nodup→L.Pairwise (·<·)
 | [],_,_=>.nil
 | x::L,h,hn=>by
  rw [List.pairwise_cons] at h ⊢
  rw [List.nodup_cons] at hn
  refine ⟨fun y hy=>?_,pair_lt h.2 hn.2⟩
  have:=h.1 y hy
  rcases Int.lt_or_eq_of_le this with h1 | h1
  ·exact h1
  ·subst h1
   exact absurd hy hn.1
theorem asc_eq:∀{L L':List Int},L.Pairwise (·<·)→L'.Pairwise (·<·)→(∀v,v∈L↔v∈L')→L=L'
 | [],[],_,_,_=>rfl
 | [],y::_,_,_,h=>absurd ((h y).2 (by simp)) (by simp)
 | x::_,[],_,_,h=>absurd ((h x).1 (by simp)) (by simp)
 | x::L,y::L',h1,h2,h=>by
  rw [List.pairwise_cons] at h1 h2
  have e:x=y:=by
   have hx:=(h x).1 (by simp)
   have hy:=(h y).2 (by simp)
   rcases List.mem_cons.1 hx with e | hx
   ·exact e
   ·rcases List.mem_cons.1 hy with e | hy
    ·exact e.symm
    ·have:=h1.1 y hy
     have:=h2.1 x hx
     omega
  subst e
  congr 1
  refine asc_eq h1.2 h2.2 fun v=>⟨fun hv=>?_,fun hv=>?_⟩
  ·rcases List.mem_cons.1 ((h v).1 (List.mem_cons_of_mem _ hv)) with e | hv'
   ·have:=h1.1 v hv
    omega
   ·exact hv'
  ·rcases List.mem_cons.1 ((h v).2 (List.mem_cons_of_mem _ hv)) with e | hv'
   ·have:=h2.1 v hv
    omega
   ·exact hv'
theorem IsCan.eq {w:Wheel} {al L L':List Int} (h:IsCan w al L) (h':IsCan w al L'):L=L':=asc_eq h.1 h'.1 fun v=>by rw [h.2,h'.2]
theorem isort_can {w:Wheel} {al K:List Int} (hn:K.Nodup) (h:∀v,v∈K↔Can w al v):IsCan w al (isort K) :=
 ⟨pair_lt (isort_sorted K) ((isort_perm K).nodup_iff.2 hn),fun v=>by rw [(isort_perm K).mem_iff];exact h v⟩
theorem ends_can {w:Wheel} {al:List Int} (C:Cx w al) {A M} (hW:WI w al A M) (hall:∀acts X,RP (clT (total al)) w al acts X→mhas M (pnt X)=true) :
  okSeen M=true∧EndsOk (bagOf al) (M.map (·.1)) (endsOf (bagOf al) M)∧IsCan w al (isort ((endsOf (bagOf al) M).map (·.1)))∧(∀v,v∈(endsOf (bagOf al) M).map (·.1)→okI v=true):=by
 have hE:EndsOk (bagOf al) (M.map (·.1)) (endsOf (bagOf al) M):=ends_ok (bagOf al) (M.map (·.1))
 have hkey:∀o,o∈M.map (·.1)→∃X,o=pnt X∧RP (clT (total al)) w al (A o) X:=fun o ho=>hW.key (mhas_iffV.2 ho)
 have hmem:∀v,v∈(endsOf (bagOf al) M).map (·.1)↔∃acts X,RP (clT (total al)) w al acts X∧X.l=al∧X.b=v:=fun v=>by
  constructor
  ·intro hv
   obtain ⟨⟨b,o⟩,ho,rfl⟩:=List.mem_map.1 hv
   obtain ⟨h1,h2,h3,_⟩:=(hE.mem b o).1 ho
   obtain ⟨X,rfl,hr⟩:=hkey o h1
   refine ⟨_,X,hr,bag_inj h2 (by rw [(okPt C hr).1.len,C.hl]) (by rw [(okPt C hr).1.len];have:=C.k3;omega),h3⟩
  ·rintro ⟨acts,X,hr,rfl,rfl⟩
   exact mhas_iffV.1 (hE.has (pnt X) (mhas_iffV.1 (hall acts X hr)) rfl)
 refine ⟨?_,hE,isort_can hE.nd fun v=>by rw [hmem,can_T C.h C.hl C.nn],fun v hv=>?_⟩
 ·unfold okSeen
  rw [Bool.and_eq_true]
  refine ⟨List.all_eq_true.2 fun p hp=>?_,decide_eq_true (by have:=hW.len C;omega)⟩
  obtain ⟨X,e,hr⟩:=(hW.pt p.1 p.2 hp).1
  rw [e]
  have:=(okPt C hr).2.2.2
  unfold okPointT_ at this
  simp only [List.all_cons,List.all_nil,Bool.and_true,Bool.and_eq_true] at this
  exact this.2.2.2.2.2.2
 ·obtain ⟨acts,X,hr,_,rfl⟩:=(hmem v).1 hv
  have h1:=okPt C hr
  have h2:=h1.1.bt
  have h3:=h1.1.cb
  have h4:=h1.1.c0
  have h5:=C.t5
  exact okI_of (by omega) (by omega)
def Expl (b:Box) (al:List Int):Prop:=∃v,Can b.Wheel al v∧b.Plays≤v∧v≤b.Plays+b.Skips
structure ExplOk (b:Box) (al acts:List Int):Prop where
 ok:acts.all (okAct b.Wheel)=true
 len:(acts.length:Int)≤2*total al
 bag:∀k:Nat,k<b.Wheel.Coins.length→cnt k acts=al.getD k 0
 pl:b.Plays≤buysL b.Wheel ⟨0,0⟩ acts
 pl2:buysL b.Wheel ⟨0,0⟩ acts≤b.Plays+b.Skips
theorem ExplOk.ex {b:Box} {al acts:List Int} (h:ExplOk b al acts):Expl b al:=⟨_,⟨acts,h.ok,h.bag,rfl⟩,h.pl,h.pl2⟩
theorem explain_eq {b:Box} (N:Near b) {P:List Int} (hP:More b P) {n:Nat} (hn:100000≤n):∃r,takings_box_explain n (some ⟨b⟩) P=some r∧(r.2=true∧ExplOk b (sums (putB b) P) r.1∨r.2=false∧¬Expl b (sums (putB b) P)):=by
 have h3:=N.k3
 have F:=N.ok.far
 have hpl:=F.p
 have hsk:=F.k
 have hpt:=F.f
 have C:=N.cx hP
 obtain ⟨A,M,h1,hW,hall⟩:=walk_eq C hn (b:=⟨b⟩) rfl
 obtain ⟨s1,s2,s3,s4⟩:=ends_can C hW hall
 unfold takings_box_explain
 rw [bnd_some,put_eq F (by omega) (by omega),bnd_some,explain_a_eq hP (put_len F) (fun k=>by rw [put_getD F];have:=F.f k;have:=F.s k;omega) (by omega) (by omega),bnd_some,h1,bnd_some,if_pos s1]
 generalize hal:sums (putB b) P=al at *
 generalize hE:endsOf (bagOf al) M=E at *
 generalize hbs:isort (E.map (·.1))=bs at *
 have hbl:bs.length≤93312:=by
  rw [←hbs,(isort_perm _).length_eq,List.length_map,←hE]
  have:=ends_len (al:=bagOf al) (M.map (·.1)) []
  simp only [List.length_map,List.length_nil] at this
  have:=hW.len C
  unfold endsOf
  omega
 have key:∀(d i m:Nat),d=bs.length-i→i≤bs.length→d<m→(∀v,v∈bs→v∈bs.drop i∨¬(b.Plays≤v∧v≤b.Plays+b.Skips))→∃r,takings_explain_l n ⟨b⟩ M E bs m (i:Int)=some r∧(r.2=true∧ExplOk b al r.1∨r.2=false∧¬Expl b al):=by
  intro d
  induction d with
  | zero =>
   intro i m hd hi hm hv
   obtain ⟨m,rfl⟩:∃q,m=q+1:=⟨m-1,by omega⟩
   simp only [takings_explain_l]
   rw [if_neg (by simp;omega)]
   refine ⟨_,rfl,.inr ⟨rfl,?_⟩⟩
   rintro ⟨v,h1,h2⟩
   rcases hv v ((s3.2 v).2 h1) with h | h
   ·rw [List.drop_eq_nil_of_le (by omega)] at h
    simp at h
   ·exact h h2
  | succ d ih =>
   intro i m hd hi hm hv
   obtain ⟨m,rfl⟩:∃q,m=q+1:=⟨m-1,by omega⟩
   simp only [takings_explain_l]
   have hdr:bs.drop i=bs.getD i 0::bs.drop (i+1):=by rw [List.drop_eq_getElem_cons (l:=bs) (i:=i) (by omega),getD_get]
   have hbm:bs.getD i 0∈bs:=by
    rw [←getD_get (by omega)]
    exact List.getElem_mem (by omega)
   rw [if_pos (by simp;omega),idx_nat (by omega),bnd_some,getD_get,tWithin_eq,bnd_some,w64_id (x:=b.Plays+b.Skips) (by omega) (by omega),w64_id (x:=(i:Int)+1) (by omega) (by omega)]
   generalize hx:bs.getD i 0=x at *
   by_cases hq:inR x b.Plays (b.Plays+b.Skips)=true
   ·rw [if_neg (by rw [hq];simp)]
    have hxk:x∈E.map (·.1):=by
     rw [←hbs,(isort_perm _).mem_iff] at hbm
     exact hbm
    have hmx:mhas E x=true:=mhas_iffV.2 hxk
    have hok:mok okI E x=true:=by
     unfold Go.AM.mok
     rw [s4 x hxk,Bool.true_and,Bool.and_eq_true]
     exact ⟨List.all_eq_true.2 fun p hp=>s4 p.1 (List.mem_map.2 ⟨p,hp,rfl⟩),decide_eq_true s2.nd⟩
    rw [show vlook okI zeroPt E x=some (vget zeroPt E x) from if_pos hok,bnd_some]
    obtain ⟨p1,p2,p3,_⟩:=(s2.mem _ _).1 (vget_memV zeroPt hmx)
    have hmp:=mhas_iffV.2 p1
    obtain ⟨X,e,hr⟩:=hW.key hmp
    obtain ⟨hX,ht,hk,hokp⟩:=okPt C hr
    generalize hp:vget zeroPt E x=p at *
    subst e
    have hXl:X.l=al:=bag_inj p2 (by rw [hX.len,C.hl]) (by rw [hX.len];omega)
    have hsh:=hr.short C.h C.hl C.nn
    have hlen:((A (pnt X)).length:Int)≤2*total al:=by
     rcases hsh.2 with h | ⟨_,h,_⟩
     ·rw [hXl] at h
      exact h
     ·rw [hXl] at h
      omega
    have ht5:=C.t5
    rw [show vlook okPointT_ zeroStep M (pnt X)=some (vget zeroStep M (pnt X)) from if_pos (hW.mok C hr),bnd_some,back_eq C hW n hmp (by omega) (by simp;omega),bnd_some]
    refine ⟨_,rfl,.inl ⟨rfl,?_⟩⟩
    simp only [List.nil_append,List.reverse_reverse]
    have hb:buysL b.Wheel ⟨0,0⟩ (A (pnt X))=x:=by rw [hX.buys];exact p3
    have hq:=inR_iff.1 hq
    exact ⟨hX.ok,hlen,fun k _=>by rw [hX.bag k,hXl],by rw [hb];exact hq.1,by rw [hb];exact hq.2⟩
   ·rw [if_pos (by simpa using hq)]
    have:=ih (i+1) m (by omega) (by omega) (by omega) fun v hvm=>by
     rcases hv v hvm with h | h
     ·rw [hdr] at h
      rcases List.mem_cons.1 h with rfl | h
      ·exact .inr fun hh=>hq (inR_iff.2 hh)
      ·exact .inl h
     ·exact .inr h
    rw [show (((i+1:Nat)):Int)=(i:Int)+1 by simp] at this
    exact this
 exact key bs.length 0 n (by omega) (by omega) (by omega) fun v hv=>.inl (by simpa using hv)
def gapsL:Nat→List Int→Nat→List (List Int)
 | 0,p,_=>[p]
 | d+1,p,t=>(upF 0 (t+1)).flatMap fun v=>gapsL d (p++[v]) (t-v.toNat)
def foldS {S:Type} (F:List Int→S→Option (Unit×S)):List (List Int)→S→Option S
 | [],s=>some s
 | x::l,s=>(F x s).bind fun r=>foldS F l r.2
theorem foldS_append {S:Type} (F:List Int→S→Option (Unit×S)):∀(a b:List (List Int)) (s:S),foldS F (a++b) s=(foldS F a s).bind fun s=>foldS F b s
 | [],b,s=>rfl
 | x::a,b,s=>by
  simp only [List.cons_append,foldS]
  cases F x s with
  | none=>rfl
  | some r =>
   simp only [Option.bind_some]
   exact foldS_append F a b r.2
theorem gaps_eq {S:Type} (F:List Int→S→Option (Unit×S)) {b:Box} (h4:b.Wheel.Coins.length≤4):∀(d:Nat) (p:List Int) (t n:Nat) (s:S),p.length+d=b.Wheel.Coins.length→t≤2→d+10≤n→takings_box_gaps n F (some ⟨b⟩) p (t:Int) s=(foldS F (gapsL d p t) s).map fun s=>((),s)
 | d,p,t,0,s,_,_,hn=>absurd hn (by omega)
 | 0,p,t,n+1,s,hp,ht,hn=>by
  simp only [takings_box_gaps,takings_box_gaps_b]
  rw [bnd_some,if_pos (by simp;omega)]
  simp only [gapsL,foldS]
  cases F p s<;>rfl
 | d+1,p,t,n+1,s,hp,ht,hn=>by
  simp only [takings_box_gaps,takings_box_gaps_b]
  rw [bnd_some,if_neg (by simp;omega)]
  have loop:∀(e i m:Nat) (s:S),i+e=t+1→e<m→takings_box_gaps_l1 (takings_box_gaps n F) (some ⟨b⟩) p (t:Int) m (i:Int) s=(foldS F ((upF i e).flatMap fun v=>gapsL d (p++[v]) (t-v.toNat)) s).map fun s=>((),s):=by
   intro e
   induction e with
   | zero =>
    intro i m s hi hm
    obtain ⟨m,rfl⟩:∃q,m=q+1:=⟨m-1,by omega⟩
    simp only [takings_box_gaps_l1,takings_box_gaps_l1_b]
    rw [w64_id (by omega) (by omega),if_neg (by simp;omega)]
    rfl
   | succ e ih =>
    intro i m s hi hm
    obtain ⟨m,rfl⟩:∃q,m=q+1:=⟨m-1,by omega⟩
    simp only [takings_box_gaps_l1,takings_box_gaps_l1_b,slices_Clone_int]
    have hrec:=gaps_eq F h4 d (p++[(i:Int)]) (t-i) n s (by simp;omega) (by omega) (by omega)
    rw [show ((t-i:Nat):Int)=(t:Int)-(i:Int) by omega] at hrec
    rw [w64_id (x:=(t:Int)+1) (by omega) (by omega),if_pos (by simp;omega),app_nil (by omega),bnd_some,app_ok (by simp;omega),bnd_some,w64_id (x:=(t:Int)-i) (by omega) (by omega),w64_id (x:=(i:Int)+1) (by omega) (by omega),hrec]
    simp only [upF,List.flatMap_cons,foldS_append,Int.toNat_natCast]
    cases foldS F (gapsL d (p++[(i:Int)]) (t-i)) s with
    | none=>rfl
    | some s' =>
     have:=ih (i+1) m s' (by omega) (by omega)
     rw [show (((i+1:Nat)):Int)=(i:Int)+1 by simp] at this
     simp only [Option.map_some,Option.bind_some]
     exact this
  exact loop (t+1) 0 n s (by omega) (by omega)
theorem gapsL_mem:∀(d:Nat) (p:List Int) (t:Nat) (P:List Int),P∈gapsL d p t↔∃r,P=p++r∧r.length=d∧(∀k,0≤r.getD k 0)∧total r≤t
 | 0,p,t,P=>by
  simp only [gapsL,List.mem_singleton]
  constructor
  ·rintro rfl
   exact ⟨[],by simp,rfl,fun k=>by simp,by simp [total]⟩
  ·rintro ⟨r,rfl,h,_⟩
   obtain rfl:=List.eq_nil_of_length_eq_zero h
   simp
 | d+1,p,t,P=>by
  simp only [gapsL,List.mem_flatMap]
  constructor
  ·rintro ⟨v,hv,hP⟩
   have hv:=upF_mem.1 hv
   obtain ⟨r,rfl,h1,h2,h3⟩:=(gapsL_mem d _ _ P).1 hP
   refine ⟨v::r,by simp,by simp [h1],fun k=>?_,?_⟩
   ·cases k with
    | zero =>
     show 0≤v
     omega
    | succ k=>simpa using h2 k
   ·simp only [total]
    omega
  ·rintro ⟨r,rfl,h1,h2,h3⟩
   cases r with
   | nil=>simp at h1
   | cons v r =>
    have hv:0≤v:=h2 0
    have hr:∀k,0≤r.getD k 0:=fun k=>by simpa using h2 (k+1)
    have ht:=total_nn (nn_mem hr)
    simp only [total] at h3
    exact ⟨v,upF_mem.2 ⟨by omega,by omega⟩,(gapsL_mem d _ _ _).2 ⟨r,by simp,by simpa using h1,hr,by omega⟩⟩
theorem gaps_more {b:Box} {P:List Int}:P∈gapsL b.Wheel.Coins.length [] 2↔More b P:=by
 rw [gapsL_mem]
 constructor
 ·rintro ⟨r,rfl,h1,h2,h3⟩
  exact ⟨by simpa using h1,by simpa using h2,by simpa using h3⟩
 ·rintro ⟨h1,h2,h3⟩
  exact ⟨P,by simp,h1,h2,h3⟩
theorem gapsL_len:∀(d:Nat) (p:List Int) (t:Nat),t≤2→(gapsL d p t).length≤3 ^ d
 | 0,p,t,_=>by simp [gapsL]
 | d+1,p,t,ht=>by
  simp only [gapsL]
  refine Nat.le_trans (flatMap_le (c:=3 ^ d) fun v _=>gapsL_len d _ _ (by omega)) ?_
  rw [upF_len,Nat.pow_succ,Nat.mul_comm]
  exact Nat.mul_le_mul_left _ (by omega)
structure GInv (b:Box) (xs:List (List Int)) (gs:List Gap_):Prop where
 len:gs.length≤xs.length
 mem:∀g,g∈gs→More b g.purse∧ExplOk b (sums (putB b) g.purse) g.acts
 eq:∀g,g∈gs→∀h,h∈gs→purseW b.Wheel g.purse=purseW b.Wheel h.purse
 le:∀P,P∈xs→Expl b (sums (putB b) P)→∃g,g∈gs∧purseW b.Wheel g.purse≤purseW b.Wheel P
theorem small_of {b:Box} {P:List Int} (h:More b P):Small P:=fun k=>by have:=h.small k;omega
theorem missing_step {b:Box} (N:Near b) {n:Nat} (hn:100000≤n) {xs:List (List Int)} {gs:List Gap_} {P:List Int} (hP:More b P) (hx:xs.length≤100) (h:GInv b xs gs):∃gs',takings_box_missing_c1 n (some ⟨b⟩) P gs=some ((),gs')∧GInv b (xs++[P]) gs':=by
 obtain ⟨r,hr,hc⟩:=explain_eq N hP hn
 have hw:=fun {l} (hl:More b l)=>worth_eq N.ok.far.h (show 100≤n by omega) hl.l (small_of hl)
 have skip:r.2=false→¬Expl b (sums (putB b) P):=fun e=>by
  rcases hc with ⟨h1,_⟩ | ⟨_,h2⟩
  ·rw [e] at h1
   cases h1
  ·exact h2
 have take:r.2=true→ExplOk b (sums (putB b) P) r.1:=fun e=>by
  rcases hc with ⟨_,h2⟩ | ⟨h1,_⟩
  ·exact h2
  ·rw [e] at h1
   cases h1
 have keep:¬Expl b (sums (putB b) P)→GInv b (xs++[P]) gs:=fun hno=>⟨by have:=h.len;simp;omega,h.mem,h.eq,fun Q hQ hE=>by
  rcases List.mem_append.1 hQ with hQ | hQ
  ·exact h.le Q hQ hE
  ·obtain rfl:=List.mem_singleton.1 hQ
   exact absurd hE hno⟩
 cases gs with
 | nil =>
  simp only [takings_box_missing_c1]
  rw [hr,bnd_some]
  cases e:r.2 with
  | false =>
   rw [if_pos (by rfl)]
   exact ⟨_,rfl,keep (skip e)⟩
  | true =>
   rw [if_neg (by simp)]
   refine ⟨_,rfl,by simp,fun g hg=>?_,fun g hg g' hg'=>?_,fun Q hQ hE=>?_⟩
   ·obtain rfl:=List.mem_singleton.1 hg
    exact ⟨hP,take e⟩
   ·rw [List.mem_singleton.1 hg,List.mem_singleton.1 hg']
   ·rcases List.mem_append.1 hQ with hQ | hQ
    ·obtain ⟨g,hg,_⟩:=h.le Q hQ hE
     simp at hg
    ·obtain rfl:=List.mem_singleton.1 hQ
     exact ⟨_,List.mem_singleton.2 rfl,Int.le_refl _⟩
 | cons x gs =>
  simp only [takings_box_missing_c1]
  obtain ⟨hxm,hxe⟩:=h.mem x (by simp)
  rw [hw hP,bnd_some,hw hxm,bnd_some]
  by_cases hgt:purseW b.Wheel P>purseW b.Wheel x.purse
  ·rw [if_pos (by simpa using hgt)]
   refine ⟨_,rfl,by have:=h.len;simp at this ⊢;omega,h.mem,h.eq,fun Q hQ hE=>?_⟩
   rcases List.mem_append.1 hQ with hQ | hQ
   ·exact h.le Q hQ hE
   ·obtain rfl:=List.mem_singleton.1 hQ
    exact ⟨x,by simp,by omega⟩
  ·rw [if_neg (by simpa using hgt),hr,bnd_some]
   cases e:r.2 with
   | false =>
    rw [if_pos (by rfl)]
    exact ⟨_,rfl,keep (skip e)⟩
   | true =>
    rw [if_neg (by simp),bnd_some,bnd_some]
    by_cases hlt:purseW b.Wheel P<purseW b.Wheel x.purse
    ·rw [if_pos (by simpa using hlt)]
     refine ⟨_,rfl,by simp,fun g hg=>?_,fun g hg g' hg'=>?_,fun Q hQ hE=>?_⟩
     ·obtain rfl:=List.mem_singleton.1 hg
      exact ⟨hP,take e⟩
     ·rw [List.mem_singleton.1 hg,List.mem_singleton.1 hg']
     ·refine ⟨_,List.mem_singleton.2 rfl,?_⟩
      show purseW b.Wheel P≤_
      rcases List.mem_append.1 hQ with hQ | hQ
      ·obtain ⟨g,hg,hle⟩:=h.le Q hQ hE
       have:=h.eq g hg x (by simp)
       omega
      ·obtain rfl:=List.mem_singleton.1 hQ
       exact Int.le_refl _
    ·rw [if_neg (by simpa using hlt),app_ok (by have:=h.len;simp at this ⊢;omega),bnd_some]
     have heq:purseW b.Wheel P=purseW b.Wheel x.purse:=by omega
     have hall:∀g,g∈x::gs++[⟨P,r.1⟩]→purseW b.Wheel g.purse=purseW b.Wheel P:=fun g hg=>by
      rcases List.mem_append.1 hg with hg | hg
      ·rw [heq]
       exact h.eq g hg x (by simp)
      ·rw [List.mem_singleton.1 hg]
     refine ⟨_,rfl,by have:=h.len;simp at this ⊢;omega,fun g hg=>?_,fun g hg g' hg'=>by rw [hall g hg,hall g' hg'],fun Q hQ hE=>?_⟩
     ·rcases List.mem_append.1 hg with hg | hg
      ·exact h.mem g hg
      ·obtain rfl:=List.mem_singleton.1 hg
       exact ⟨hP,take e⟩
     ·rcases List.mem_append.1 hQ with hQ | hQ
      ·obtain ⟨g,hg,hle⟩:=h.le Q hQ hE
       exact ⟨g,List.mem_append_left _ hg,hle⟩
      ·obtain rfl:=List.mem_singleton.1 hQ
       exact ⟨⟨Q,r.1⟩,List.mem_append_right _ (by simp),Int.le_refl _⟩
theorem missing_fold {b:Box} (N:Near b) {n:Nat} (hn:100000≤n):∀(l xs:List (List Int)) (gs:List Gap_),(∀P,P∈l→More b P)→xs.length+l.length≤100→GInv b xs gs→∃gs',foldS (fun x0 s=>takings_box_missing_c1 n (some ⟨b⟩) x0 s) l gs=some gs'∧GInv b (xs++l) gs'
 | [],xs,gs,_,_,h=>⟨gs,rfl,by simpa using h⟩
 | P::l,xs,gs,hm,hl,h=>by
  simp only [List.length_cons] at hl
  obtain ⟨gs1,h1,h2⟩:=missing_step N hn (hm P (by simp)) (by omega) h
  obtain ⟨gs2,h3,h4⟩:=missing_fold N hn l (xs++[P]) gs1 (fun Q hQ=>hm Q (by simp [hQ])) (by simp;omega) h2
  refine ⟨gs2,?_,by simpa using h4⟩
  simp only [foldS,h1,Option.bind_some]
  exact h3
def Gaps (b:Box) (gs:List Gap_):Prop:=(gs=[]∧∀P,More b P→¬Expl b (sums (putB b) P))∨∃x t,gs=x::t∧More b x.purse∧ExplOk b (sums (putB b) x.purse) x.acts∧∀P,More b P→Expl b (sums (putB b) P)→purseW b.Wheel x.purse≤purseW b.Wheel P
theorem missing_eq {b:Box} (N:Near b) {n:Nat} (hn:100000≤n):∃gs,takings_box_missing n (some ⟨b⟩)=some gs∧Gaps b gs:=by
 have h3:=N.k3
 have hlen:(gapsL b.Wheel.Coins.length [] 2).length≤100:=by
  have h1:=gapsL_len b.Wheel.Coins.length [] 2 (by omega)
  have h2:3 ^ b.Wheel.Coins.length≤3 ^ 3:=Nat.pow_le_pow_right (by omega) h3
  omega
 obtain ⟨gs,h1,h2⟩:=missing_fold N hn (gapsL b.Wheel.Coins.length [] 2) [] [] (fun P hP=>gaps_more.1 hP) (by simpa using hlen) ⟨by simp,by simp,by simp,by simp⟩
 refine ⟨gs,?_,?_⟩
 ·unfold takings_box_missing
  have:=gaps_eq (fun x0 s=>takings_box_missing_c1 n (some ⟨b⟩) x0 s) (b:=b) (by omega) b.Wheel.Coins.length [] 2 n [] (by simp) (by omega) (by omega)
  rw [show takings_box_gaps n (fun x0 s=>takings_box_missing_c1 n (some ⟨b⟩) x0 s) (some ⟨b⟩) [] 2 []=_ from this,h1]
  rfl
 ·rw [List.nil_append] at h2
  cases gs with
  | nil =>
   refine .inl ⟨rfl,fun P hP hE=>?_⟩
   obtain ⟨g,hg,_⟩:=h2.le P (gaps_more.2 hP) hE
   simp at hg
  | cons x t =>
   obtain ⟨m1,m2⟩:=h2.mem x (by simp)
   refine .inr ⟨x,t,rfl,m1,m2,fun P hP hE=>?_⟩
   obtain ⟨g,hg,hle⟩:=h2.le P (gaps_more.2 hP) hE
   have:=h2.eq g hg x (by simp)
   omega
theorem BoxOk.len {b:Box} (N:BoxOk b):lenB b:=by
 have F:=N.far
 have h1:=F.fl
 have h2:=F.sl
 have h3:=F.ml
 have h4:=F.h.nlen
 have h5:=F.h.clen
 exact ⟨by omega,by omega,by omega,by omega,by omega⟩
theorem open_ok {b:Box} (N:BoxOk b) {n:Nat} (hn:200≤n):takings_open n b=some (some ⟨b⟩,0):=by
 unfold takings_open
 rw [tCheck_eq b n N.len hn,boxOk_iff.2 N]
 rfl
theorem rPut_eq {b:Box} (F:NearF b) {n:Nat} (hn:200≤n):ref05_Put n b=some (putB b):=by
 have h1:=F.fl
 have h2:=F.sl
 have h3:=F.h.clen
 unfold ref05_Put
 rw [Both_eq (by omega) (fun k=>by have:=F.f k;omega) (fun k=>by have:=F.s k;omega) (by omega) (by omega)]
 rfl
theorem put_small {b:Box} (F:NearF b):Small (putB b):=fun k=>by
 rw [put_getD F]
 have:=F.f k
 have:=F.s k
 omega
theorem Far_eq (b:Box) {n:Nat} (hn:200≤n):law05_Far n b=some true∨(law05_Far n b=some false∧lenB b∧(BoxOk b→Near b)):=by
 unfold law05_Far
 by_cases hl:(max (max (max (max (b.Wheel.Notches.length:Int) (b.Wheel.Coins.length:Int)) (b.Found.length:Int)) (b.Marked.length:Int)) (b.Slugs.length:Int))>40
 ·rw [if_pos (by simpa using hl)]
  exact .inl rfl
 ·rw [if_neg (by simpa using hl)]
  have hL:lenB b:=⟨by omega,by omega,by omega,by omega,by omega⟩
  rw [bcond b n hL hn,bnd_some]
  by_cases hb:BoxOk b
  ·have F:=hb.far
   have h1:=F.fl
   have h3:=F.h.clen
   rw [boxOk_iff.2 hb]
   show (Option.bind _ _=_)∨(Option.bind _ _=_∧_)
   rw [rPut_eq F hn,bnd_some,Total_eq (put_small F) (by rw [put_len F];omega) (by rw [put_len F];omega),bnd_some,put_total F]
   by_cases ht:total b.Found+total b.Slugs>3
   ·rw [if_pos (by simpa using ht)]
    exact .inl rfl
   ·rw [if_neg (by simpa using ht)]
    unfold law05_Far_j1
    by_cases hk:(b.Found.length:Int)>3
    ·exact .inl (by simp [hk])
    ·exact .inr ⟨by simp;omega,hL,fun _=>⟨hb,by omega,by omega⟩⟩
  ·rw [boxOk_not hb]
   exact .inr ⟨rfl,hL,fun h=>absurd h hb⟩
def IsLeast (b:Box) (m:Int):Prop:=(∃P,More b P∧Expl b (sums (putB b) P)∧purseW b.Wheel P=m)∧∀P,More b P→Expl b (sums (putB b) P)→m≤purseW b.Wheel P
def NoneM (b:Box):Prop:=∀P,More b P→¬Expl b (sums (putB b) P)
def MissR (b:Box) (r:Int×Int):Prop:=(r.2=0∧IsLeast b r.1)∨(r=(0,3)∧NoneM b)
theorem settle_eq {b:Box} (N:Near b) {n:Nat} (hn:100000≤n):∃gs,takings_box_missing n (some ⟨b⟩)=some gs∧((gs=[]∧takings_settle n b=some (none,[],3)∧NoneM b)∨∃x t,gs=x::t∧takings_settle n b=some (some ⟨b⟩,x::t,0)∧More b x.purse∧ExplOk b (sums (putB b) x.purse) x.acts∧IsLeast b (purseW b.Wheel x.purse)):=by
 obtain ⟨gs,h1,h2⟩:=missing_eq N hn
 refine ⟨gs,h1,?_⟩
 unfold takings_settle
 rw [open_ok N.ok (by omega),bnd_some,if_neg (by simp),h1,bnd_some]
 rcases h2 with ⟨rfl,h2⟩ | ⟨x,t,rfl,h3,h4,h5⟩
 ·exact .inl ⟨rfl,rfl,h2⟩
 ·rw [if_neg (by simp;omega)]
  exact .inr ⟨x,t,rfl,rfl,h3,h4,⟨x.purse,h3,h4.ex,rfl⟩,h5⟩
theorem Missing_eq {b:Box} (N:Near b) {n:Nat} (hn:100000≤n):∃r,takings_Missing n b=some r∧MissR b r:=by
 obtain ⟨gs,_,h⟩:=settle_eq N hn
 unfold takings_Missing
 rcases h with ⟨rfl,h,h2⟩ | ⟨x,t,rfl,h,h3,h4,h5⟩
 ·rw [h]
  exact ⟨(0,3),rfl,.inr ⟨rfl,h2⟩⟩
 ·rw [h,bnd_some,if_neg (by simp)]
  show ∃r,Option.bind (some x) _=some r∧_
  rw [bnd_some,worth_eq N.ok.far.h (by omega) h3.l (small_of h3)]
  exact ⟨_,rfl,.inl ⟨rfl,h5⟩⟩
theorem purse_nn {w:Wheel} (h:OkW w) {P:List Int} (hs:Small P):0≤purseW w P∧purseW w P≤100000*w.Coins.length:=by
 have:=wsum_range h hs w.Coins.length 0 (by omega)
 exact this
theorem MissR.eq {b:Box} {r r':Int×Int} (h:MissR b r) (h':MissR b r'):r=r':=by
 obtain ⟨a,c⟩:=r
 obtain ⟨a',c'⟩:=r'
 rcases h with ⟨h1,⟨P,p1,p2,p3⟩,h3⟩ | ⟨h1,h2⟩
 ·rcases h' with ⟨k1,⟨P',q1,q2,q3⟩,k3⟩ | ⟨k1,k2⟩
  ·have:=h3 P' q1 q2
   have:=k3 P p1 p2
   simp only at *
   have:a=a':=by omega
   rw [this,h1,k1]
  ·exact absurd p2 (k2 P p1)
 ·rcases h' with ⟨k1,⟨P',q1,q2,q3⟩,k3⟩ | ⟨k1,k2⟩
  ·exact absurd q2 (h2 P' q1)
  ·rw [h1,k1]
theorem MissR.nn {b:Box} (N:BoxOk b) {r:Int×Int} (h:MissR b r):0≤r.1∧r.1≤1000000:=by
 rcases h with ⟨_,⟨P,h1,_,he⟩,_⟩ | ⟨rfl,_⟩
 ·rw [←he]
  have:=purse_nn N.far.h (small_of h1)
  have:=N.far.h.clen
  omega
 ·simp
def cashS (b:Box):Int×Int×Int×Int:=(purseW b.Wheel b.Found-purseW b.Wheel b.Marked,purseW b.Wheel b.Marked,purseW b.Wheel b.Slugs,0)
theorem Cash_eq {b:Box} (N:BoxOk b) {n:Nat} (hn:200≤n):takings_Cash n b=some (cashS b):=by
 have F:=N.far
 have hf:Small b.Found:=fun k=>by have:=F.f k;omega
 have hm:Small b.Marked:=fun k=>by have:=F.m k;omega
 have hs:Small b.Slugs:=fun k=>by have:=F.s k;omega
 have h1:=purse_nn F.h hf
 have h2:=purse_nn F.h hm
 have h3:=F.h.clen
 unfold takings_Cash
 rw [open_ok N hn,bnd_some,if_neg (by simp),worth_eq F.h (by omega) F.ml hm,bnd_some,worth_eq F.h (by omega) F.fl hf,bnd_some,worth_eq F.h (by omega) F.sl hs,bnd_some,w64_id (by omega) (by omega)]
 rfl
theorem Copy5_eq {b:Box} (h:lenB b):ref05_Copy b=some b:=by
 obtain ⟨h1,h2,h3,h4,h5⟩:=h
 unfold ref05_Copy
 rw [Copy_eq (n:=100) ⟨by omega,by omega,by omega,by omega⟩,bnd_some,app_nil (by omega),bnd_some,app_nil (by omega),bnd_some,app_nil (by omega),bnd_some]
def mOf (n:Nat) (b:Box):Int×Int:=(takings_Missing n b).getD (0,0)
theorem mOf_eq {b:Box} (N:Near b) {n:Nat} (hn:100000≤n):takings_Missing n b=some (mOf n b)∧MissR b (mOf n b):=by
 obtain ⟨r,h1,h2⟩:=Missing_eq N hn
 unfold mOf
 rw [h1]
 exact ⟨rfl,h2⟩
namespace Sh
set_option linter.unusedVariables false
set_option linter.unusedSimpArgs false
def okC (c:Clause):Bool:=inR c.Kind 1 5&&inR c.Cents 0 9999&&inR c.Part 0 100&&inR c.More 0 100
def okS (s:Share):Bool:=decide (s.Clauses.length≤5)&&s.Clauses.all okC&&inR s.Loan 0 9999
theorem within_eq (a b c:Int):shares_within a b c=some (inR a b c):=by
 unfold shares_within shares_within_j1 inR
 by_cases h:b≤a<;>simp [h]
theorem isCents_eq (a:Int):shares_isCents a=some (inR a 0 9999):=by simp [shares_isCents,within_eq]
theorem Within_eq (a b c:Int):ref01_Within a b c=some (inR a b c):=by
 unfold ref01_Within ref01_Within_j1 inR
 by_cases h:b≤a<;>simp [h]
theorem rwithin_eq (a b c:Int):ref09_within a b c=some (inR a b c):=by simp [ref09_within,Within_eq]
theorem IsCents_eq (a:Int):ref09_IsCents a=some (inR a 0 9999):=by simp [ref09_IsCents,rwithin_eq]
theorem Check_c1_eq (c:Clause):shares_Check_c1 c=some (!okC c):=by
 unfold shares_Check_c1 shares_Check_c1_j1 okC
 simp only [within_eq,isCents_eq,Option.bind_some]
 cases inR c.Kind 1 5<;>cases inR c.Cents 0 9999<;>cases inR c.Part 0 100<;>cases inR c.More 0 100<;>rfl
theorem containsC {n:Nat} (f:Clause→Option Bool) (bad:Clause→Bool) (xs:List Clause) (hf:∀x,f x=some (bad x)) (hl:xs.length<1048576) (hn:xs.length<n) :
  slices_ContainsFunc_apiClause n (fun x (_:Unit)=>(f x).map fun y=>(y,())) xs ()=some (xs.any bad,()):=by
 have key:∀(l:List Clause) (i m:Nat) (s:Unit),i≤xs.length→xs.drop i=l→l.length<m→(slices_IndexFunc_apiClause_l1 xs (fun x (_:Unit)=>(f x).map fun y=>(y,())) m (i:Int) s).map (fun r=>decide (r.1≥0))=some (l.any bad):=by
  intro l i m s h1 h2 h3
  refine loopL (fun m i s=>(slices_IndexFunc_apiClause_l1 xs (fun x (_:Unit)=>(f x).map fun y=>(y,())) m i s).map (fun r=>decide (r.1≥0))) xs (fun l _=>some (l.any bad)) hl (fun m s=>?_) (fun m i x l s hx hi _ _ hrec=>?_) l i m s h1 h2 h3
  ·simp [slices_IndexFunc_apiClause_l1,slices_IndexFunc_apiClause_l1_b,slices_IndexFunc_apiClause_j1]
  ·simp only [slices_IndexFunc_apiClause_l1,slices_IndexFunc_apiClause_l1_b]
   rw [if_pos (by simpa using hi),hx,bnd_some]
   simp only [hf x,Option.map_some,bnd_some]
   by_cases hg:bad x=true
   ·rw [if_pos (by simpa using hg)]
    simp [hg]
   ·rw [if_neg (by simpa using hg)]
    have:=hrec ()
    rw [this]
    simp [hg]
 have h:=key xs 0 n () (by omega) rfl hn
 unfold slices_ContainsFunc_apiClause slices_IndexFunc_apiClause
 change Option.map _ (slices_IndexFunc_apiClause_l1 xs _ n 0 ())=_ at h
 cases hx:slices_IndexFunc_apiClause_l1 xs (fun x (_:Unit)=>(f x).map fun y=>(y,())) n 0 () with
 | none=>rw [hx] at h;cases h
 | some r =>
  rw [hx] at h
  simp only [Option.map_some,Option.some.injEq] at h
  simp only [bnd_some]
  rw [h]
theorem Check_eq {n:Nat} (hn:6≤n) (s:Share):shares_Check n s=some (if okS s then 0 else 90):=by
 unfold shares_Check shares_Check_j1 okS
 by_cases h5:s.Clauses.length≤5
 ·rw [if_neg (by simp;omega)]
  rw [containsC shares_Check_c1 (fun c=>!okC c) s.Clauses Check_c1_eq (by omega) (by omega)]
  simp only [Option.bind_some,isCents_eq]
  have e:s.Clauses.any (fun c=>!okC c)=!s.Clauses.all okC:=by rw [List.not_all_eq_any_not]
  rw [e]
  cases s.Clauses.all okC<;>cases inR s.Loan 0 9999<;>simp [h5]
 ·rw [if_pos (by simp;omega)]
  simp [h5]
theorem Check_l1_eq (s:Share) :
  ∀(l pre:List Clause) (m:Nat),s.Clauses=pre++l→s.Clauses.length<1048576→l.length<m→ref09_Check_l1 s m (pre.length:Int)=some (if l.all okC then 0 else 90):=by
 intro l
 induction l with
 | nil =>
  intro pre m he hs hm
  obtain ⟨m,rfl⟩:∃k,m=k+1:=⟨m-1,by omega⟩
  simp [ref09_Check_l1,ref09_Check_l1_b,ref09_Check_j2,he]
 | cons c l ih =>
  intro pre m he hs hm
  simp at hm
  have hl:s.Clauses.length=pre.length+l.length+1:=by simp [he];omega
  obtain ⟨m,rfl⟩:∃k,m=k+1:=⟨m-1,by omega⟩
  have h1:=ih (pre++[c]) m (by simp [he]) hs (by omega)
  have h1:ref09_Check_l1 s m ((pre.length:Int)+1)=some (if l.all okC then 0 else 90):=by simpa using h1
  simp only [ref09_Check_l1,ref09_Check_l1_b]
  rw [if_pos (by simp;omega),show idx s.Clauses (pre.length:Int)=some c by rw [he,idx_mid]]
  simp only [Option.bind_some,rwithin_eq,IsCents_eq,ref09_Check_j3,h1,okC,List.all_cons,w64_id (show -9223372036854775808≤(pre.length:Int)+1 by omega) (show (pre.length:Int)+1<9223372036854775808 by omega)]
  rcases Bool.eq_false_or_eq_true (inR c.Kind 1 5) with q1 | q1<;>rcases Bool.eq_false_or_eq_true (inR c.Cents 0 9999) with q2 | q2 <;>
   rcases Bool.eq_false_or_eq_true (inR c.Part 0 100) with q3 | q3<;>rcases Bool.eq_false_or_eq_true (inR c.More 0 100) with q4 | q4<;>simp [q1,q2,q3,q4]
theorem rCheck_eq {n:Nat} (hn:6≤n) (s:Share):ref09_Check n s=some (if okS s then 0 else 90):=by
 unfold ref09_Check ref09_Check_j1 okS
 by_cases h5:s.Clauses.length≤5
 ·rw [if_neg (by simp;omega)]
  have h1:=Check_l1_eq s s.Clauses [] n rfl (by omega) (by omega)
  have h1:ref09_Check_l1 s n 0=some (if s.Clauses.all okC then 0 else 90):=h1
  simp only [IsCents_eq,Option.bind_some,h1]
  cases s.Clauses.all okC<;>cases inR s.Loan 0 9999<;>simp [h5]
 ·rw [if_pos (by simp;omega)]
  simp [h5]
theorem ask_eq {n:Nat} (hn:6≤n) (s:Share) (b:Bool):shares_ask n s b=some (if okS s then (if b then 0 else 1) else 90):=by
 unfold shares_ask
 rw [Check_eq hn]
 cases okS s<;>cases b<;>rfl
def given (c:Clause) (rest got owed:Int):Int :=
 if c.Kind=1 then min rest c.Cents
 else if c.Kind=2 then min (min rest c.Cents) owed
 else if c.Kind=3 then c.Part*rest / 500*5
 else if c.Kind=4 then (c.Part*min rest c.Cents+c.More*(rest-min rest c.Cents)) / 500*5
 else min rest (max 0 (c.Cents-got))
def stepW (c:Clause) (w:Week_):Week_ :=
 let n:=given c w.rest w.Split.Owner w.owed
 if c.Kind=1 then ⟨⟨w.Split.Operator+n,w.Split.Owner,w.Split.Repaid⟩,w.rest-n,w.owed⟩
 else if c.Kind=2 then ⟨⟨w.Split.Operator+n,w.Split.Owner,w.Split.Repaid+n⟩,w.rest-n,w.owed-n⟩
 else ⟨⟨w.Split.Operator,w.Split.Owner+n,w.Split.Repaid⟩,w.rest-n,w.owed⟩
def runW:List Clause→Week_→Week_×List Int
 | [],w=>(w,[])
 | c::l,w=>((runW l (stepW c w)).1,given c w.rest w.Split.Owner w.owed::(runW l (stepW c w)).2)
def finW (w:Week_):Week_:=⟨⟨w.Split.Operator+w.rest,w.Split.Owner,w.Split.Repaid⟩,0,w.owed⟩
def startW (owed t gift:Int):Week_:=⟨⟨0,min gift t,0⟩,t-min gift t,owed⟩
def setl (l:List Clause) (owed t gift:Int):Week_×List Int:=(finW (runW l (startW owed t gift)).1,(runW l (startW owed t gift)).2)
structure WB (t loan:Int) (w:Week_):Prop where
 op:0≤w.Split.Operator
 ow:0≤w.Split.Owner
 rp:0≤w.Split.Repaid
 rest:0≤w.rest
 owed:0≤w.owed
 sum:w.Split.Operator+w.Split.Owner+w.rest=t
 rep:w.Split.Repaid≤w.Split.Operator
 loan:w.Split.Repaid+w.owed=loan
theorem okC_iff (c:Clause):okC c=true↔(1≤c.Kind∧c.Kind≤5)∧(0≤c.Cents∧c.Cents≤9999)∧(0≤c.Part∧c.Part≤100)∧(0≤c.More∧c.More≤100):=by
 simp [okC,inR_iff,and_assoc]
theorem part_le {p x:Int} (h0:0≤p) (h1:p≤100) (hx:0≤x):0≤p*x∧p*x≤100*x :=
 ⟨Int.mul_nonneg h0 hx,Int.mul_le_mul_of_nonneg_right h1 hx⟩
theorem given_le {c:Clause} {rest got owed:Int} (hc:okC c=true) (hr:0≤rest) (ho:0≤owed):0≤given c rest got owed∧given c rest got owed≤rest∧(c.Kind=2→given c rest got owed≤owed):=by
 obtain ⟨hk,hce,hp,hm⟩:=(okC_iff c).1 hc
 unfold given
 by_cases h1:c.Kind=1
 ·rw [if_pos h1];omega
 rw [if_neg h1]
 by_cases h2:c.Kind=2
 ·rw [if_pos h2];omega
 rw [if_neg h2]
 by_cases h3:c.Kind=3
 ·rw [if_pos h3]
  have:=part_le hp.1 hp.2 hr
  omega
 rw [if_neg h3]
 by_cases h4:c.Kind=4
 ·rw [if_pos h4]
  have:=part_le hp.1 hp.2 (show 0≤min rest c.Cents by omega)
  have:=part_le hm.1 hm.2 (show 0≤rest-min rest c.Cents by omega)
  omega
 rw [if_neg h4]
 omega
theorem stepW_wb {t loan:Int} {c:Clause} {w:Week_} (hc:okC c=true) (hw:WB t loan w):WB t loan (stepW c w):=by
 obtain ⟨h1,h2,h3,h4,h5,h6,h7,h8⟩:=hw
 obtain ⟨g1,g2,g3⟩:=given_le (got:=w.Split.Owner) hc h4 h5
 unfold stepW
 dsimp only
 generalize given c w.rest w.Split.Owner w.owed=n at g1 g2 g3
 by_cases k1:c.Kind=1
 ·rw [if_pos k1];constructor<;>dsimp only<;>omega
 rw [if_neg k1]
 by_cases k2:c.Kind=2
 ·rw [if_pos k2];have:=g3 k2;constructor<;>dsimp only<;>omega
 rw [if_neg k2]
 constructor<;>dsimp only<;>omega
theorem runW_wb {t loan:Int}:∀{l:List Clause} {w:Week_},(∀c∈l,okC c=true)→WB t loan w→WB t loan (runW l w).1
 | [],_,_,hw=>hw
 | c::l,w,hc,hw=>runW_wb (l:=l) (fun d hd=>hc d (List.mem_cons_of_mem _ hd)) (stepW_wb (hc c (List.mem_cons_self ..)) hw)
theorem startW_wb {owed t gift:Int} (ho:0≤owed) (ht:0≤t) (hg:0≤gift):WB t owed (startW owed t gift):=by
 unfold startW
 constructor<;>dsimp only<;>omega
theorem finW_wb {t loan:Int} {w:Week_} (hw:WB t loan w):WB t loan (finW w):=by
 obtain ⟨h1,h2,h3,h4,h5,h6,h7,h8⟩:=hw
 unfold finW
 constructor<;>dsimp only<;>omega
theorem setl_wb {l:List Clause} {owed t gift:Int} (hl:∀c∈l,okC c=true) (ho:0≤owed) (ht:0≤t) (hg:0≤gift):WB t owed (setl l owed t gift).1 :=
 finW_wb (runW_wb hl (startW_wb ho ht hg))
theorem five_eq {x:Int} (h0:0≤x) (h1:x≤999900):shares_five x=some (x / 500*5):=by
 unfold shares_five
 rw [quo_nn h0 (by omega) (by omega)]
 simp only [Option.bind_some]
 rw [w64_id (by omega) (by omega)]
theorem settle_l1_eq {t loan:Int} (ht:t≤9999) (hlo:loan≤9999) :
  ∀(l pre:List Clause) (m:Nat) (gave:List Int) (w:Week_),(∀c∈l,okC c=true)→WB t loan w→(pre++l).length<1000→l.length<m→gave.length=pre.length →
   shares_settle_l1 (pre++l) m gave (pre.length:Int) w.Split.Operator w.Split.Owner w.Split.Repaid w.rest w.owed=some (finW (runW l w).1,gave++(runW l w).2):=by
 intro l
 induction l with
 | nil =>
  intro pre m gave w hok hw hs hm hg
  obtain ⟨m,rfl⟩:∃k,m=k+1:=⟨m-1,by omega⟩
  obtain ⟨h1,h2,h3,h4,h5,h6,h7,h8⟩:=hw
  simp only [shares_settle_l1,shares_settle_l1_b]
  rw [if_neg (by simp)]
  simp only [shares_settle_j1,shares_week_operator,Option.bind_some,runW,finW,List.append_nil]
  rw [w64_id (by omega) (by omega),Int.sub_self]
  rfl
 | cons c l ih =>
  intro pre m gave w hok hw hs hm hg
  simp at hm hs
  obtain ⟨m,rfl⟩:∃k,m=k+1:=⟨m-1,by omega⟩
  have hc:=hok c (List.mem_cons_self ..)
  have hw':=stepW_wb hc hw
  have h:=ih (pre++[c]) m (gave++[given c w.rest w.Split.Owner w.owed]) (stepW c w) (fun d hd=>hok d (List.mem_cons_of_mem _ hd)) hw' (by simp;omega) (by omega) (by simp [hg])
  obtain ⟨g1,g2,g3⟩:=given_le (got:=w.Split.Owner) hc hw.rest hw.owed
  obtain ⟨hk,hce,hp,hmo⟩:=(okC_iff c).1 hc
  obtain ⟨h1,h2,h3,h4,h5,h6,h7,h8⟩:=hw
  simp only [List.append_assoc,List.singleton_append,List.length_append,List.length_singleton] at h
  simp only [shares_settle_l1,shares_settle_l1_b]
  rw [if_pos (by simp;omega)]
  simp only [idx_mid,Option.bind_some]
  rw [w64_id (by omega) (by omega)]
  have ha:∀x:Int,app gave [x]=some (gave++[x]):=fun x=>app_ok (by simp;omega)
  have hrun:(runW (c::l) w)=((runW l (stepW c w)).1,given c w.rest w.Split.Owner w.owed::(runW l (stepW c w)).2):=rfl
  rw [hrun]
  have hr:w.rest≤9999:=by omega
  generalize hge:given c w.rest w.Split.Owner w.owed=n at g1 g2 g3 h ⊢
  have hst:stepW c w=if c.Kind=1 then ⟨⟨w.Split.Operator+n,w.Split.Owner,w.Split.Repaid⟩,w.rest-n,w.owed⟩
 else if c.Kind=2 then ⟨⟨w.Split.Operator+n,w.Split.Owner,w.Split.Repaid+n⟩,w.rest-n,w.owed-n⟩
 else ⟨⟨w.Split.Operator,w.Split.Owner+n,w.Split.Repaid⟩,w.rest-n,w.owed⟩:=by unfold stepW;rw [hge]
  have c1:((pre.length+1:Nat):Int)=(pre.length:Int)+1:=by omega
  rw [c1] at h
  simp only at h ⊢
  rw [←h]
  rw [hst]
  unfold given at hge
  by_cases k1:c.Kind=1
  ·rw [if_pos (by simp [k1]),if_pos k1]
   rw [if_pos k1] at hge
   simp only [shares_rules_c1,shares_week_operator,Option.bind_some,hge,ha]
   rw [w64_id (by omega) (by omega),w64_id (by omega) (by omega)]
  rw [if_neg (by simp [k1]),if_neg k1]
  rw [if_neg k1] at hge
  by_cases k2:c.Kind=2
  ·rw [if_pos (by simp [k2]),if_pos k2]
   rw [if_pos k2] at hge
   have g3:=g3 k2
   simp only [shares_week_repay,shares_week_operator,Option.bind_some,hge,ha]
   rw [w64_id (x:=w.Split.Operator+n) (by omega) (by omega),w64_id (x:=w.rest-n) (by omega) (by omega),w64_id (x:=w.Split.Repaid+n) (by omega) (by omega),w64_id (x:=w.owed-n) (by omega) (by omega)]
  rw [if_neg (by simp [k2]),if_neg k2]
  rw [if_neg k2] at hge
  by_cases k3:c.Kind=3
  ·rw [if_pos (by simp [k3])]
   rw [if_pos k3] at hge
   have:=part_le hp.1 hp.2 h4
   simp only [shares_rules_c2,shares_week_owner]
   rw [w64_id (by omega) (by omega),five_eq (by omega) (by omega)]
   simp only [Option.bind_some,hge,ha]
   rw [w64_id (by omega) (by omega),w64_id (by omega) (by omega)]
  rw [if_neg (by simp [k3])]
  rw [if_neg k3] at hge
  by_cases k4:c.Kind=4
  ·rw [if_pos (by simp [k4])]
   rw [if_pos k4] at hge
   have:=part_le hp.1 hp.2 (show 0≤min w.rest c.Cents by omega)
   have:=part_le hmo.1 hmo.2 (show 0≤w.rest-min w.rest c.Cents by omega)
   simp only [shares_rules_c3,shares_week_owner]
   rw [w64_id (x:=w.rest-min w.rest c.Cents) (by omega) (by omega),w64_id (x:=c.Part*min w.rest c.Cents) (by omega) (by omega),w64_id (x:=c.More*(w.rest-min w.rest c.Cents)) (by omega) (by omega),w64_id (by omega) (by omega),five_eq (by omega) (by omega)]
   simp only [Option.bind_some,hge,ha]
   rw [w64_id (by omega) (by omega),w64_id (by omega) (by omega)]
  rw [if_neg (by simp [k4])]
  rw [if_neg k4] at hge
  ·rw [if_pos (by simp;omega)]
   simp only [shares_rules_c4,shares_week_owner]
   rw [w64_id (x:=c.Cents-w.Split.Owner) (by omega) (by omega)]
   simp only [Option.bind_some,hge,ha]
   rw [w64_id (by omega) (by omega),w64_id (by omega) (by omega)]
theorem settle_eq {n:Nat} {l:List Clause} {owed t gift:Int} (hl:∀c∈l,okC c=true) (hs:l.length<1000) (hn:l.length<n) (ho:0≤owed∧owed≤9999) (ht:0≤t∧t≤9999) (hg:0≤gift) :
  shares_settle n l owed t gift=some (setl l owed t gift):=by
 have h:=settle_l1_eq (t:=t) (loan:=owed) ht.2 ho.2 l [] n [] (startW owed t gift) hl (startW_wb ho.1 ht.1 hg) (by simpa using hs) hn rfl
 unfold shares_settle shares_week_owner
 simp only [Option.bind_some]
 rw [Int.zero_add,w64_id (by omega) (by omega),w64_id (by omega) (by omega)]
 exact h
theorem owners_eq {n:Nat} {l:List Clause} {owed t:Int} (hl:∀c∈l,okC c=true) (hs:l.length<1000) (hn:l.length<n) (ho:0≤owed∧owed≤9999) (ht:0≤t∧t≤9999) :
  shares_owners n l owed t=some (setl l owed t 0).1.Split.Owner:=by
 unfold shares_owners
 rw [settle_eq hl hs hn ho ht (by omega)]
 rfl
theorem okS_iff (s:Share):okS s=true↔s.Clauses.length≤5∧(∀c∈s.Clauses,okC c=true)∧(0≤s.Loan∧s.Loan≤9999):=by
 simp [okS,inR_iff,and_assoc]
theorem Gift_eq {n:Nat} (hn:10≤n) (s:Share) (t gift:Int) :
  shares_Gift n s t gift=some (if okS s then (if inR t 0 9999&&inR gift 0 9999 then ((setl s.Clauses s.Loan t gift).1.Split,0) else (⟨0,0,0⟩,1)) else (⟨0,0,0⟩,90)):=by
 have h:shares_Gift n s t gift=shares_Gift_j1 n s t gift (if okS s then (if inR t 0 9999&&inR gift 0 9999 then 0 else 1) else 90):=by
  unfold shares_Gift
  rw [isCents_eq,isCents_eq]
  simp only [Option.bind_some]
  rw [ask_eq (by omega),ask_eq (by omega)]
  cases inR t 0 9999<;>cases inR gift 0 9999<;>simp
 rw [h]
 unfold shares_Gift_j1
 by_cases hs:okS s=true
 ·obtain ⟨h5,hok,hlo⟩:=(okS_iff _).1 hs
  by_cases ht:(inR t 0 9999&&inR gift 0 9999)=true
  ·have ht2:=ht
   simp only [Bool.and_eq_true,inR_iff] at ht2
   simp only [hs,ht,if_true,bne_self_eq_false,Bool.false_eq_true,if_false]
   rw [settle_eq hok (by omega) (by omega) hlo ht2.1 (by omega)]
   rfl
  ·simp [hs,ht]
 ·simp [hs]
theorem Week_eq {n:Nat} (hn:10≤n) (s:Share) (t:Int) :
  shares_Week n s t=some (if okS s then (if inR t 0 9999 then ((setl s.Clauses s.Loan t 0).1.Split,0) else (⟨0,0,0⟩,1)) else (⟨0,0,0⟩,90)):=by
 unfold shares_Week
 rw [Gift_eq hn]
 simp only [Option.bind_some,show inR 0 0 9999=true from rfl,Bool.and_true]
def ownT (s:Share) (t:Int):Int:=(setl s.Clauses s.Loan t 0).1.Split.Owner
def isRound (c:Clause):Bool:=c.Kind==3 || c.Kind==4
def rounds:List Clause→Nat
 | []=>0
 | c::l=>(if isRound c then 1 else 0)+rounds l
def RA (w v:Week_):Prop:=w.rest≤v.rest∧w.Split.Owner≤v.Split.Owner∧v.owed≤w.owed
def RB (w v:Week_):Prop :=
 (w.Split.Owner≤v.Split.Owner∧w.Split.Owner+w.rest≤v.Split.Owner+v.rest∧v.owed≤w.owed)∨w.Split.Owner+w.rest≤v.Split.Owner
theorem RA.toB {w v:Week_} (h:RA w v):RB w v:=.inl ⟨h.2.1,by have:=h.1;have:=h.2.1;omega,h.2.2⟩
theorem mul_le_l {a x y:Int} (ha:0≤a) (h:x≤y):a*x≤a*y:=Int.mul_le_mul_of_nonneg_left h ha
theorem step_round {c:Clause} {w v:Week_} {t t' loan:Int} (hc:okC c=true) (hw:WB t loan w) (hv:WB t' loan v) (h:RA w v):RB (stepW c w) (stepW c v):=by
 obtain ⟨h1,h2,h3,h4,h5,h6,h7,h8⟩:=hw
 obtain ⟨i1,i2,i3,i4,i5,i6,i7,i8⟩:=hv
 obtain ⟨a1,a2,a3⟩:=h
 obtain ⟨hk,hce,hp,hmo⟩:=(okC_iff c).1 hc
 refine .inl ?_
 unfold stepW given
 by_cases k1:c.Kind=1
 ·simp only [k1,if_true];omega
 by_cases k2:c.Kind=2
 ·have e:¬(2:Int)=1:=by decide
  simp only [k2,if_true,e,if_false]
  omega
 simp only [k1,k2,if_false]
 by_cases k3:c.Kind=3
 ·simp only [k3,if_true]
  have:=mul_le_l hp.1 a1
  omega
 by_cases k4:c.Kind=4
 ·have e:¬(4:Int)=3:=by decide
  simp only [k4,if_true,e,if_false]
  have:=mul_le_l hp.1 (show min w.rest c.Cents≤min v.rest c.Cents by omega)
  have:=mul_le_l hmo.1 (show w.rest-min w.rest c.Cents≤v.rest-min v.rest c.Cents by omega)
  omega
 simp only [k3,k4,if_false]
 omega
theorem step_RA {c:Clause} {w v:Week_} {t t' loan:Int} (hc:okC c=true) (hr:isRound c=false) (hw:WB t loan w) (hv:WB t' loan v) (h:RA w v):RA (stepW c w) (stepW c v):=by
 obtain ⟨h1,h2,h3,h4,h5,h6,h7,h8⟩:=hw
 obtain ⟨i1,i2,i3,i4,i5,i6,i7,i8⟩:=hv
 obtain ⟨a1,a2,a3⟩:=h
 obtain ⟨hk,hce,hp,hmo⟩:=(okC_iff c).1 hc
 simp [isRound] at hr
 unfold RA stepW given
 by_cases k1:c.Kind=1
 ·simp only [k1,if_true];omega
 by_cases k2:c.Kind=2
 ·have e:¬(2:Int)=1:=by decide
  simp only [k2,if_true,e,if_false]
  omega
 simp only [k1,k2,hr.1,hr.2,if_false]
 omega
theorem step_RB {c:Clause} {w v:Week_} {t t' loan:Int} (hc:okC c=true) (hr:isRound c=false) (hw:WB t loan w) (hv:WB t' loan v) (h:RB w v):RB (stepW c w) (stepW c v):=by
 obtain ⟨h1,h2,h3,h4,h5,h6,h7,h8⟩:=hw
 obtain ⟨i1,i2,i3,i4,i5,i6,i7,i8⟩:=hv
 obtain ⟨hk,hce,hp,hmo⟩:=(okC_iff c).1 hc
 simp [isRound] at hr
 unfold RB stepW given at *
 by_cases k1:c.Kind=1
 ·simp only [k1,if_true];omega
 by_cases k2:c.Kind=2
 ·have e:¬(2:Int)=1:=by decide
  simp only [k2,if_true,e,if_false]
  omega
 simp only [k1,k2,hr.1,hr.2,if_false]
 omega
theorem run_RB {t t' loan:Int}:∀(l:List Clause) (w v:Week_),(∀c∈l,okC c=true)→rounds l=0→WB t loan w→WB t' loan v→RB w v→RB (runW l w).1 (runW l v).1
 | [],_,_,_,_,_,_,h=>h
 | c::l,w,v,hok,hr,hw,hv,h=>by
  have hc:=hok c (List.mem_cons_self ..)
  have hr1:isRound c=false:=by
   cases hi:isRound c with
   | false=>rfl
   | true=>rw [rounds,hi,if_pos rfl] at hr;omega
  rw [rounds,hr1] at hr
  exact run_RB l (stepW c w) (stepW c v) (fun d hd=>hok d (List.mem_cons_of_mem _ hd)) (by simpa using hr) (stepW_wb hc hw) (stepW_wb hc hv) (step_RB hc hr1 hw hv h)
theorem run_RA {t t' loan:Int}:∀(l:List Clause) (w v:Week_),(∀c∈l,okC c=true)→rounds l≤1→WB t loan w→WB t' loan v→RA w v→RB (runW l w).1 (runW l v).1
 | [],_,_,_,_,_,_,h=>h.toB
 | c::l,w,v,hok,hr,hw,hv,h=>by
  have hc:=hok c (List.mem_cons_self ..)
  have hok':∀d∈l,okC d=true:=fun d hd=>hok d (List.mem_cons_of_mem _ hd)
  cases hi:isRound c with
  | true =>
   rw [rounds,hi] at hr
   simp at hr
   exact run_RB l (stepW c w) (stepW c v) hok' (by omega) (stepW_wb hc hw) (stepW_wb hc hv) (step_round hc hw hv h)
  | false =>
   rw [rounds,hi] at hr
   simp at hr
   exact run_RA l (stepW c w) (stepW c v) hok' hr (stepW_wb hc hw) (stepW_wb hc hv) (step_RA hc hi hw hv h)
theorem greater {s:Share} {t t':Int} (hs:okS s=true) (ht:0≤t) (h:t≤t') (hr:rounds s.Clauses≤1):ownT s t≤ownT s t':=by
 obtain ⟨h5,hok,hlo⟩:=(okS_iff _).1 hs
 have w1:=startW_wb (gift:=0) hlo.1 ht (by omega)
 have w2:=startW_wb (gift:=0) hlo.1 (show 0≤t' by omega) (by omega)
 have hb:=run_RA s.Clauses (startW s.Loan t 0) (startW s.Loan t' 0) hok hr w1 w2 (by unfold RA startW;dsimp only;omega)
 have z1:=runW_wb hok w1
 have z2:=runW_wb hok w2
 obtain ⟨h1,h2,h3,h4,h5,h6,h7,h8⟩:=z1
 obtain ⟨i1,i2,i3,i4,i5,i6,i7,i8⟩:=z2
 unfold RB at hb
 change (finW (runW s.Clauses (startW s.Loan t 0)).1).Split.Owner≤(finW (runW s.Clauses (startW s.Loan t' 0)).1).Split.Owner
 unfold finW
 dsimp only
 omega
end Sh
theorem halved_eq:top_halved 1000000=some true:=by
 unfold top_halved
 rw [Sh.Week_eq (by omega)]
 decide
theorem even_eq (s:Share):top_even 1000000 s=some false∨(top_even 1000000 s=some true∧Sh.okS s=true∧Sh.rounds s.Clauses≤1):=by
 unfold top_even
 by_cases h0:(s.Clauses.length:Int)>40
 ·rw [if_pos (by simpa using h0)]
  exact .inl rfl
 rw [if_neg (by simpa using h0),Sh.rCheck_eq (by omega),bnd_some]
 by_cases hs:Sh.okS s=true
 ·rw [if_pos hs]
  show top_even_l1 s 1000000 0 0=_∨(top_even_l1 s 1000000 0 0=_∧_)
  have key:=loopI (F:=fun m i (v:Int)=>top_even_l1 s m v i) (xs:=s.Clauses) (spec:=fun l v=>some (decide (v+(Sh.rounds l:Int)≤1))) (I:=fun l v=>0≤v∧v+l.length≤1000) (by omega)
   (fun m v _=>by
    simp only [top_even_l1,top_even_l1_b,top_even_j2]
    rw [if_neg (by simp)]
    simp [Sh.rounds])
   (fun m i c l v hI hx hi _ _ hrec=>by
    simp only [List.length_cons] at hI
    simp only [top_even_l1,top_even_l1_b]
    rw [if_pos (by simpa using hi),hx,bnd_some]
    have fin:∀q:Bool,q=Sh.isRound c→top_even_j4 (top_even_l1 s m) v (i:Int) q=some (decide (v+(Sh.rounds (c::l):Int)≤1)):=fun q hq=>by
     unfold top_even_j4 top_even_j3
     cases q with
     | true =>
      rw [if_pos rfl,w64_id (x:=v+1) (by omega) (by omega),hrec (v+1) ⟨by omega,by omega⟩]
      simp only [Sh.rounds,←hq,if_true]
      congr 2
      simp
      omega
     | false =>
      rw [if_neg (by simp),hrec v ⟨by omega,by omega⟩]
      simp only [Sh.rounds,←hq]
      simp
    by_cases h3:c.Kind=3
    ·rw [if_pos (by simpa using h3)]
     exact fin true (by simp [Sh.isRound,h3])
    ·rw [if_neg (by simpa using h3)]
     exact fin _ (by simp [Sh.isRound,h3]))
   s.Clauses 0 1000000 0 (by omega) rfl (by omega) ⟨by omega,by omega⟩
  rw [show top_even_l1 s 1000000 0 0=_ from key]
  by_cases hr:Sh.rounds s.Clauses≤1
  ·exact .inr ⟨by simp;omega,hs,hr⟩
  ·exact .inl (by simp;omega)
 ·rw [if_neg hs]
  exact .inl rfl
theorem wsum_12 {w:Wheel} (h:OkW w) {l:List Int} (hl:∀k,0≤l.getD k 0∧l.getD k 0≤12):∀(d k:Nat),k+d≤w.Coins.length→wsum w l d k≤1200*d
 | 0,k,_=>by simp [wsum]
 | d+1,k,hk=>by
  have ih:=wsum_12 h hl d (k+1) (by omega)
  have hco:=coin_range h (a:=(k:Int)) (by omega) (by omega)
  have hx:=hl k
  have h1:coin w k*l.getD k 0≤100*l.getD k 0:=Int.mul_le_mul_of_nonneg_right hco.2 hx.1
  simp only [wsum]
  omega
theorem cash_small {b:Box} (N:Near b):0≤(cashS b).1∧(cashS b).1≤3600:=by
 have F:=N.ok.far
 have h3:=N.k3
 have h1:=wsum_12 F.h F.f b.Wheel.Coins.length 0 (by omega)
 have h2:=wsum_mono F.h (l:=b.Marked) (l':=b.Found) b.Wheel.Coins.length 0 (by omega) fun j=>by
  rcases Nat.lt_or_ge j b.Found.length with h | h
  ·exact (N.ok.mkd j h).2
  ·rw [List.getD_eq_getElem?_getD,List.getD_eq_getElem?_getD,List.getElem?_eq_none h,List.getElem?_eq_none (by rw [N.ok.ml];exact h)]
   exact Int.le_refl _
 have h4:=purse_nn F.h (show Small b.Marked from fun k=>by have:=F.m k;omega)
 show 0≤purseW b.Wheel b.Found-purseW b.Wheel b.Marked∧purseW b.Wheel b.Found-purseW b.Wheel b.Marked≤3600
 have h5:purseW b.Wheel b.Found≤1200*b.Wheel.Coins.length:=h1
 have h6:purseW b.Wheel b.Marked≤purseW b.Wheel b.Found:=h2
 omega
theorem miss_small {b:Box} (N:Near b) {r:Int×Int} (h:MissR b r):0≤r.1∧r.1≤3600:=by
 have h3:=N.k3
 rcases h with ⟨_,⟨P,h1,_,he⟩,_⟩ | ⟨rfl,_⟩
 ·rw [←he]
  have h2:=(purse_nn N.ok.far.h (small_of h1)).1
  have h4:purseW b.Wheel P≤1200*b.Wheel.Coins.length:=wsum_12 N.ok.far.h (fun k=>by have:=h1.small k;omega) b.Wheel.Coins.length 0 (by omega)
  omega
 ·simp
theorem sBox_eq {b:Box} (N:Near b) {s:Share} (hs:Sh.okS s=true):shares_Box 1000000 s b=some ((Sh.setl s.Clauses s.Loan (cashS b).1 0).1.Split,(if (mOf 1000000 b).2=0 then Sh.ownT s ((cashS b).1+(mOf 1000000 b).1)-Sh.ownT s (cashS b).1 else 0),0):=by
 obtain ⟨s1,s2,s3⟩:=(Sh.okS_iff s).1 hs
 have hc:=cash_small N
 obtain ⟨g,hm⟩:=mOf_eq N (n:=1000000) (by omega)
 have hr:=miss_small N hm
 unfold shares_Box
 rw [Sh.Check_eq (by omega),if_pos hs,bnd_some,if_neg (by simp),Cash_eq N.ok (by omega),bnd_some,if_neg (by simp [cashS]),Sh.settle_eq s2 (by omega) (by omega) s3 ⟨by omega,by omega⟩ (by omega),bnd_some,g,bnd_some]
 unfold shares_Box_j1
 by_cases e:(mOf 1000000 b).2=0
 ·rw [if_pos (by simpa using e),if_pos e,w64_id (x:=(cashS b).1+_) (by omega) (by omega),Sh.owners_eq s2 (by omega) (by omega) s3 ⟨by omega,by omega⟩,bnd_some]
  have b1:=Sh.setl_wb s2 s3.1 (show 0≤(cashS b).1 by omega) (Int.le_refl 0)
  have b2:=Sh.setl_wb s2 s3.1 (show 0≤(cashS b).1+(mOf 1000000 b).1 by omega) (Int.le_refl 0)
  have c1:=b1.op
  have c2:=b1.ow
  have c3:=b1.rest
  have c4:=b1.sum
  have d1:=b2.op
  have d2:=b2.ow
  have d3:=b2.rest
  have d4:=b2.sum
  rw [w64_id (by omega) (by omega)]
  rfl
 ·rw [if_neg (by simpa using e),if_neg e]
theorem law_TopOwner (s:Share) (b:Box):top_TopOwner 1000000 s b=some true:=by
 have hj:top_TopOwner_j1 1000000 s b true=some true:=by
  unfold top_TopOwner_j1
  rw [if_pos rfl,halved_eq]
  rfl
 unfold top_TopOwner
 rcases even_eq s with h | ⟨h,hs,hr⟩
 ·rw [h,bnd_some,if_pos (by rfl),hj]
 rw [h,bnd_some,if_neg (by simp)]
 rcases Far_eq b (n:=1000000) (by omega) with hf | ⟨hf,hL,hN⟩
 ·rw [hf,bnd_some,if_pos rfl,hj]
 rw [hf,bnd_some,if_neg (by simp),bcond b _ hL (by omega),bnd_some]
 by_cases hb:BoxOk b
 ·have N:=hN hb
  have hc:=cash_small N
  obtain ⟨g,hm⟩:=mOf_eq N (n:=1000000) (by omega)
  have hmr:=miss_small N hm
  obtain ⟨s1,s2,s3⟩:=(Sh.okS_iff s).1 hs
  have b1:=Sh.setl_wb s2 s3.1 (show 0≤(cashS b).1 by omega) (Int.le_refl 0)
  have c1:=b1.op
  have c2:=b1.ow
  have c3:(Sh.setl s.Clauses s.Loan (cashS b).1 0).1.rest=0:=rfl
  have c4:=b1.sum
  have hj2:∀v:Int,top_TopOwner_j2 1000000 s ((Sh.setl s.Clauses s.Loan (cashS b).1 0).1.Split,v,0) (cashS b) false=some true:=fun v=>by
   unfold top_TopOwner_j2
   rw [if_neg (by simp),Sh.Week_eq (by omega),if_pos hs,if_pos (inR_iff.2 ⟨by omega,by omega⟩),bnd_some,if_pos (by simp),if_pos (by simp),if_pos (by simpa using c1),if_pos (by simpa using c2),w64_id (by simp only;omega) (by simp only;omega),if_pos (by simp;omega),halved_eq]
   rfl
  rw [boxOk_iff.2 hb]
  show top_TopOwner_j1 1000000 s b false=_
  unfold top_TopOwner_j1
  rw [if_neg (by simp),Copy5_eq hL,bnd_some,sBox_eq N hs,bnd_some,bnd_some,Cash_eq hb (by omega),bnd_some,bnd_some,g,bnd_some,if_neg (by simp),if_neg (by simp [cashS])]
  by_cases e:(mOf 1000000 b).2=0
  ·have hge:=Sh.greater hs hc.1 (show (cashS b).1≤(cashS b).1+(mOf 1000000 b).1 by omega) hr
   rw [if_neg (by simp [e]),if_pos e,if_neg (by simp;omega)]
   by_cases hz:(mOf 1000000 b).1=0
   ·rw [if_pos (by simpa using hz),hz,Int.add_zero,Int.sub_self]
    exact hj2 0
   ·rw [if_neg (by simpa using hz)]
    exact hj2 _
  ·have e3:(mOf 1000000 b).2=3:=by
    rcases hm with ⟨h,_⟩ | ⟨h,_⟩
    ·exact absurd h e
    ·rw [h]
   rw [if_pos (by simp [e3]),if_neg (by simp [e3]),if_neg e,if_neg (by simp)]
   exact hj2 0
 ·rw [boxOk_not hb]
  exact hj
end Go.Law
