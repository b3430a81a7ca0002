/-
  Plain laws.
  Conditions: none.
-/
import Derived.Test.YtclaalcoefcljaaMd
import Derived.Test.YtclaalcoefcljaaPlA
set_option linter.all false
namespace Go.Law
open Go Go.AM
theorem zud {α S R:Type} (F:Nat->Int->S->Option R) (xs:List α) (spec:List α->S->Option R) (hl:xs.length<1048576) (h0:∀m s,F (m+1) (xs.length:Int) s=spec [] s)
  (hs:∀m (i:Nat) x l s,idx xs (i:Int)=some x->(i:Int)<(xs.length:Int)->i<1048576->xs.drop (i+1)=l->(∀s',F m (w64 ((i:Int)+1)) s'=spec l s')->F (m+1) (i:Int) s=spec (x::l) s) :
  ∀(l:List α) (i m:Nat) (s:S),i<=xs.length->xs.drop i=l->l.length<m->F m (i:Int) s=spec l s:=by
 intro l
 induction l with
 | nil =>
  intro i m s hi hd hm
  obtain ⟨m,rfl⟩:∃k,m=k+1:=⟨m-1,by omega⟩
  have:i=xs.length:=by have:=List.drop_eq_nil_iff.1 hd;omega
  subst this
  exact h0 m s
 | cons x l ih =>
  intro i m s hi hd hm
  obtain ⟨m,rfl⟩:∃k,m=k+1:=⟨m-1,by omega⟩
  simp only [List.length_cons] at hm
  have hlt:i<xs.length:=by
   rcases Nat.lt_or_ge i xs.length with h | h
   ·exact h
   ·rw [List.drop_eq_nil_of_le h] at hd;cases hd
  rw [List.drop_eq_getElem_cons hlt] at hd
  injection hd with h1 h2
  refine hs m i x l s (by rw [zhU hlt,h1]) (by omega) (by omega) h2 fun s'=>?_
  rw [zaW (by omega) (by omega)]
  exact ih (i+1) m s' (by omega) h2 (by omega)
theorem zlO {α S R:Type} {F:Nat->Int->S->Option R} {xs:List α} {spec:List α->S->Option R} (hl:xs.length<1048576) {n:Nat} (hn:xs.length<n) (s:S) (h0:∀m s,F (m+1) (xs.length:Int) s=spec [] s)
  (hs:∀m (i:Nat) x l s,idx xs (i:Int)=some x->(i:Int)<(xs.length:Int)->i<1048576->xs.drop (i+1)=l->(∀s',F m (w64 ((i:Int)+1)) s'=spec l s')->F (m+1) (i:Int) s=spec (x::l) s) :
  F n 0 s=spec xs s:=zud F xs spec hl h0 hs xs 0 n s (by omega) rfl hn
theorem zpj {α S R:Type} (F:Nat->Int->S->Option R) (xs:List α) (spec:List α->S->Option R) (I:List α->S->Prop) (hl:xs.length<1048576) (h0:∀m s,I [] s->F (m+1) (xs.length:Int) s=spec [] s)
  (hs:∀m (i:Nat) x l s,I (x::l) s->idx xs (i:Int)=some x->(i:Int)<(xs.length:Int)->i<1048576->xs.drop (i+1)=l->(∀s',I l s'->F m (w64 ((i:Int)+1)) s'=spec l s')->F (m+1) (i:Int) s=spec (x::l) s) :
  ∀(l:List α) (i m:Nat) (s:S),i<=xs.length->xs.drop i=l->l.length<m->I l s->F m (i:Int) s=spec l s:=by
 intro l
 induction l with
 | nil =>
  intro i m s hi hd hm hI
  obtain ⟨m,rfl⟩:∃k,m=k+1:=⟨m-1,by omega⟩
  have:i=xs.length:=by have:=List.drop_eq_nil_iff.1 hd;omega
  subst this
  exact h0 m s hI
 | cons x l ih =>
  intro i m s hi hd hm hI
  obtain ⟨m,rfl⟩:∃k,m=k+1:=⟨m-1,by omega⟩
  simp only [List.length_cons] at hm
  have hlt:i<xs.length:=by
   rcases Nat.lt_or_ge i xs.length with h | h
   ·exact h
   ·rw [List.drop_eq_nil_of_le h] at hd;cases hd
  rw [List.drop_eq_getElem_cons hlt] at hd
  injection hd with h1 h2
  refine hs m i x l s hI (by rw [zhU hlt,h1]) (by omega) (by omega) h2 fun s' hI'=>?_
  rw [zaW (by omega) (by omega)]
  exact ih (i+1) m s' (by omega) h2 (by omega) hI'
theorem zam {α β:Type} (a:α) (f:α->Option β):Option.bind (some a) f=f a:=rfl
theorem within_eq (a b c:Int):zdF a b c=some (inR a b c):=by
 unfold zdF zfY inR
 by_cases h:b<=a<;>simp [h]
theorem Within_eq (a b c:Int):zd7 a b c=some (inR a b c):=by
 unfold zd7 zdy inR
 by_cases h:b<=a<;>simp [h]
def okB (w:Wire) (a b:Int):Bool:=inR a 0 (w.Letters-1)&&inR b 0 (w.Numbers-1)
def znb (w:Wire):Prop:=(1<=w.Letters/\w.Letters<=5)/\(1<=w.Numbers/\w.Numbers<=5)
theorem zn1 {w:Wire} (h:znb w) (a b:Int):zgL w a b=some (okB w a b):=by
 obtain ⟨h1,h2⟩:=h
 unfold zgL zfC okB
 rw [zaW (by omega) (by omega),zaW (by omega) (by omega)]
 simp only [within_eq,zam]
 by_cases h:inR a 0 (w.Letters-1)=true<;>simp [h]
def okP (w:Wire) (p:WirePress):Bool:=okB w p.Letter p.Number&&inR p.Got (-1) (w.Letters*w.Numbers-1)
def okW (w:Wire):Bool:=inR w.Letters 1 5&&inR w.Numbers 1 5&&inR w.Faults 0 3&&decide (w.Presses.length<=8)&&w.Presses.all (okP w)
theorem zpk {w:Wire} (h:znb w):0<=w.Letters*w.Numbers/\w.Letters*w.Numbers<=25:=by
 obtain ⟨h1,h2⟩:=h
 refine ⟨Int.mul_nonneg (by omega) (by omega),?_⟩
 have:=Int.mul_le_mul h1.2 h2.2 (by omega) (by omega)
 simpa using this
theorem c1_eq {w:Wire} (h:znb w) (p:WirePress):zfq p w=some (!okP w p):=by
 have hm:=zpk h
 unfold zfq zfj okP
 rw [zn1 h,zam,zaW (x:=w.Letters*w.Numbers) (by omega) (by omega),zaW (by omega) (by omega),within_eq,zam]
 by_cases hb:okB w p.Letter p.Number=true<;>simp [hb]
theorem zpl {n:Nat} (f:WirePress->Option Bool) (g:WirePress->Bool) (xs:List WirePress) (hf:∀x,x∈xs->f x=some (g x)) (hl:xs.length<1048576) (hn:xs.length<n) :
  zct n (fun x (_:Unit)=>(f x).map fun y=>(y,())) xs ()=some (xs.any g,()):=by
 have key:∀(l:List WirePress) (i m:Nat) (s:Unit),i<=xs.length->xs.drop i=l->l.length<m->(zaH xs (fun x (_:Unit)=>(f x).map fun y=>(y,())) m (i:Int) s).map (fun r=>decide (r.1≥0))=some (l.any g):=by
  intro l i m s h1 h2 h3
  refine zud (fun m i s=>(zaH xs (fun x (_:Unit)=>(f x).map fun y=>(y,())) m i s).map (fun r=>decide (r.1≥0))) xs (fun l _=>some (l.any g)) hl (fun m s=>?_) (fun m i x l s hx hi hi' hd hrec=>?_) l i m s h1 h2 h3
  ·simp [zaH,zb8,zdp]
  ·have hmem:x∈xs:=by
    unfold idx at hx
    rw [if_pos (by omega)] at hx
    exact List.mem_of_getElem? hx
   simp only [zaH,zb8]
   rw [if_pos (by simpa using hi),hx,zam,hf x hmem]
   simp only [Option.map_some,zam]
   by_cases hg:g x=true
   ·rw [if_pos hg]
    simp [hg]
   ·rw [if_neg hg]
    have:=hrec ()
    rw [this]
    simp [hg]
 have h:=key xs 0 n () (by omega) rfl hn
 unfold zct zdP
 change Option.map _ (zaH xs _ n 0 ())=_ at h
 cases hq:zaH xs (fun x (_:Unit)=>(f x).map fun y=>(y,())) n 0 () with
 | none=>rw [hq] at h;cases h
 | some r =>
  rw [hq] at h
  simp only [Option.map_some,Option.some.injEq] at h
  simp only [zam]
  rw [←h]
theorem Check_eq {n:Nat} (w:Wire) (hn:100<=n):zjD n w=some (cond (okW w) 0 110):=by
 unfold zjD
 simp only [within_eq,zam]
 by_cases h1:inR w.Letters 1 5=true
 ·rw [if_neg (by simp [h1])]
  by_cases h2:inR w.Numbers 1 5=true
  ·rw [if_neg (by simp [h2])]
   by_cases h3:inR w.Faults 0 3=true
   ·rw [if_neg (by simp [h3])]
    by_cases h4:w.Presses.length<=8
    ·rw [if_neg (by simp;omega)]
     have hs:znb w:=⟨zb1.1 h1,zb1.1 h2⟩
     rw [zpl (fun x=>zfq x w) (fun p=>!okP w p) w.Presses (fun x _=>c1_eq hs x) (by omega) (by omega),zam]
     unfold zcd okW
     simp only [h1,h2,h3,h4,decide_true,Bool.true_and]
     by_cases h5:w.Presses.all (okP w)=true
     ·rw [if_neg]
      ·simp [h5]
      ·simp only [List.any_eq_true,not_exists,not_and]
       intro x hx
       have:=List.all_eq_true.1 h5 x hx
       simp [this]
     ·rw [if_pos]
      ·simp [h5]
      ·simp only [List.any_eq_true]
       simp only [List.all_eq_true,Classical.not_forall] at h5
       obtain ⟨x,hx,h⟩:=h5
       exact ⟨x,hx,by simpa using h⟩
    ·rw [if_pos (by simp;omega)]
     simp [zcd,okW,h4]
   ·rw [if_pos (by simpa using h3)]
    simp [zcd,okW,h3]
  ·rw [if_pos (by simpa using h2)]
   simp [zcd,okW,h2]
 ·rw [if_pos (by simpa using h1)]
  simp [zcd,okW,h1]
theorem SameInts_eq {n:Nat} (a b:List Int) (hs:a.length<1048576) (hn:a.length<n):zdm n a b=some (decide (a=b)):=by
 unfold zdm
 by_cases h:a.length=b.length
 ·rw [if_neg (by simp [h])]
  have:=zlO (F:=fun m i (_:Unit)=>zbd a b m i) (xs:=a.zip b) (spec:=fun l _=>some (decide (∀q,q∈l->q.1=q.2))) (n:=n) (by simp [←h];omega) (by simp [←h];omega) () (fun m s=>by simp [zbd,zcA,zdx,←h]) (fun m i x l s hx hi hi' hd hrec=>by
   have hi1:i<a.length:=by simp [←h] at hi;exact hi
   have hi2:i<b.length:=by omega
   have hx':x=(a[i],b[i]):=by
    rw [zhU (by simp;omega)] at hx
    injection hx with hx
    rw [←hx]
    simp
   simp only [zbd,zcA]
   rw [if_pos (by simp;omega),zhU hi1,zhU hi2,zam,zam]
   subst hx'
   by_cases hb:a[i]=b[i]
   ·rw [if_neg (by simp [hb]),hrec ()]
    simp [hb]
   ·rw [if_pos (by simp [hb])]
    simp [hb])
  rw [show zbd a b n 0=_ from this]
  congr 1
  apply decide_eq_decide.2
  constructor
  ·intro hq
   apply List.ext_getElem h
   intro i h1 h2
   have:=hq (a[i],b[i]) (by
    have h3:i<(a.zip b).length:=by simp;omega
    have:(a.zip b)[i]=(a[i],b[i]):=by simp
    rw [←this]
    exact List.getElem_mem h3)
   exact this
  ·rintro rfl q hq
   obtain ⟨i,hi,rfl⟩:=List.getElem_of_mem hq
   simp
 ·rw [if_pos (by simp;omega)]
  have:a≠b:=fun e=>h (by rw [e])
  simp [this]
theorem zjb {α:Type} {N:Nat} {xs:List α} {i:Nat} (hl:xs.length=N) (h:i<xs.length):zkW N xs (i:Int)=some xs[i]:=by
 unfold zkW
 rw [if_pos hl,zhU h]
theorem znc {α:Type} {N:Nat} {xs:List α} {z:Int} (hl:xs.length=N) (h0:0<=z) (h:z.toNat<xs.length):zkW N xs z=some xs[z.toNat]:=by
 obtain ⟨i,rfl⟩:=Int.eq_ofNat_of_zero_le h0
 exact zjb hl h
theorem zpm {α:Type} {N:Nat} {xs:List α} (hl:xs.length=N) (h:0<N):zqY N xs=some ():=if_pos ⟨hl,h⟩
abbrev zue:TrayPress->TrayPress->Unit->Option (Int×Unit):=fun (x0:TrayPress) (x1:TrayPress) (_:Unit)=>(zgg x0 x1).map fun y=>(y,())
theorem zpn (x y:TrayPress) (u:Unit):∃z:Int,zue x y u=some (z,()):=⟨_,rfl⟩
theorem zuf {N:Nat} (hN:N<=100) (rec1:Int->List TrayPress->Unit->Option (Unit×(List TrayPress×Unit))) (v2:Int):∀(k m:Nat) (ys:List TrayPress),k<m->k<N->ys.length=N ->
  ∃zs,zs.Perm ys/\zao rec1 0 zue N v2 m (k:Int) ys ()=rec1 (w64 (v2+1)) zs ():=by
 intro k
 induction k with
 | zero =>
  intro m ys hm hk hl
  obtain ⟨m,rfl⟩:∃q,m=q+1:=⟨m-1,by omega⟩
  refine ⟨ys,.refl _,?_⟩
  simp [zao,zaR,zaB,zaV]
 | succ k ih =>
  intro m ys hm hk hl
  obtain ⟨m,rfl⟩:∃q,m=q+1:=⟨m-1,by omega⟩
  have e1:w64 (((k+1:Nat):Int)-1)=(k:Int):=by rw [zaW (by omega) (by omega)];omega
  have i1:zkW N ys ((k+1:Nat):Int)=some ys[k+1]:=zjb hl (by omega)
  have i2:zkW N ys (k:Int)=some ys[k]:=zjb hl (by omega)
  obtain ⟨z,hz⟩:=zpn ys[k+1] ys[k] ()
  unfold zao zaR
  rw [if_pos (by simp<;>omega),e1,i1,i2]
  simp only [zam]
  rw [hz]
  simp only [zam]
  unfold zaB
  by_cases hb:z<0
  ·rw [if_pos (by simpa using hb),e1,i1,i2]
   simp only [zam]
   have i3:zkW N (ys.set (Int.toNat ((k+1:Nat):Int)) ys[k]) (k:Int)=some ((ys.set (Int.toNat ((k+1:Nat):Int)) ys[k])[k]'(by simp;omega)):=zjb (by simp [hl]) (by simp;omega)
   rw [i3]
   simp only [zam,Int.toNat_natCast]
   obtain ⟨zs,hp,he⟩:=ih m ((ys.set (k+1) ys[k]).set k ys[k+1]) (by omega) (by omega) (by simp [hl])
   exact ⟨zs,hp.trans (List.set_set_perm (by omega) (by omega)),he⟩
  ·rw [if_neg (by simpa using hb)]
   exact ⟨ys,.refl _,rfl⟩
theorem zug {N n:Nat} (hN:N<=100) (hn:200<=n):∀(d i m:Nat) (ys:List TrayPress),d=N-i->i<=N->d<m->ys.length=N ->
  ∃zs,zs.Perm ys/\zab n 0 (N:Int) zue N m (i:Int) ys ()=some ((),(zs,())):=by
 intro d
 induction d with
 | zero =>
  intro i m ys hd hi hm hl
  obtain ⟨m,rfl⟩:∃q,m=q+1:=⟨m-1,by omega⟩
  refine ⟨ys,.refl _,?_⟩
  unfold zab zaS
  rw [if_neg (by simp;omega)]
 | succ d ih =>
  intro i m ys hd hi hm hl
  obtain ⟨m,rfl⟩:∃q,m=q+1:=⟨m-1,by omega⟩
  unfold zab zaS
  rw [if_pos (by simp;omega)]
  obtain ⟨zs,hp,he⟩:=zuf hN (zab n 0 (N:Int) zue N m) (i:Int) i n ys (by omega) (by omega) hl
  rw [he,zaW (by omega) (by omega)]
  obtain ⟨us,hq,hf⟩:=ih (i+1) m zs (by omega) (by omega) (by omega) (by rw [hp.length_eq,hl])
  exact ⟨us,hq.trans hp,hf⟩
theorem zrI {n:Nat} (hn:200<=n) (xs:List TrayPress) (h0:0<xs.length) (hl:xs.length<=19):∃zs,zs.Perm xs/\zbq n zue xs.length (xs,())=some ((),(zs,())):=by
 obtain ⟨n,rfl⟩:∃q,n=q+1:=⟨n-1,by omega⟩
 obtain ⟨zs,hp,he⟩:=zug (N:=xs.length) (n:=n+1) (by omega) hn (xs.length-1) 1 (n+1) xs rfl (by omega) (by omega) rfl
 refine ⟨zs,hp,?_⟩
 unfold zbq zch zaX zbH
 rw [if_neg (by simp;omega)]
 unfold zbf za1
 rw [show w64 ((0:Int)+1)=((1:Nat):Int) from by decide +kernel,he]
 simp only [zam]
 unfold zal zbG
 rw [if_neg (by simp;omega)]
 rfl
theorem zqr {n:Nat} (hn:2<=n):zbg n=some ():=by
 obtain ⟨n,rfl⟩:∃q,n=q+1:=⟨n-1,by omega⟩
 unfold zbg zb2 zaU zbw
 rw [if_neg (by decide)]
 unfold za5 zaY zae za3
 rw [show w64 ((0:Int)+1)=1 from by decide +kernel,if_neg (by decide)]
 simp only [zam]
 unfold zaj zbv
 rw [if_neg (by decide)]
 rfl
def nxp (R:Nat) (p:Int×Int):Int×Int:=if 0<=p.1+p.2/\p.1+p.2<R then (p.1+p.2,p.2) else (p.1,-p.2)
def sdp (p:Int×Int):Int:=if p.2<0 then 2*p.1+1 else 2*p.1
def itp (R:Nat):Nat->Int×Int->Int×Int
 | 0,p=>p
 | k+1,p=>itp R k (nxp R p)
def okp (R:Nat) (p:Int×Int):Prop:=(0<=p.1/\p.1<R)/\(p.2=1\/p.2=-1)
theorem zuh {R:Nat} {p:Int×Int} (h:okp R p):okp R (nxp R p):=by
 obtain ⟨⟨h1,h2⟩,h3⟩:=h
 unfold nxp
 split
 ·exact ⟨by assumption,h3⟩
 ·exact ⟨⟨h1,h2⟩,by rcases h3 with h3 | h3<;>simp [h3]⟩
theorem zq0 {R:Nat} {p:Int×Int} (h:okp R p):0<=sdp p/\sdp p<2*R:=by
 obtain ⟨⟨h1,h2⟩,h3⟩:=h
 unfold sdp
 split<;>omega
def zq1:Bool:=(List.range 7).all fun R=>(List.range R).all fun a=>[1,-1].all fun w=>(List.range (2*R)).all fun s=>(List.range (2*R)).any fun k=>sdp (itp R k ((a:Int),w))==(s:Int)
theorem zpo:zq1=true:=by decide +kernel
theorem zqs {R:Nat} (hR:R<=6) {p:Int×Int} (h:okp R p) {s:Nat} (hs:s<2*R):∃k,k<2*R/\sdp (itp R k p)=(s:Int):=by
 obtain ⟨⟨h1,h2⟩,h3⟩:=h
 obtain ⟨a,w⟩:=p
 simp only at h1 h2 h3
 obtain ⟨a,rfl⟩:=Int.eq_ofNat_of_zero_le h1
 have hb:=zpo
 unfold zq1 at hb
 have h4:=List.all_eq_true.1 (List.all_eq_true.1 (List.all_eq_true.1 (List.all_eq_true.1 hb R (List.mem_range.2 (by omega))) a (List.mem_range.2 (by omega))) w (by rcases h3 with rfl | rfl<;>simp)) s (List.mem_range.2 hs)
 obtain ⟨k,hk,e⟩:=List.any_eq_true.1 h4
 exact ⟨k,List.mem_range.1 hk,eq_of_beq e⟩
theorem mark_eq (s:Int) (st:Carriage_) (h:st.run.spells.length<1048576):zbO s st=some ((),(⟨st.t,st.queue,st.pins,st.now,⟨st.at_.At,st.at_.Way,s⟩,⟨st.run.spells++[⟨⟨st.at_.At,st.at_.Way,s⟩,st.now⟩],st.run.plays,st.run.steps,st.run.end_⟩⟩:Carriage_)):=by
 unfold zbO
 rw [zfX (by simp;omega)]
 rfl
def prs (now:Int):List TrayPress->List Bool->List TrayPress×List Bool
 | [],ps=>([],ps)
 | p::q,ps=>if p.Time<=now then prs now q (ps.set p.Side.toNat true) else (p::q,ps)
def zho (R:Nat) (s:Int):Prop:=0<=s/\s<2*R
theorem zqt {R:Nat} (st:Carriage_) (hR:st.t.Records.length=R):∀(q:List TrayPress) (m:Nat) (ps:List Bool),q.length<m->q.length<1048576->(∀p,p∈q->zho R p.Side)->ps.length=2*R ->
  za6 st m q ps=some ((),(⟨st.t,(prs st.now q ps).1,(prs st.now q ps).2,st.now,st.at_,st.run⟩:Carriage_)):=by
 intro q
 induction q with
 | nil =>
  intro m ps hm _ _ _
  obtain ⟨m,rfl⟩:∃k,m=k+1:=⟨m-1,by omega⟩
  rfl
 | cons p q ih =>
  intro m ps hm hl hq hp
  obtain ⟨m,rfl⟩:∃k,m=k+1:=⟨m-1,by omega⟩
  simp only [List.length_cons] at hm hl
  unfold za6 zdu
  rw [if_pos (by simp),show idx (p::q) 0=some p from rfl]
  simp only [zam]
  unfold zcy
  obtain ⟨s1,s2⟩:=hq p (List.mem_cons_self ..)
  by_cases h:p.Time<=st.now
  ·rw [if_pos (by simpa using h),show idx (p::q) 0=some p from rfl]
   simp only [zam]
   rw [hR,znc hp s1 (by omega)]
   simp only [zam]
   have hc:cut (p::q) 1 ((p::q).length:Int)=some q:=by
    unfold cut
    rw [if_pos (by simp;omega)]
    simp
   rw [hc]
   simp only [zam]
   rw [ih m _ (by omega) (by omega) (fun x hx=>hq x (List.mem_cons_of_mem _ hx)) (by simpa using hp)]
   simp only [prs,if_pos h]
  ·rw [if_neg (by simpa using h)]
   simp only [prs,if_neg h]
theorem zqu {R n:Nat} (st:Carriage_) (hR:st.t.Records.length=R) (hn:st.queue.length<n) (hl:st.queue.length<1048576) (hq:∀p,p∈st.queue->zho R p.Side) (hp:st.pins.length=2*R) :
  zeW n st=some ((),(⟨st.t,(prs st.now st.queue st.pins).1,(prs st.now st.queue st.pins).2,st.now,st.at_,st.run⟩:Carriage_)):=zqt st hR _ _ _ hn hl hq hp
theorem zqv {n:Nat} (l:List Bool) (hl:l.length<1048576) (hn:l.length<n):zdr n l true=some (decide (true∈l)):=by
 have key:(zek n l true).map (fun r=>decide (r≥0))=some (decide (true∈l)):=by
  refine zlO (F:=fun m i (_:Unit)=>(zbM l true m i).map fun r=>decide (r≥0)) (spec:=fun k _=>some (decide (true∈k))) hl hn () (fun m s=>?_) (fun m i x k s hx hi hi' hd hrec=>?_)
  ·simp [zbM,zc7,zdq]
  ·simp only [zbM,zc7]
   rw [if_pos (by simpa using hi),hx,zam]
   cases x with
   | true=>simp
   | false=>simpa using hrec ()
 unfold zdr
 cases h:zek n l true with
 | none=>rw [h] at key;cases key
 | some r=>rw [h] at key;simpa using key
theorem zpp {R:Nat} {t:Tray} (hR:t.Records.length=R) {s:Int} (hs:zho R s) (hl:R<=6):∃d,zid t s=some d:=by
 obtain ⟨h1,h2⟩:=hs
 unfold zid
 rw [zqX h1 (by decide)]
 simp only [zam]
 have hq:quo s 2=some ((s / 2).toNat:Int):=by rw [zqW h1 (by decide) (by omega)];congr 1;omega
 rw [hq]
 have hi:idx t.Records ((s / 2).toNat:Int)=some t.Records[(s / 2).toNat]:=zhU (by omega)
 split
 ·simp only [zam]
  rw [hi]
  exact ⟨_,rfl⟩
 ·simp only [zam]
  rw [hi]
  exact ⟨_,rfl⟩
structure Next (R:Nat) (st st':Carriage_):Prop where
 t:st'.t=st.t
 queue:st'.queue=st.queue
 pins:st'.pins=st.pins
 plays:st'.run.plays=st.run.plays
 pos:(st'.at_.At,st'.at_.Way)=nxp R (st.at_.At,st.at_.Way)
 spells:st'.run.spells.length=st.run.spells.length+1
theorem zpq {R:Nat} (st:Carriage_) (hR:st.t.Records.length=R) (hl:R<=6) (hp:okp R (st.at_.At,st.at_.Way)) (hs:st.run.spells.length<1048576):∃st',zdU st=some ((),st')/\Next R st st':=by
 obtain ⟨⟨h1,h2⟩,h3⟩:=hp
 simp only at h1 h2 h3
 have e1:w64 (st.at_.At+st.at_.Way)=st.at_.At+st.at_.Way:=zaW (by omega) (by omega)
 have e2:w64 (0-st.at_.Way)=-st.at_.Way:=by rw [zaW (by omega) (by omega)];omega
 have yes:0<=st.at_.At+st.at_.Way/\st.at_.At+st.at_.Way<R->∃st',zbk st true=some ((),st')/\Next R st st':=fun h=>by
  unfold zbk zb5
  rw [if_pos rfl,mark_eq _ _ (by exact hs)]
  refine ⟨_,rfl,⟨rfl,rfl,rfl,rfl,?_,by simp⟩⟩
  simp only [e1]
  unfold nxp
  rw [if_pos h]
 have no:¬(0<=st.at_.At+st.at_.Way/\st.at_.At+st.at_.Way<R)->∃st',zbk st false=some ((),st')/\Next R st st':=fun h=>by
  unfold zbk zb5
  rw [if_neg (by decide),mark_eq _ _ (by exact hs)]
  refine ⟨_,rfl,⟨rfl,rfl,rfl,rfl,?_,by simp⟩⟩
  simp only [e2]
  unfold nxp
  rw [if_neg h]
 unfold zdU
 rw [e1,hR]
 by_cases ha:0<=st.at_.At+st.at_.Way
 ·rw [if_pos (by simpa using ha)]
  by_cases hb:st.at_.At+st.at_.Way<R
  ·rw [show decide (st.at_.At+st.at_.Way<(R:Int))=true by simpa using hb]
   exact yes ⟨ha,hb⟩
  ·rw [show decide (st.at_.At+st.at_.Way<(R:Int))=false by simpa using hb]
   exact no fun h=>hb h.2
 ·rw [if_neg (by simpa using ha)]
  exact no fun h=>ha h.1
theorem zui {R n:Nat} (st:Carriage_) (hR:st.t.Records.length=R) (hR0:0<R) (hl:R<=6) (hpos:okp R (st.at_.At,st.at_.Way)) (hn:100<=n) (hql:st.queue.length<50) (hq:∀p,p∈st.queue->zho R p.Side) (hp:st.pins.length=2*R)
  (hs:st.run.spells.length<1000000) (hy:st.run.plays.length<1000000) {q':List TrayPress} {ps':List Bool} (he:prs st.now st.queue st.pins=(q',ps')) (hps:ps'.length=2*R) :
  ∃b st',zcz n st=some (b,st')/\st'.t=st.t/\st'.queue=q' /\
   ((true∉ps'/\q'=[]/\b=false/\st'.pins=ps'/\st'.run.plays=st.run.plays/\st'.at_=st.at_/\st'.run.spells=st.run.spells) \/
   (true∉ps'/\(∃p k,q'=p::k/\st'.now=p.Time)/\b=true/\st'.pins=ps'/\st'.run.plays=st.run.plays/\st'.at_=st.at_/\st'.run.spells=st.run.spells) \/
   (true∈ps'/\ps'[(sdp (st.at_.At,st.at_.Way)).toNat]?=some false/\b=true/\st'.pins=ps'/\st'.run.plays=st.run.plays/\(st'.at_.At,st'.at_.Way)=nxp R (st.at_.At,st.at_.Way)/\st'.run.spells.length=st.run.spells.length+1) \/
   (true∈ps'/\ps'[(sdp (st.at_.At,st.at_.Way)).toNat]?=some true/\b=true/\st'.pins=ps'.set (sdp (st.at_.At,st.at_.Way)).toNat false/\st'.run.plays=st.run.plays++[⟨sdp (st.at_.At,st.at_.Way),st.now⟩]/\(st'.at_.At,st'.at_.Way)=nxp R (st.at_.At,st.at_.Way)/\st'.run.spells.length=st.run.spells.length+3)):=by
 have hsd:=zq0 hpos
 obtain ⟨⟨h1,h2⟩,h3⟩:=id hpos
 simp only at h1 h2 h3
 unfold zcz
 rw [zqu st hR (by omega) (by omega) hq hp,he]
 simp only [zam]
 rw [hR,zpm hps (by omega),zam,zqv ps' (by omega) (by omega),zam]
 by_cases hT:true∈ps'
 ·rw [if_neg (by simp [hT])]
  have hj:∀s:Int,s=sdp (st.at_.At,st.at_.Way)->∃b st',zcn ((),(⟨st.t,q',ps',st.now,st.at_,st.run⟩:Carriage_)) s=some (b,st')/\st'.t=st.t/\st'.queue=q' /\
   ((true∈ps'/\ps'[(sdp (st.at_.At,st.at_.Way)).toNat]?=some false/\b=true/\st'.pins=ps'/\st'.run.plays=st.run.plays/\(st'.at_.At,st'.at_.Way)=nxp R (st.at_.At,st.at_.Way)/\st'.run.spells.length=st.run.spells.length+1) \/
   (true∈ps'/\ps'[(sdp (st.at_.At,st.at_.Way)).toNat]?=some true/\b=true/\st'.pins=ps'.set (sdp (st.at_.At,st.at_.Way)).toNat false/\st'.run.plays=st.run.plays++[⟨sdp (st.at_.At,st.at_.Way),st.now⟩]/\(st'.at_.At,st'.at_.Way)=nxp R (st.at_.At,st.at_.Way)/\st'.run.spells.length=st.run.spells.length+3)):=by
   rintro s rfl
   generalize hsg:sdp (st.at_.At,st.at_.Way)=s at hsd ⊢
   have hlt:s.toNat<ps'.length:=by omega
   unfold zcn
   simp only [hR]
   rw [znc hps hsd.1 hlt]
   simp only [zam]
   have hg:ps'[s.toNat]?=some ps'[s.toNat]:=List.getElem?_eq_getElem hlt
   by_cases hb:ps'[s.toNat]=true
   ·rw [if_pos hb,zfX (by simp;omega)]
    simp only [zam]
    rw [mark_eq _ _ (by show st.run.spells.length<1048576;omega)]
    simp only [zam]
    obtain ⟨d,hd⟩:=zpp hR hsd hl
    rw [hd]
    simp only [zam]
    rw [mark_eq _ _ (by simp;omega)]
    simp only [zam]
    unfold zcm
    obtain ⟨st',e,hx⟩:=zpq (R:=R) (⟨⟨st.t.Records,st.t.At,st.t.Way,st.t.Step,st.t.Presses⟩,q',ps'.set s.toNat false,w64 (st.now+d),⟨st.at_.At,st.at_.Way,-1⟩,⟨(st.run.spells++[⟨⟨st.at_.At,st.at_.Way,s⟩,st.now⟩])++[⟨⟨st.at_.At,st.at_.Way,-1⟩,w64 (st.now+d)⟩],st.run.plays++[⟨s,st.now⟩],st.run.steps,w64 (st.now+d)⟩⟩:Carriage_) hR hl hpos (by simp;omega)
    rw [e]
    refine ⟨true,st',rfl,hx.t,hx.queue,.inr ⟨hT,by rw [hg,hb],rfl,hx.pins,hx.plays,hx.pos,?_⟩⟩
    rw [hx.spells]
    simp
   ·rw [if_neg hb]
    unfold zcm
    obtain ⟨st',e,hx⟩:=zpq (R:=R) (⟨⟨st.t.Records,st.t.At,st.t.Way,st.t.Step,st.t.Presses⟩,q',ps',st.now,⟨st.at_.At,st.at_.Way,st.at_.Side⟩,⟨st.run.spells,st.run.plays,st.run.steps,st.run.end_⟩⟩:Carriage_) hR hl hpos (by show st.run.spells.length<1048576;omega)
    rw [e]
    exact ⟨true,st',rfl,hx.t,hx.queue,.inl ⟨hT,by rw [hg,Bool.eq_false_iff.2 hb],rfl,hx.pins,hx.plays,hx.pos,hx.spells⟩⟩
  by_cases hw:st.at_.Way<0
  ·rw [if_pos (by simpa using hw)]
   obtain ⟨b,st',e,a1,a2,a3⟩:=hj (w64 ((w64 (2*st.at_.At))+1)) (by
    rw [zaW (x:=2*st.at_.At) (by omega) (by omega),zaW (by omega) (by omega)]
    unfold sdp
    rw [if_pos hw])
   exact ⟨b,st',e,a1,a2,.inr (.inr a3)⟩
  ·rw [if_neg (by simpa using hw)]
   obtain ⟨b,st',e,a1,a2,a3⟩:=hj (w64 (2*st.at_.At)) (by
    rw [zaW (x:=2*st.at_.At) (by omega) (by omega)]
    unfold sdp
    rw [if_neg hw])
   exact ⟨b,st',e,a1,a2,.inr (.inr a3)⟩
 ·rw [if_pos (by simp [hT])]
  cases q' with
  | nil =>
   rw [if_pos (by decide)]
   exact ⟨_,_,rfl,rfl,rfl,.inl ⟨hT,rfl,rfl,rfl,rfl,rfl,rfl⟩⟩
  | cons p k =>
   rw [if_neg (by simp;omega),show idx (p::k) 0=some p from rfl]
   exact ⟨_,_,rfl,rfl,rfl,.inr (.inl ⟨hT,⟨p,k,rfl,rfl⟩,rfl,rfl,rfl,rfl,rfl⟩)⟩
theorem zlP (l:List Bool) (i:Nat):(l.set i true).count true<=l.count true+1:=by
 induction l generalizing i with
 | nil=>simp
 | cons b l ih =>
  cases i with
  | zero=>cases b<;>simp
  | succ i =>
   have:=ih i
   simp only [List.set_cons_succ,List.count_cons]
   omega
theorem zjJ (l:List Bool) (i:Nat) (h:l[i]?=some true):(l.set i false).count true+1=l.count true:=by
 induction l generalizing i with
 | nil=>simp at h
 | cons b l ih =>
  cases i with
  | zero=>simp at h;subst h;simp
  | succ i =>
   have:=ih i (by simpa using h)
   simp only [List.set_cons_succ,List.count_cons]
   omega
def znd (ps:List Bool) (s:Int):Prop:=∃i:Nat,s=(i:Int)/\ps[i]?=some true
def quT (q:List TrayPress) (s:Int):Prop:=∃p,p∈q/\p.Side=s
theorem zqw {R:Nat} {ps:List Bool} {a s:Int} (hl:ps.length=2*R) (ha:zho R a):znd (ps.set a.toNat true) s↔s=a\/znd ps s:=by
 obtain ⟨h1,h2⟩:=ha
 constructor
 ·rintro ⟨i,rfl,hi⟩
  by_cases e:i=a.toNat
  ·exact .inl (by omega)
  ·rw [List.getElem?_set_ne (by omega)] at hi
   exact .inr ⟨i,rfl,hi⟩
 ·intro h
  by_cases e:s=a
  ·subst e
   exact ⟨s.toNat,by omega,by rw [List.getElem?_set_self (by omega)]⟩
  ·rcases h with h | ⟨i,rfl,hi⟩
   ·exact absurd h e
   ·exact ⟨i,rfl,by rw [List.getElem?_set_ne (by omega)];exact hi⟩
theorem zkx {ps:List Bool} {a s:Int} (h0:0<=a):znd (ps.set a.toNat false) s->s≠a/\znd ps s:=by
 rintro ⟨i,rfl,hi⟩
 by_cases e:i=a.toNat
 ·subst e
  rw [List.getElem?_set] at hi
  simp at hi
 ·rw [List.getElem?_set_ne (by omega)] at hi
  exact ⟨by omega,i,rfl,hi⟩
theorem zpr {ps:List Bool} {a s:Int} (h:znd ps s) (hne:s≠a) (h0:0<=a):znd (ps.set a.toNat false) s:=by
 obtain ⟨i,rfl,hi⟩:=h
 exact ⟨i,rfl,by rw [List.getElem?_set_ne (by omega)];exact hi⟩
structure Prs (R:Nat) (now:Int) (q:List TrayPress) (ps:List Bool) (q':List TrayPress) (ps':List Bool):Prop where
 len:ps'.length=ps.length
 mem:∀p,p∈q'->p∈q
 cnt:q'.length+ps'.count true<=q.length+ps.count true
 shorter:q'.length<q.length\/(q'=q/\ps'=ps)
 union:∀s,(znd ps' s\/quT q' s)↔(znd ps s\/quT q s)
 past:(∀p,p∈q->p.Time<=now)->q'=[]
 head:∀p k,q'=p::k->¬p.Time<=now
theorem zne {R:Nat} (now:Int):∀(q:List TrayPress) (ps:List Bool),(∀p,p∈q->zho R p.Side)->ps.length=2*R->Prs R now q ps (prs now q ps).1 (prs now q ps).2
 | [],ps,_,_=>⟨rfl,fun _ h=>h,Nat.le_refl _,.inr ⟨rfl,rfl⟩,fun _=>Iff.rfl,fun _=>rfl,fun p k h=>by cases h⟩
 | p::q,ps,hq,hl=>by
  unfold prs
  by_cases h:p.Time<=now
  ·rw [if_pos h]
   have hp:=hq p (List.mem_cons_self ..)
   have ih:=zne (R:=R) now q (ps.set p.Side.toNat true) (fun x hx=>hq x (List.mem_cons_of_mem _ hx)) (by simpa using hl)
   have hc:=zlP ps p.Side.toNat
   refine ⟨by rw [ih.len];simp,fun x hx=>List.mem_cons_of_mem _ (ih.mem x hx),?_,?_,fun s=>?_,fun ha=>ih.past fun x hx=>ha x (List.mem_cons_of_mem _ hx),ih.head⟩
   ·have:=ih.cnt
    simp only [List.length_cons]
    omega
   ·refine .inl ?_
    rcases ih.shorter with h1 | ⟨h1,_⟩
    ·simp only [List.length_cons];omega
    ·rw [h1];simp
   ·rw [ih.union s,zqw hl hp]
    constructor
    ·rintro ((rfl | h1) | ⟨x,hx,rfl⟩)
     ·exact .inr ⟨p,List.mem_cons_self ..,rfl⟩
     ·exact .inl h1
     ·exact .inr ⟨x,List.mem_cons_of_mem _ hx,rfl⟩
    ·rintro (h1 | ⟨x,hx,rfl⟩)
     ·exact .inl (.inr h1)
     ·rcases List.mem_cons.1 hx with rfl | hx
      ·exact .inl (.inl rfl)
      ·exact .inr ⟨x,hx,rfl⟩
  ·rw [if_neg h]
   exact ⟨rfl,fun _ h=>h,Nat.le_refl _,.inr ⟨rfl,rfl⟩,fun _=>Iff.rfl,fun ha=>absurd (ha p (List.mem_cons_self ..)) h,fun x k e=>by injection e with e1 e2;subst e1;exact h⟩
def plT (l:List TrayPlay) (s:Int):Prop:=∃y,y∈l/\y.Side=s
structure Inv (R N:Nat) (L:Int->Prop) (z:Prop) (st:Carriage_):Prop where
 hR:st.t.Records.length=R
 pos:okp R (st.at_.At,st.at_.Way)
 q:∀p,p∈st.queue->zho R p.Side
 pins:st.pins.length=2*R
 cnt:st.run.plays.length+(st.queue.length+st.pins.count true)<=N
 side:∀y,y∈st.run.plays->zho R y.Side
 all:∀s,L s↔plT st.run.plays s\/(znd st.pins s\/quT st.queue s)
 one:z->(∀p,p∈st.queue->p.Time<=st.now)/\(st.queue=[]\/st.run.plays=[])/\(st.run.plays.map (·.Side)).Nodup/\∀y,y∈st.run.plays->¬znd st.pins y.Side
structure Dst (R:Nat) (st:Carriage_) (d:Nat):Prop where
 le:d<=2*R+1
 some:true∈st.pins->st.pins[(sdp (itp R d (st.at_.At,st.at_.Way))).toNat]?=some true
 none:true∉st.pins->∀p k,st.queue=p::k->¬p.Time<=st.now->1<=d
theorem znf {R:Nat} (st:Carriage_) (hR:R<=6) (hp:okp R (st.at_.At,st.at_.Way)) (hl:st.pins.length=2*R):∃d,Dst R st d:=by
 by_cases h:true∈st.pins
 ·obtain ⟨i,hi,e⟩:=List.mem_iff_getElem.1 h
  obtain ⟨k,hk,e2⟩:=zqs hR hp (s:=i) (by omega)
  exact ⟨k,by omega,fun _=>by rw [e2,Int.toNat_natCast,List.getElem?_eq_getElem hi,e],fun h'=>absurd h h'⟩
 ·exact ⟨1,by omega,fun h'=>absurd h' h,fun _ _ _ _ _=>Nat.le_refl _⟩
def wgt (st:Carriage_):Nat:=2*st.queue.length+st.pins.count true
theorem zk5 {a b d d' K:Nat} (h:a<b) (hd:d'<K):a*K+d'<b*K+d:=by
 have:=Nat.mul_le_mul_right K (show a+1<=b from h)
 rw [Nat.succ_mul] at this
 omega
theorem zng {R N n:Nat} {L:Int->Prop} {z:Prop} {st:Carriage_} {d:Nat} (hR0:0<R) (hl:R<=6) (hN:N<50) (hn:100<=n) (I:Inv R N L z st) (D:Dst R st d) (hs:st.run.spells.length<1000000) :
  ∃b st',zcz n st=some (b,st')/\Inv R N L z st'/\(b=false->st'.queue=[]/\true∉st'.pins)/\(b=true->∃d',Dst R st' d'/\wgt st'*(2*R+2)+d'<wgt st*(2*R+2)+d)/\st'.run.spells.length<=st.run.spells.length+3:=by
 have hc:=I.cnt
 have P:=zne (R:=R) st.now st.queue st.pins I.q I.pins
 obtain ⟨q',ps',hpq⟩:∃q' ps',prs st.now st.queue st.pins=(q',ps'):=⟨_,_,rfl⟩
 rw [hpq] at P
 have hps:ps'.length=2*R:=by rw [P.len];exact I.pins
 obtain ⟨b,st',e,ht,hqu,hcase⟩:=zui (n:=n) st I.hR hR0 hl I.pos hn (by omega) I.q I.pins hs (by omega) hpq hps
 have hsd:=zq0 I.pos
 have hnx:=zuh I.pos
 have hc2:st.run.plays.length+(q'.length+ps'.count true)<=N:=by have:=P.cnt;simp only at this;omega
 have hall:∀s,L s↔plT st.run.plays s\/(znd ps' s\/quT q' s):=fun s=>by rw [I.all s];exact or_congr Iff.rfl (P.union s).symm
 have hq':∀p,p∈q'->zho R p.Side:=fun p hp=>I.q p (P.mem p hp)
 have hone:z->q'=[]/\(st.run.plays.map (·.Side)).Nodup/\∀y,y∈st.run.plays->¬znd ps' y.Side:=fun hz=>by
  obtain ⟨o1,o2,o3,o4⟩:=I.one hz
  refine ⟨P.past o1,o3,fun y hy hpin=>?_⟩
  rcases o2 with o2 | o2
  ·rcases (P.union y.Side).1 (.inl hpin) with h | ⟨p,hp,_⟩
   ·exact o4 y hy h
   ·rw [o2] at hp;cases hp
  ·rw [o2] at hy;cases hy
 have hw:q'.length<st.queue.length/\2*q'.length+ps'.count true<wgt st\/q'=st.queue/\ps'=st.pins:=by
  have:=P.cnt
  simp only at this
  rcases P.shorter with h | h
  ·simp only at h;exact .inl ⟨h,by unfold wgt;omega⟩
  ·exact .inr h
 refine ⟨b,st',e,?_⟩
 have hcnt:2*q'.length+ps'.count true<=wgt st:=by
  rcases hw with h | ⟨h1,h2⟩
  ·omega
  ·rw [h1,h2];exact Nat.le_refl _
 rcases hcase with ⟨h1,h2,rfl,h4,h5,h6,h7⟩ | ⟨h1,⟨p,k,h2,h3⟩,rfl,h4,h5,h6,h7⟩ | ⟨h1,h2,rfl,h4,h5,h6,h7⟩ | ⟨h1,h2,rfl,h4,h5,h6,h7⟩
 ·-- the end
  refine ⟨⟨by rw [ht];exact I.hR,by rw [h6];exact I.pos,by rw [hqu];exact hq',by rw [h4];exact hps,by rw [h4,h5,hqu];exact hc2,by rw [h5];exact I.side,fun s=>by rw [h4,h5,hqu];exact hall s,fun hz=>?_⟩,fun _=>⟨by rw [hqu,h2],by rw [h4];exact h1⟩,(fun h=>by cases h),by rw [h7];omega⟩
  rw [h4,h5,hqu,h2]
  obtain ⟨_,o2,o3⟩:=hone hz
  exact ⟨(fun _ h=>by cases h),.inl rfl,o2,o3⟩
 ·-- on to the next press
  have I':Inv R N L z st':=⟨by rw [ht];exact I.hR,by rw [h6];exact I.pos,by rw [hqu];exact hq',by rw [h4];exact hps,by rw [h4,h5,hqu];exact hc2,by rw [h5];exact I.side,fun s=>by rw [h4,h5,hqu];exact hall s,fun hz=>by
   have:=(hone hz).1
   rw [h2] at this
   cases this⟩
  refine ⟨I',(fun h=>by cases h),fun _=>?_,by rw [h7];omega⟩
  rcases hw with ⟨_,hw⟩ | ⟨hw1,hw2⟩
  ·obtain ⟨d',D'⟩:=znf st' hl I'.pos I'.pins
   exact ⟨d',D',zk5 (by unfold wgt;rw [hqu,h4];exact hw) (by have:=D'.le;omega)⟩
  ·have h8:1<=d:=D.none (by rw [←hw2];exact h1) p k (by rw [←hw1];exact h2) (P.head p k h2)
   refine ⟨0,⟨by omega,fun h=>absurd h (by rw [h4];exact h1),fun _ p2 k2 e2 hno=>?_⟩,?_⟩
   ·rw [hqu,h2] at e2
    injection e2 with e3 e4
    exact absurd (by rw [h3,e3];exact Int.le_refl _) hno
   ·have:wgt st'=wgt st:=by unfold wgt;rw [hqu,h4,hw1,hw2]
    rw [this]
    omega
 ·-- on to the next position
  have I':Inv R N L z st':=⟨by rw [ht];exact I.hR,by rw [h6];exact hnx,by rw [hqu];exact hq',by rw [h4];exact hps,by rw [h4,h5,hqu];exact hc2,by rw [h5];exact I.side,fun s=>by rw [h4,h5,hqu];exact hall s,fun hz=>by
   obtain ⟨o1,o2,o3⟩:=hone hz
   rw [h4,h5,hqu,o1]
   exact ⟨(fun _ h=>by cases h),.inl rfl,o2,o3⟩⟩
  refine ⟨I',(fun h=>by cases h),fun _=>?_,by rw [h7];omega⟩
  rcases hw with ⟨_,hw⟩ | ⟨hw1,hw2⟩
  ·obtain ⟨d',D'⟩:=znf st' hl I'.pos I'.pins
   exact ⟨d',D',zk5 (by unfold wgt;rw [hqu,h4];exact hw) (by have:=D'.le;omega)⟩
  ·have h8:=D.some (by rw [←hw2];exact h1)
   cases d with
   | zero =>
    rw [hw2] at h2
    rw [show itp R 0 (st.at_.At,st.at_.Way)=(st.at_.At,st.at_.Way) from rfl,h2] at h8
    cases h8
   | succ d =>
    refine ⟨d,⟨by have:=D.le;omega,fun _=>?_,fun h=>absurd h1 (by rw [←h4];exact h)⟩,?_⟩
    ·rw [h4,h6,hw2]
     exact h8
    ·have:wgt st'=wgt st:=by unfold wgt;rw [hqu,h4,hw1,hw2]
     rw [this]
     omega
 ·-- a side is played
  generalize hsg:sdp (st.at_.At,st.at_.Way)=s at *
  have hcf:=zjJ ps' s.toNat h2
  have hpin:znd ps' s:=⟨s.toNat,by omega,h2⟩
  have I':Inv R N L z st':=⟨by rw [ht];exact I.hR,by rw [h6];exact hnx,by rw [hqu];exact hq',by rw [h4];simpa using hps,by rw [h4,h5,hqu,List.length_append];simp only [List.length_cons,List.length_nil];omega,fun y hy=>by
   rw [h5] at hy
   rcases List.mem_append.1 hy with hy | hy
   ·exact I.side y hy
   ·rw [List.mem_singleton.1 hy];exact hsd,fun x=>by
   rw [h4,h5,hqu,hall x]
   constructor
   ·rintro (⟨y,hy,e⟩ | h | h)
    ·exact .inl ⟨y,List.mem_append.2 (.inl hy),e⟩
    ·by_cases e:x=s
     ·exact .inl ⟨⟨s,st.now⟩,List.mem_append.2 (.inr (List.mem_singleton.2 rfl)),e.symm⟩
     ·exact .inr (.inl (zpr h e hsd.1))
    ·exact .inr (.inr h)
   ·rintro (⟨y,hy,e⟩ | h | h)
    ·rcases List.mem_append.1 hy with hy | hy
     ·exact .inl ⟨y,hy,e⟩
     ·rw [List.mem_singleton.1 hy] at e
      exact .inr (.inl (by rw [←e];exact hpin))
    ·exact .inr (.inl (zkx hsd.1 h).2)
    ·exact .inr (.inr h),fun hz=>by
   obtain ⟨o1,o2,o3⟩:=hone hz
   rw [h4,h5,hqu,o1]
   refine ⟨(fun _ h=>by cases h),.inl rfl,?_,fun y hy hyp=>?_⟩
   ·rw [List.map_append,List.nodup_append]
    refine ⟨o2,by simp,fun a ha b hb=>?_⟩
    obtain ⟨y,hy,rfl⟩:=List.mem_map.1 ha
    simp only [List.map_cons,List.map_nil,List.mem_singleton] at hb
    subst hb
    intro e
    exact o3 y hy (by rw [e];exact hpin)
   ·obtain ⟨e1,e2⟩:=zkx hsd.1 hyp
    rcases List.mem_append.1 hy with hy | hy
    ·exact o3 y hy e2
    ·rw [List.mem_singleton.1 hy] at e1
     exact e1 rfl⟩
  refine ⟨I',(fun h=>by cases h),fun _=>?_,by rw [h7];omega⟩
  obtain ⟨d',D'⟩:=znf st' hl I'.pos I'.pins
  exact ⟨d',D',zk5 (by unfold wgt;rw [hqu,h4];unfold wgt at hcnt;omega) (by have:=D'.le;omega)⟩
abbrev goF (n m:Nat) (st:Carriage_):Option Run_:=zd4 n m st.t.Records st.t.At st.t.Way st.t.Step st.t.Presses st.queue st.now st.at_.At st.at_.Way st.at_.Side st.run.spells st.run.plays st.run.steps st.run.end_ st.pins
theorem znh (n m:Nat) (st:Carriage_):goF n (m+1) st=Option.bind (zcz n st) fun r=>if r.1=true then goF n m r.2 else some r.2.run:=rfl
theorem zky (n:Nat):∀m,ze0 n m=zd4 n m
 | 0=>rfl
 | m+1=>by
  funext a b c d e f g h i j k l o p q
  show zgo n (ze0 n m) a b c d e f g h i j k l o p q=zgn n (zd4 n m) a b c d e f g h i j k l o p q
  rw [zky n m]
  rfl
theorem zrJ {R N n:Nat} {L:Int->Prop} {z:Prop} (hR0:0<R) (hl:R<=6) (hN:N<50) (hn:100<=n):∀(M:Nat) (st:Carriage_) (d m:Nat),Inv R N L z st->Dst R st d->wgt st*(2*R+2)+d<=M->M<m->st.run.spells.length+3*M<900000 ->
  ∃st',goF n m st=some st'.run/\Inv R N L z st'/\st'.queue=[]/\true∉st'.pins:=by
 intro M
 induction M with
 | zero =>
  intro st d m I D hM hm hs
  obtain ⟨m,rfl⟩:∃k,m=k+1:=⟨m-1,by omega⟩
  obtain ⟨b,st',e,I',hf,ht,hs'⟩:=zng hR0 hl hN hn I D (by omega)
  rw [znh,e,zam]
  cases b with
  | false=>exact ⟨st',rfl,I',hf rfl⟩
  | true=>obtain ⟨d',_,h⟩:=ht rfl;omega
 | succ M ih =>
  intro st d m I D hM hm hs
  obtain ⟨m,rfl⟩:∃k,m=k+1:=⟨m-1,by omega⟩
  obtain ⟨b,st',e,I',hf,ht,hs'⟩:=zng hR0 hl hN hn I D (by omega)
  rw [znh,e,zam]
  cases b with
  | false=>exact ⟨st',rfl,I',hf rfl⟩
  | true =>
   obtain ⟨d',D',h⟩:=ht rfl
   exact ih st' d' m I' D' (by omega) (by omega) (by omega)
theorem zfo (a b c:Int):zcq a b c=some (inR a b c):=by
 unfold zcq zd3 inR
 by_cases h:b<=a<;>simp [h]
def okR (r:TrayRecord):Bool:=inR r.Front 1 999&&inR r.Back 1 999
def zn2 (R:Nat) (p:TrayPress):Bool:=inR p.Side 0 (2*R-1)&&inR p.Time 0 9999
def okT (t:Tray):Bool:=inR t.Records.length 1 6&&(inR t.At 0 (t.Records.length-1)&&((t.Way==1 || t.Way==-1)&&(inR t.Step 0 60&&(t.Records.all okR&&(decide (t.Presses.length<=12)&&t.Presses.all (zn2 t.Records.length))))))
theorem zmx (t:Tray) (h:t.Records.length<1048576):w64 (2*(t.Records.length:Int))=2*(t.Records.length:Int):=zaW (by omega) (by omega)
theorem zps (t:Tray) (h:t.Records.length<1048576) (s:Int):zge t s=some (inR s 0 (2*t.Records.length-1)):=by
 unfold zge
 rw [zmx t h,zaW (by omega) (by omega),zfo]
 rfl
theorem zpt (s:Int):zgf s=some (inR s 0 9999):=by
 unfold zgf
 rw [zfo]
 rfl
theorem zn3 {n:Nat} (t:Tray) (h:t.Records.length<1048576) (hp:t.Presses.length<=40) (hn:100<=n):zfI n t 12=some (cond (decide (t.Presses.length<=12)&&t.Presses.all (zn2 t.Records.length)) 0 20):=by
 unfold zfI
 by_cases hl:t.Presses.length<=12
 ·rw [if_neg (by simp;omega)]
  have key:=zlO (F:=fun m i (_:Unit)=>zbZ t m i) (xs:=t.Presses) (spec:=fun k _=>some (cond (k.all (zn2 t.Records.length)) 0 20)) (by omega) (n:=n) (by omega) () (fun m s=>by
    simp [zbZ,zdT,zeP]) (fun m i x k s hx hi hi' hd hrec=>by
    have hr:=hrec ()
    simp only [zbZ,zdT]
    rw [if_pos (by simpa using hi),hx]
    simp only [zam]
    rw [zps t h]
    simp only [zam]
    rw [List.all_cons,show zn2 t.Records.length x=(inR x.Side 0 (2*t.Records.length-1)&&inR x.Time 0 9999) from rfl]
    by_cases h1:inR x.Side 0 (2*(t.Records.length:Int)-1)=true
    ·rw [if_neg (by simp [h1]),zpt]
     simp only [zam]
     unfold zdd
     by_cases h2:inR x.Time 0 9999=true
     ·rw [if_neg (by simp [h2])]
      simp only [h1,h2,Bool.and_self,Bool.true_and]
      exact hr
     ·rw [if_pos (by simp [h2])]
      simp [h1,h2]
    ·rw [if_pos (by simp [h1])]
     unfold zdd
     simp [h1])
  rw [key]
  simp [hl]
 ·rw [if_pos (by simp;omega)]
  simp [hl]
theorem zrK {n:Nat} (t:Tray) (h:t.Records.length<=40) (hp:t.Presses.length<=40) (hn:100<=n):zgJ n t=some (cond (okT t) 0 20):=by
 have key:zcb n t n 0=some (cond (t.Records.all okR&&(decide (t.Presses.length<=12)&&t.Presses.all (zn2 t.Records.length))) 0 20):=by
  refine zlO (F:=fun m i (_:Unit)=>zcb n t m i) (xs:=t.Records) (spec:=fun k _=>some (cond (k.all okR&&(decide (t.Presses.length<=12)&&t.Presses.all (zn2 t.Records.length))) 0 20)) (by omega) (n:=n) (by omega) () (fun m s=>?_) (fun m i x k s hx hi hi' hd hrec=>?_)
  ·simp only [zcb,zeQ]
   rw [if_neg (by simp)]
   unfold zfp
   rw [zn3 t (by omega) hp hn]
   rfl
  ·have hr:=hrec ()
   simp only [zcb,zeQ]
   rw [if_pos (by simpa using hi),hx]
   simp only [zam]
   rw [zfo]
   simp only [zam]
   rw [List.all_cons]
   by_cases h1:inR x.Front 1 999=true
   ·rw [if_neg (by simp [h1]),zfo]
    simp only [zam]
    unfold zdS
    by_cases h2:inR x.Back 1 999=true
    ·rw [if_neg (by simp [h2]),show okR x=true by simp [okR,h1,h2],Bool.true_and]
     exact hr
    ·rw [if_pos (by simp [h2])]
     simp [okR,h1,h2]
   ·rw [if_pos (by simp [h1])]
    unfold zdS
    simp [okR,h1]
 have j1t:zcc n t true=some 20:=rfl
 have j1f:zcc n t false=some (cond (t.Records.all okR&&(decide (t.Presses.length<=12)&&t.Presses.all (zn2 t.Records.length))) 0 20):=key
 unfold zgJ okT
 rw [zfo]
 simp only [zam]
 by_cases h1:inR t.Records.length 1 6=true
 ·rw [if_neg (by simp [h1]),zaW (by omega) (by omega),zfo]
  simp only [zam]
  by_cases h2:inR t.At 0 (t.Records.length-1)=true
  ·rw [if_neg (by simp [h2])]
   have step:(Option.bind (zcq t.Step 0 60) fun r=>zcc n t (!r))=some (cond (inR t.Step 0 60&&(t.Records.all okR&&(decide (t.Presses.length<=12)&&t.Presses.all (zn2 t.Records.length)))) 0 20):=by
    rw [zfo]
    simp only [zam]
    by_cases h4:inR t.Step 0 60=true
    ·rw [h4,show (!true)=false from rfl,j1f,Bool.true_and]
    ·rw [Bool.not_eq_true] at h4;rw [h4,show (!false)=true from rfl,j1t];rfl
   by_cases h3:t.Way=1
   ·rw [if_neg (by simp [h3]),step]
    simp [h1,h2,h3]
   ·rw [if_pos (by simp [h3])]
    by_cases h4:t.Way=-1
    ·rw [if_neg (by simp [h4]),step]
     simp [h1,h2,h4]
    ·rw [if_pos (by simp [h4]),j1t,show (t.Way==1)=false by simpa using h3,show (t.Way==-1)=false by simpa using h4]
     simp [h1,h2]
  ·rw [if_pos (by simp [h2]),j1t]
   simp [h2]
 ·rw [if_pos (by simp [h1]),j1t]
  simp [h1]
structure ValidT (t:Tray):Prop where
 len:1<=t.Records.length/\t.Records.length<=6
 at_:0<=t.At/\t.At<t.Records.length
 way:t.Way=1\/t.Way=-1
 step:0<=t.Step/\t.Step<=60
 recs:∀r,r∈t.Records->okR r=true
 few:t.Presses.length<=12
 press:∀p,p∈t.Presses->zn2 t.Records.length p=true
theorem zrL {t:Tray}:okT t=true↔ValidT t:=by
 constructor
 ·intro h
  simp only [okT,Bool.and_eq_true,Bool.or_eq_true,zb1,decide_eq_true_eq,List.all_eq_true,beq_iff_eq] at h
  obtain ⟨h1,h2,h3,h4,h5,h6,h7⟩:=h
  exact ⟨by omega,by omega,h3,h4,h5,h6,h7⟩
 ·rintro ⟨h1,h2,h3,h4,h5,h6,h7⟩
  simp only [okT,Bool.and_eq_true,Bool.or_eq_true,zb1,decide_eq_true_eq,List.all_eq_true,beq_iff_eq]
  exact ⟨by omega,by omega,h3,h4,h5,h6,h7⟩
theorem zpu {n:Nat} {t:Tray} (V:ValidT t) (hn:100<=n):zhv n t=some 0:=by
 have l1:zcC t n true 0=some 0:=by
  refine zpj (fun m i s=>zcC t m s i) t.Presses (fun _ _=>some 0) (fun k s=>s=true/\∀p,p∈k->zn2 t.Records.length p=true) (by have:=V.few;omega) (fun m s I=>?_) (fun m i x k s I hx hi hi' hd hrec=>?_) t.Presses 0 n true (by omega) rfl (by have:=V.few;omega) ⟨rfl,V.press⟩
  ·obtain ⟨rfl,_⟩:=I
   simp [zcC,ze3,zfJ]
  ·obtain ⟨rfl,I⟩:=I
   have hp:=I x (List.mem_cons_self ..)
   simp only [zn2,Bool.and_eq_true,zb1] at hp
   obtain ⟨⟨a1,a2⟩,a3,a4⟩:=hp
   have:=V.len
   simp only [zcC,ze3]
   rw [if_pos (by simpa using hi),hx]
   simp only [zam]
   rw [if_pos trivial]
   unfold zhW zeG
   rw [if_pos (by simpa using a1),zmx t (by omega)]
   simp only [zam]
   rw [if_pos (by simp;omega)]
   unfold zhX zeH
   rw [if_pos (by simpa using a3)]
   simp only [zam]
   unfold zej
   rw [show decide (x.Time<=9999)=true by simpa using a4]
   exact hrec true ⟨rfl,fun p hp=>I p (List.mem_cons_of_mem _ hp)⟩
 have l2:zcD n t n true 0=some 0:=by
  refine zpj (fun m i s=>zcD n t m s i) t.Records (fun _ _=>some 0) (fun k s=>s=true/\∀p,p∈k->okR p=true) (by have:=V.len;omega) (fun m s I=>?_) (fun m i x k s I hx hi hi' hd hrec=>?_) t.Records 0 n true (by omega) rfl (by have:=V.len;omega) ⟨rfl,V.recs⟩
  ·obtain ⟨rfl,_⟩:=I
   simp only [zcD,ze4]
   rw [if_neg (by simp)]
   exact l1
  ·obtain ⟨rfl,I⟩:=I
   have hp:=I x (List.mem_cons_self ..)
   simp only [okR,Bool.and_eq_true,zb1] at hp
   obtain ⟨⟨a1,a2⟩,a3,a4⟩:=hp
   simp only [zcD,ze4]
   rw [if_pos (by simpa using hi),hx]
   simp only [zam]
   rw [if_pos trivial,if_pos (by simpa using a1),if_pos (by simpa using a2),if_pos (by simpa using a3)]
   unfold zdh
   rw [show decide (x.Back<=999)=true by simpa using a4]
   exact hrec true ⟨rfl,fun p hp=>I p (List.mem_cons_of_mem _ hp)⟩
 have h1:=V.len
 have h2:=V.at_
 have h3:=V.step
 have h4:=V.few
 have j1:zbt n t (decide ((t.Presses.length:Int)<=12))=some 0:=by
  rw [show decide ((t.Presses.length:Int)<=12)=true by simp;omega]
  exact l2
 unfold zhv
 rw [if_pos (by simp;omega),if_pos (by simp;omega),if_pos (by simp;omega),if_pos (by simp;omega)]
 rcases V.way with h | h
 ·rw [if_pos (by simp [h]),if_pos (by simp;omega),if_pos (by simp;omega)]
  exact j1
 ·rw [if_neg (by simp [h]),if_pos (by simp [h]),if_pos (by simp;omega),if_pos (by simp;omega)]
  exact j1
structure PlaysOk (t:Tray) (l:List TrayPlay):Prop where
 few:l.length<=t.Presses.length
 side:∀y,y∈l->zho t.Records.length y.Side
 all:∀s,quT t.Presses s↔plT l s
 one:(∀p,p∈t.Presses->p.Time<=0)->(l.map (·.Side)).Nodup
theorem zqx (l:List TrayPress) (h:l.length<=40):zbU l=some l:=by
 unfold zbU
 rw [zfX (by simp;omega)]
 rfl
theorem zpv {n:Nat} {t:Tray} (V:ValidT t) (hn:10000<=n) {zs:List TrayPress} (hz:zs.Perm t.Presses) {sp:List Spell_} (hsp:sp.length<=10) {sd:Int} :
  ∃r,goF n n (⟨t,zs,List.replicate (2*t.Records.length) false,0,⟨t.At,t.Way,sd⟩,⟨sp,[],0,0⟩⟩:Carriage_)=some r/\PlaysOk t r.plays:=by
 have hl:=hz.length_eq
 have hrep:∀s,¬znd (List.replicate (2*t.Records.length) false) s:=by
  rintro s ⟨i,_,hi⟩
  rw [List.getElem?_replicate] at hi
  split at hi
  ·cases hi
  ·cases hi
 have hcount:(List.replicate (2*t.Records.length) false).count true=0:=by
  rw [List.count_eq_zero]
  intro h
  have:=(List.mem_replicate.1 h).2
  cases this
 have hV1:=V.len
 have hV2:=V.few
 have I:Inv t.Records.length t.Presses.length (quT t.Presses) (∀p,p∈t.Presses->p.Time<=0) (⟨t,zs,List.replicate (2*t.Records.length) false,0,⟨t.At,t.Way,sd⟩,⟨sp,[],0,0⟩⟩:Carriage_):=by
  refine ⟨rfl,⟨V.at_,V.way⟩,fun p hp=>?_,by simp,?_,(fun y hy=>by cases hy),fun s=>?_,fun hz0=>⟨fun p hp=>hz0 p (hz.mem_iff.1 hp),.inr rfl,by simp,fun y hy=>by cases hy⟩⟩
  ·have:=V.press p (hz.mem_iff.1 hp)
   simp only [zn2,Bool.and_eq_true,zb1] at this
   exact ⟨by omega,by omega⟩
  ·show 0+(zs.length+_)<=_
   rw [hcount,hl]
   omega
  ·constructor
   ·rintro ⟨p,hp,e⟩
    exact .inr (.inr ⟨p,hz.mem_iff.2 hp,e⟩)
   ·rintro (⟨y,hy,_⟩ | h | ⟨p,hp,e⟩)
    ·cases hy
    ·exact absurd h (hrep s)
    ·exact ⟨p,hz.mem_iff.1 hp,e⟩
 obtain ⟨d,D⟩:=znf _ hV1.2 I.pos I.pins
 have hle:=D.le
 have hw:wgt (⟨t,zs,List.replicate (2*t.Records.length) false,0,⟨t.At,t.Way,sd⟩,⟨sp,[],0,0⟩⟩:Carriage_)*(2*t.Records.length+2)+d<=400:=by
  have e1:wgt (⟨t,zs,List.replicate (2*t.Records.length) false,0,⟨t.At,t.Way,sd⟩,⟨sp,[],0,0⟩⟩:Carriage_)=2*zs.length:=by
   show 2*zs.length+_=_
   rw [hcount]
   rfl
  rw [e1,hl]
  have h1:2*t.Presses.length*(2*t.Records.length+2)<=24*14:=Nat.mul_le_mul (by omega) (by omega)
  omega
 obtain ⟨st',e,I',h1,h2⟩:=zrJ (n:=n) (by omega) hV1.2 (by omega) (by omega) 400 _ d n I D hw (by omega) (by show sp.length+_<_;omega)
 refine ⟨_,e,⟨?_,I'.side,fun s=>?_,fun hz0=>(I'.one hz0).2.2.1⟩⟩
 ·have:=I'.cnt
  omega
 ·rw [I'.all s,h1]
  constructor
  ·rintro (h | ⟨i,_,hi⟩ | ⟨p,hp,_⟩)
   ·exact h
   ·exact absurd (List.mem_of_getElem? hi) h2
   ·cases hp
  ·exact .inl
theorem zrM {n:Nat} {t:Tray} (V:ValidT t) (hn:10000<=n):∃r,zie n t=some r/\PlaysOk t r.plays:=by
 have h1:=V.len
 have h2:=V.few
 unfold zie
 rw [zqx _ (by omega)]
 simp only [zam]
 have hm:mkN (2*t.Records.length) (w64 (2*(t.Records.length:Int))) false=some (List.replicate (2*t.Records.length) false):=by
  rw [zmx t (by omega)]
  unfold mkN
  rw [if_pos (by omega)]
 by_cases hl:t.Presses.length=0
 ·rw [if_pos (by simp [hl]),hm]
  simp only [zam]
  rw [zqr (by omega)]
  simp only [zam]
  rw [mark_eq _ _ (by show 0<1048576;decide)]
  simp only [zam]
  have he:t.Presses=[]:=List.eq_nil_of_length_eq_zero hl
  exact zpv V hn (zs:=[]) (by rw [he]) (by simp)
 ·rw [if_neg (by simpa using hl),hm]
  simp only [zam]
  obtain ⟨zs,hz,e⟩:=zrI (n:=n) (by omega) t.Presses (by omega) (by omega)
  rw [e]
  simp only [zam]
  rw [zpm hz.length_eq (by omega)]
  simp only [zam]
  rw [mark_eq _ _ (by show 0<1048576;decide)]
  simp only [zam]
  rw [zky]
  exact zpv V hn hz (by simp)
theorem zqy {n:Nat} {t:Tray} (V:ValidT t) (hn:10000<=n):∃l,zhw n t=some (l,0)/\PlaysOk t l:=by
 obtain ⟨r,e,h⟩:=zrM V hn
 refine ⟨r.plays,?_,h⟩
 unfold zhw
 rw [zpu V (by omega)]
 simp only [zam]
 rw [if_neg (by decide),e]
 rfl
theorem zrN (t:Tray):zic t=some (decide (t.Records.length>40) || decide (t.Presses.length>40)):=by
 unfold zic zfy
 by_cases h:t.Records.length>40
 ·rw [if_pos (by simp;omega)]
  simp [h]
 ·rw [if_neg (by simp;omega)]
  have:decide ((t.Presses.length:Int)>40)=decide (t.Presses.length>40):=by
   by_cases h2:t.Presses.length>40
   ·rw [show decide (t.Presses.length>40)=true by simpa using h2,show decide ((t.Presses.length:Int)>40)=true by simp;omega]
   ·rw [show decide (t.Presses.length>40)=false by simpa using h2,show decide ((t.Presses.length:Int)>40)=false by simp;omega]
  rw [this]
  simp [h]
theorem zqz (t:Tray) (h1:t.Records.length<=40) (h2:t.Presses.length<=40):zhu t=some t:=by
 unfold zhu
 rw [zfX (by simp;omega)]
 simp only [zam]
 rw [zfX (by simp;omega)]
 rfl
namespace Pu
theorem zuj (pa pb:List Int) (hp:pa.length=pb.length):∀(l k:List Int) (m:Nat),l.length=k.length->(pa++l).length<1048576->l.length<m ->
  zbd (pa++l) (pb++k) m (pa.length:Int)=some (decide (l=k)):=by
 intro l
 induction l generalizing pa pb with
 | nil =>
  intro k m hk hs hm
  obtain ⟨m,rfl⟩:∃k,m=k+1:=⟨m-1,by omega⟩
  have:k=[]:=List.eq_nil_of_length_eq_zero (by simpa using hk.symm)
  subst this
  simp [zbd,zcA,zdx]
 | cons x l ih =>
  intro k m hk hs hm
  obtain ⟨m,rfl⟩:∃k,m=k+1:=⟨m-1,by omega⟩
  cases k with
  | nil=>simp at hk
  | cons y k =>
   simp at hk hs hm
   simp only [zbd,zcA]
   rw [if_pos (by simp<;>omega),zeV,show idx (pb++y::k) (pa.length:Int)=some y by rw [hp,zeV]]
   simp only [Option.bind_some]
   by_cases hb:x=y
   ·subst hb
    have h:=ih (pa++[x]) (pb++[x]) (by simp [hp]) k m hk (by simp<;>omega) (by omega)
    rw [if_neg (by simp),zaW (by omega) (by omega)]
    simpa using h
   ·rw [if_pos (by simpa using hb)]
    simp [hb]
theorem SameInts_eq {n:Nat} (a b:List Int) (hs:a.length<1048576) (hn:a.length<n):zdm n a b=some (decide (a=b)):=by
 unfold zdm
 by_cases h:a.length=b.length
 ·rw [if_neg (by simp [h])]
  exact zuj [] [] rfl a b n h (by simpa using hs) hn
 ·rw [if_pos (by simp<;>omega)]
  have:a≠b:=fun e=>h (by rw [e])
  simp [this]
theorem Copy_eq (p:Pulse) (hs:p.Times.length<1048576):zhy p=some p:=by
 unfold zhy
 rw [zfX (by simp<;>omega)]
 rfl
theorem within_eq (a b c:Int):zcE a b c=some (inR a b c):=by
 unfold zcE zdQ inR
 by_cases h:b<=a<;>simp [h]
theorem Within_eq (a b c:Int):zd7 a b c=some (inR a b c):=by
 unfold zd7 zdy inR
 by_cases h:b<=a<;>simp [h]
theorem zkz (a b c:Int):zcI a b c=some (inR a b c):=by simp [zcI,Within_eq]
def rise:Option Int->List Int->Bool
 | _,[]=>true
 | prev,x::l=>inR x 0 99999&&(match prev with | none=>true | some y=>decide (y<x))&&rise (some x) l
theorem zjK (pre:List Int):pre=[]\/∃q y,pre=q++[y]:=by
 rcases List.eq_nil_or_concat pre with h | ⟨q,y,h⟩
 ·exact .inl h
 ·exact .inr ⟨q,y,by simpa using h⟩
theorem zni (q:List Int) (y:Int) (l:List Int) (h:(q++[y]++l).length<1048576):idx (q++[y]++l) (w64 (((q++[y]).length:Int)-1))=some y:=by
 simp at h
 rw [zaW (by simp<;>omega) (by simp<;>omega),show (((q++[y]).length:Int)-1)=(q.length:Int) by simp,show q++[y]++l=q++y::l by simp,zeV]
theorem zmy (p:Pulse):∀(l pre:List Int) (m:Nat),p.Times=pre++l->p.Times.length<1048576->l.length<m ->
  zci p m (pre.length:Int)=some (cond (rise pre.getLast? l) 0 130):=by
 intro l
 induction l with
 | nil =>
  intro pre m he hs hm
  obtain ⟨m,rfl⟩:∃k,m=k+1:=⟨m-1,by omega⟩
  simp [zci,zel,ze5,he,rise]
 | cons x l ih =>
  intro pre m he hs hm
  simp at hm
  have hl:p.Times.length=pre.length+(l.length+1):=by simp [he]
  obtain ⟨m,rfl⟩:∃k,m=k+1:=⟨m-1,by omega⟩
  have h:=ih (pre++[x]) m (by simp [he]) hs (by omega)
  rw [show (((pre++[x]).length:Nat):Int)=(pre.length:Int)+1 by simp,List.getLast?_concat] at h
  simp only [zci,zel]
  rw [if_pos (by simp<;>omega),show idx p.Times (pre.length:Int)=some x by rw [he,zeV]]
  simp only [Option.bind_some,within_eq,rise]
  by_cases hr:inR x 0 99999=true
  ·rw [if_neg (by simp [hr])]
   rcases zjK pre with rfl | ⟨q,y,rfl⟩
   ·rw [if_neg (by simp)]
    simp only [zcH]
    rw [if_neg (by simp),zaW (by simp) (by simp),h]
    simp [hr]
   ·rw [if_pos (by simp<;>omega),show idx p.Times (w64 (((q++[y]).length:Int)-1))=some y by rw [he];exact zni q y _ (by rw [←he];exact hs)]
    simp only [Option.bind_some,zcH,List.getLast?_concat]
    by_cases hb:x<=y
    ·rw [if_pos (by simpa using hb)]
     simp [hr,show ¬y<x by omega]
    ·rw [if_neg (by simpa using hb),zaW (by omega) (by omega),h]
     simp [hr,show y<x by omega]
  ·have hr':inR x 0 99999=false:=by simpa using hr
   rw [if_pos (by simp [hr'])]
   simp [zcH,hr']
theorem zlQ:∀(l pre:List Int) (m:Nat),(pre++l).length<1048576->l.length<m ->
  zcl (pre++l) 0 99999 m (pre.length:Int)=some (rise pre.getLast? l):=by
 intro l
 induction l with
 | nil =>
  intro pre m hs hm
  obtain ⟨m,rfl⟩:∃k,m=k+1:=⟨m-1,by omega⟩
  simp [zcl,zeq,ze7,rise]
 | cons x l ih =>
  intro pre m hs hm
  obtain ⟨m,rfl⟩:∃k,m=k+1:=⟨m-1,by omega⟩
  have h:=ih (pre++[x]) m (by simpa using hs) (by simp at hm;omega)
  rw [show (((pre++[x]).length:Nat):Int)=(pre.length:Int)+1 by simp,List.getLast?_concat,show pre++[x]++l=pre++x::l by simp] at h
  simp at hs hm
  simp only [zcl,zeq]
  rw [if_pos (by simp<;>omega),zeV]
  simp only [Option.bind_some,Within_eq,rise]
  by_cases hr:inR x 0 99999=true
  ·rw [if_neg (by simp [hr])]
   rcases zjK pre with rfl | ⟨q,y,rfl⟩
   ·rw [if_neg (by simp)]
    simp only [zcJ]
    rw [if_neg (by simp),zaW (by simp) (by simp),h]
    simp [hr]
   ·rw [if_pos (by simp<;>omega),zni q y (x::l) (by simp at hs ⊢;omega)]
    simp only [Option.bind_some,zcJ,List.getLast?_concat]
    by_cases hb:x<=y
    ·rw [if_pos (by simpa using hb)]
     simp [hr,show ¬y<x by omega]
    ·rw [if_neg (by simpa using hb),zaW (by omega) (by omega),h]
     simp [hr,show y<x by omega]
  ·have hr':inR x 0 99999=false:=by simpa using hr
   rw [if_pos (by simp [hr'])]
   simp [zcJ,hr']
def valid (p:Pulse):Bool:=inR p.Letters 1 5&&inR p.Numbers 1 5&&inR p.Pitch 1 99&&inR p.Slack 0 (p.Pitch-1)&&inR p.Gap (p.Pitch+p.Slack+1) (p.Pause-1)&&inR p.Pause 0 999&&inR p.Sparks 0 3&&decide (p.Times.length<=24)&&rise none p.Times
theorem zuk {a b:Bool} {x y:Option Int}:(if (!a)=true then x else y)=cond a y x:=by cases a<;>rfl
def zmz (p:Pulse):List An163:=[⟨p.Letters,1,5⟩,⟨p.Numbers,1,5⟩,⟨p.Pitch,1,99⟩,⟨p.Slack,0,w64 (p.Pitch-1)⟩,⟨p.Gap,w64 ((w64 (p.Pitch+p.Slack))+1),w64 (p.Pause-1)⟩,⟨p.Pause,0,999⟩,⟨p.Sparks,0,3⟩,⟨(p.Times.length:Int),0,24⟩]
theorem ze1 (n:Nat) (p:Pulse) (k v:Nat) (x:An163) (hx:(zmz p)[v]?=some x) (hv:v<8) :
  zbD n p (k+1) (v:Int)=cond (inR x.n x.low x.high) (zbD n p k ((v+1:Nat):Int)) (some 130):=by
 simp only [zbD,zem]
 rw [if_pos (by simp;omega)]
 have:idx (zmz p) (v:Int)=some x:=by unfold idx;rw [if_pos (by omega),Int.toNat_natCast,hx]
 have h2:=this
 unfold zmz at h2
 rw [h2]
 simp only [Option.bind_some,within_eq,zuk]
 rw [zaW (by omega) (by omega)]
 cases inR x.n x.low x.high<;>simp
theorem Check_eq {n:Nat} (p:Pulse) (hs:p.Times.length<1048576) (hn:p.Times.length<n) (hn2:10<=n):zfz n p=some (cond (valid p) 0 130):=by
 obtain ⟨k,hk⟩:∃k,n=k+9:=⟨n-9,by omega⟩
 have ht:=zmy p p.Times [] n rfl hs hn
 simp only [List.getLast?_nil] at ht
 unfold zfz
 have h0:zbD n p n 0=zbD n p (k+8+1) ((0:Nat):Int):=by rw [hk];rfl
 rw [h0,ze1 n p (k+8) 0 _ rfl (by omega),ze1 n p (k+7) 1 _ rfl (by omega),ze1 n p (k+6) 2 _ rfl (by omega),ze1 n p (k+5) 3 _ rfl (by omega),
  ze1 n p (k+4) 4 _ rfl (by omega),ze1 n p (k+3) 5 _ rfl (by omega),ze1 n p (k+2) 6 _ rfl (by omega),ze1 n p (k+1) 7 _ rfl (by omega)]
 have h8:zbD n p (k+1) ((7+1:Nat):Int)=some (cond (rise none p.Times) 0 130):=by
  simp only [zbD,zem]
  rw [if_neg (by decide)]
  exact ht
 rw [h8]
 simp only [valid]
 cases h1:inR p.Letters 1 5
 ·simp
 cases h2:inR p.Numbers 1 5
 ·simp
 cases h3:inR p.Pitch 1 99
 ·simp
 have b3:=zb1.1 h3
 rw [zaW (x:=p.Pitch-1) (by omega) (by omega)]
 cases h4:inR p.Slack 0 (p.Pitch-1)
 ·simp
 have b4:=zb1.1 h4
 rw [zaW (x:=p.Pitch+p.Slack) (by omega) (by omega),zaW (x:=p.Pitch+p.Slack+1) (by omega) (by omega)]
 cases h6:inR p.Pause 0 999
 ·cases inR p.Gap (p.Pitch+p.Slack+1) (w64 (p.Pause-1))<;>simp
 have b6:=zb1.1 h6
 rw [zaW (x:=p.Pause-1) (by omega) (by omega)]
 have h7:inR (p.Times.length:Int) 0 24=decide (p.Times.length<=24):=by
  unfold inR
  by_cases h:p.Times.length<=24
  ·simp [h];omega
  ·simp [h];omega
 simp only [h7]
 cases inR p.Gap (p.Pitch+p.Slack+1) (p.Pause-1)<;>cases inR p.Sparks 0 3<;>cases decide (p.Times.length<=24)<;>simp
theorem rCheck_eq {n:Nat} (p:Pulse) (hs:p.Times.length<1048576) (hn:p.Times.length<n):zf1 n p=some (cond (valid p) 0 130):=by
 have ht:=zlQ p.Times [] n (by simpa using hs) hn
 simp only [List.getLast?_nil,List.nil_append,List.length_nil] at ht
 replace ht:zhh n p.Times 0 99999=some (rise none p.Times):=ht
 unfold zf1
 simp only [zkz,ht,Option.bind_some,zbE,valid]
 cases h1:inR p.Letters 1 5
 ·simp
 cases h2:inR p.Numbers 1 5
 ·simp
 cases h3:inR p.Pitch 1 99
 ·simp
 have b3:=zb1.1 h3
 rw [zaW (x:=p.Pitch-1) (by omega) (by omega)]
 cases h4:inR p.Slack 0 (p.Pitch-1)
 ·simp
 have b4:=zb1.1 h4
 rw [zaW (x:=p.Pitch+p.Slack) (by omega) (by omega),zaW (x:=p.Pitch+p.Slack+1) (by omega) (by omega)]
 cases h6:inR p.Pause 1 999
 ·cases h5:inR p.Gap (p.Pitch+p.Slack+1) (p.Pause-1)
  ·simp
  ·have b5:=zb1.1 h5
   have:inR p.Pause 0 999=false:=by
    cases hh:inR p.Pause 0 999 with
    | false=>rfl
    | true =>
     have b:=zb1.1 hh
     have:inR p.Pause 1 999=true:=zb1.2 ⟨by omega,b.2⟩
     rw [this] at h6
     cases h6
   simp [this]
 have b6:=zb1.1 h6
 have h6':inR p.Pause 0 999=true:=zb1.2 ⟨by omega,b6.2⟩
 rw [zaW (x:=p.Pause-1) (by omega) (by omega),h6']
 by_cases hl:p.Times.length<=24
 ·rw [if_neg (show ¬decide ((p.Times.length:Int)>24)=true by simp;omega)]
  cases inR p.Gap (p.Pitch+p.Slack+1) (p.Pause-1)<;>cases inR p.Sparks 0 3<;>cases rise none p.Times<;>simp [hl]
 ·rw [if_pos (show decide ((p.Times.length:Int)>24)=true by simp;omega)]
  cases inR p.Gap (p.Pitch+p.Slack+1) (p.Pause-1)<;>cases inR p.Sparks 0 3<;>simp [hl]
theorem zcT {p:Pulse} (h:valid p=true):(1<=p.Letters/\p.Letters<=5)/\(1<=p.Numbers/\p.Numbers<=5)/\(1<=p.Pitch/\p.Pitch<=99)/\(0<=p.Slack/\p.Slack<=p.Pitch-1)/\(p.Pitch+p.Slack+1<=p.Gap/\p.Gap<=p.Pause-1) /\
  (0<=p.Pause/\p.Pause<=999)/\(0<=p.Sparks/\p.Sparks<=3)/\p.Times.length<=24/\rise none p.Times=true:=by
 simp only [valid,Bool.and_eq_true,zb1,decide_eq_true_eq] at h
 obtain ⟨⟨⟨⟨⟨⟨⟨⟨h1,h2⟩,h3⟩,h4⟩,h5⟩,h6⟩,h7⟩,h8⟩,h9⟩:=h
 exact ⟨h1,h2,h3,h4,h5,h6,h7,h8,h9⟩
def isSel (p:Pulse) (x:Int):Bool:=inR x 0 (w64 (w64 (p.Letters*p.Numbers)-1))
theorem zpw (aF:Int->Unit->Option (Bool×Unit)) (f:Int->Bool) (hf:∀x,aF x ()=some (f x,())):∀(l pre:List Int) (m:Nat),(pre++l).length<1048576->l.length<m ->
  ∃r,zbo (pre++l) aF m (pre.length:Int) ()=some (r,())/\decide (r≥0)=l.any f:=by
 intro l
 induction l with
 | nil =>
  intro pre m hs hm
  obtain ⟨m,rfl⟩:∃k,m=k+1:=⟨m-1,by omega⟩
  exact ⟨-1,by simp [zbo,zcF,zcU],by simp⟩
 | cons c l ih =>
  intro pre m hs hm
  obtain ⟨m,rfl⟩:∃k,m=k+1:=⟨m-1,by omega⟩
  obtain ⟨r,h1,h2⟩:=ih (pre++[c]) m (by simpa using hs) (by simp at hm;omega)
  rw [show (((pre++[c]).length:Nat):Int)=(pre.length:Int)+1 by simp,show pre++[c]++l=pre++c::l by simp] at h1
  simp at hs hm
  simp only [zbo,zcF]
  rw [if_pos (by simp<;>omega),zeV]
  simp only [Option.bind_some,hf]
  by_cases hb:f c=true
  ·exact ⟨pre.length,by simp [hb],by simp [hb]⟩
  ·refine ⟨r,?_,by rw [h2];simp [hb]⟩
   rw [zaW (by omega) (by omega),if_neg hb]
   exact h1
theorem zlR {n:Nat} (aF:Int->Unit->Option (Bool×Unit)) (f:Int->Bool) (hf:∀x,aF x ()=some (f x,())) (l:List Int) (hs:l.length<1048576) (hn:l.length<n) :
  zcV n aF l ()=some (l.any f,()):=by
 obtain ⟨r,h1,h2⟩:=zpw aF f hf l [] n (by simpa using hs) hn
 have h1:zeA n aF l ()=some (r,()):=h1
 simp only [zcV,h1,Option.bind_some,h2]
theorem IsList_eq {n:Nat} (p:Pulse) (a1:List Int) (hs:a1.length<1048576) (hn:a1.length<n):zhi n p a1=some (a1.all (isSel p)&&decide (a1.length<=24)):=by
 have key:∀(l pre:List Int) (m:Nat),a1=pre++l->l.length<m->zc4 p a1 m (pre.length:Int)=some (l.all (isSel p)&&decide (a1.length<=24)):=by
  intro l
  induction l with
  | nil =>
   intro pre m he hm
   obtain ⟨m,rfl⟩:∃k,m=k+1:=⟨m-1,by omega⟩
   simp only [zc4,zer,ze8]
   rw [if_neg (by simp [he])]
   simp<;>omega
  | cons x l ih =>
   intro pre m he hm
   simp at hm
   have hl:a1.length=pre.length+(l.length+1):=by simp [he]
   obtain ⟨m,rfl⟩:∃k,m=k+1:=⟨m-1,by omega⟩
   have h:=ih (pre++[x]) m (by simp [he]) (by omega)
   rw [show (((pre++[x]).length:Nat):Int)=(pre.length:Int)+1 by simp] at h
   simp only [zc4,zer]
   rw [if_pos (by simp<;>omega),show idx a1 (pre.length:Int)=some x by rw [he,zeV],zaW (by omega) (by omega),h]
   simp only [Option.bind_some,zfl,zkz,List.all_cons]
   show (if (!isSel p x)=true then _ else _)=_
   cases isSel p x<;>simp
 exact key a1 [] n rfl hn
def zj2 (pitch:Int):Nat->Int->List Int->Int->List Int×Int
 | 0,_,out,t=>(out,t)
 | k+1,d,out,t=>zj2 pitch k pitch (out++[if out=[] then t else t+d]) (if out=[] then t else t+d)
theorem zk6 (pitch:Int):∀(k:Nat) (d:Int) (out:List Int) (t:Int),(zj2 pitch k d out t).1.length=out.length+k
 | 0,_,_,_=>rfl
 | k+1,d,out,t=>by simp only [zj2,zk6 pitch k];simp;omega
theorem zjL (pitch:Int) (hp:0<=pitch/\pitch<=999):∀(k:Nat) (d:Int) (out:List Int) (t:Int),0<=d->d<=999->t<=(zj2 pitch k d out t).2/\(zj2 pitch k d out t).2<=t+999*k
 | 0,_,_,_,_,_=>by simp [zj2]
 | k+1,d,out,t,h1,h2=>by
  have hb:t<=(if out=[] then t else t+d)/\(if out=[] then t else t+d)<=t+d:=by split<;>omega
  have h:=zjL pitch hp k pitch (out++[if out=[] then t else t+d]) (if out=[] then t else t+d) hp.1 hp.2
  simp only [zj2]
  generalize (if out=[] then t else t+d)=T at hb h ⊢
  push_cast
  omega
theorem zwm (p:Pulse) (hp:0<=p.Pitch/\p.Pitch<=999) (a1:Int):∀(k m i:Nat) (d:Int) (out:List Int) (t:Int),a1=i+k->k<m->i+k<1000->out.length+k<100000->0<=d->d<=999->0<=t->t+999*k<1000000000 ->
  zbh a1 p m d (i:Int) out t=some ((),zj2 p.Pitch k d out t):=by
 intro k
 induction k with
 | zero =>
  intro m i d out t ha hm hi ho h1 h2 h3 h4
  obtain ⟨m,rfl⟩:∃k,m=k+1:=⟨m-1,by omega⟩
  simp only [zbh,zdt,zj2]
  rw [if_neg (by simp;omega)]
 | succ k ih =>
  intro m i d out t ha hm hi ho h1 h2 h3 h4
  obtain ⟨m,rfl⟩:∃k,m=k+1:=⟨m-1,by omega⟩
  have hw:w64 (t+d)=t+d:=zaW (by omega) (by omega)
  simp only [zbh,zdt,zdj,zj2]
  rw [if_pos (by simp;omega),hw]
  have key:∀t',0<=t'->t'<=t+d->(Option.bind (app out [t']) fun l9=>zbh a1 p m p.Pitch (w64 ((i:Int)+1)) l9 t')=some ((),zj2 p.Pitch k p.Pitch (out++[t']) t'):=fun t' g1 g2=>by
   rw [zfX (by simp;omega)]
   simp only [Option.bind_some]
   rw [zaW (by omega) (by omega)]
   have h:=ih m (i+1) p.Pitch (out++[t']) t' (by push_cast;push_cast at ha;omega) (by omega) (by omega) (by simp;omega) hp.1 hp.2 g1 (by push_cast at h4;omega)
   push_cast at h
   exact h
  by_cases ho:out=[]
  ·rw [if_neg (by simp [ho])]
   simp only [ho,if_true]
   have h:=key t h3 (by omega)
   rw [ho] at h
   exact h
  ·rw [if_pos (by have:=List.length_pos_iff.2 ho;simp;omega)]
   simp only [ho,if_false]
   exact key (t+d) (by omega) (by omega)
def wr (p:Pulse):List Int->List Int->Int->List Int×Int
 | [],out,t=>(out,t)
 | x::l,out,t =>
  let s1:=zj2 p.Pitch (x / p.Numbers+1).toNat p.Pause out t
  let s2:=zj2 p.Pitch (x % p.Numbers+1).toNat p.Gap s1.1 s1.2
  wr p l s2.1 s2.2
theorem zhE {p:Pulse} (hv:valid p=true) {x:Int} (hx:isSel p x=true):0<=x/\x<p.Letters*p.Numbers/\x<25/\(0<=x / p.Numbers/\x / p.Numbers<5)/\(0<=x % p.Numbers/\x % p.Numbers<5):=by
 obtain ⟨h1,h2,_⟩:=zcT hv
 have hm:1<=p.Letters*p.Numbers/\p.Letters*p.Numbers<=25:=by
  constructor
  ·have:=Int.mul_le_mul h1.1 h2.1 (by omega) (by omega);simpa using this
  ·have:=Int.mul_le_mul h1.2 h2.2 (by omega) (by omega);simpa using this
 simp only [isSel] at hx
 rw [zaW (x:=p.Letters*p.Numbers) (by omega) (by omega),zaW (by omega) (by omega),zb1] at hx
 have hlt:x<p.Letters*p.Numbers:=by omega
 refine ⟨hx.1,hlt,by omega,⟨Int.ediv_nonneg hx.1 (by omega),?_⟩,⟨Int.emod_nonneg _ (by omega),?_⟩⟩
 ·have:=Int.ediv_lt_of_lt_mul (by omega) hlt
  omega
 ·have:=Int.emod_lt_of_pos x (show 0<p.Numbers by omega)
  omega
theorem zqA {n:Nat} (p:Pulse) (hv:valid p=true) (hn:100<=n) (a1:List Int) (ha:a1.length<=1000) (hsel:∀x,x∈a1->isSel p x=true):∀(l pre:List Int) (m:Nat) (out:List Int) (t:Int),a1=pre++l->l.length<m ->
  out.length<=20*pre.length->0<=t->t<=100000+20000*pre.length->zcK n p a1 m (pre.length:Int) out t=zeb (wr p l out t).1 (wr p l out t).2:=by
 obtain ⟨v1,v2,v3,v4,v5,v6,_⟩:=zcT hv
 intro l
 induction l with
 | nil =>
  intro pre m out t he hm ho h3 h4
  obtain ⟨m,rfl⟩:∃k,m=k+1:=⟨m-1,by omega⟩
  simp only [zcK,zes,wr]
  rw [if_neg (by simp [he])]
 | cons x l ih =>
  intro pre m out t he hm ho h3 h4
  simp at hm
  have hl:a1.length=pre.length+(l.length+1):=by simp [he]
  obtain ⟨m,rfl⟩:∃k,m=k+1:=⟨m-1,by omega⟩
  obtain ⟨b1,b2,b3,b4,b5⟩:=zhE hv (hsel x (by simp [he]))
  simp only [zcK,zes,wr]
  rw [if_pos (by simp<;>omega),show idx a1 (pre.length:Int)=some x by rw [he,zeV]]
  simp only [Option.bind_some]
  rw [zqW b1 (by omega) (by omega)]
  simp only [Option.bind_some]
  rw [zqX b1 (by omega),zaW (x:=x / p.Numbers+1) (by omega) (by omega)]
  have e1:zd9 n p.Pause (x / p.Numbers+1) p (out,t)=some ((),zj2 p.Pitch (x / p.Numbers+1).toNat p.Pause out t) :=
   zwm p (by omega) _ (x / p.Numbers+1).toNat n 0 p.Pause out t (by simp;omega) (by omega) (by omega) (by omega) (by omega) (by omega) h3 (by omega)
  rw [e1]
  simp only [Option.bind_some]
  have t1:=zjL p.Pitch (by omega) (x / p.Numbers+1).toNat p.Pause out t (by omega) (by omega)
  have l1:=zk6 p.Pitch (x / p.Numbers+1).toNat p.Pause out t
  generalize zj2 p.Pitch (x / p.Numbers+1).toNat p.Pause out t=s1 at t1 l1 ⊢
  rw [zaW (x:=x % p.Numbers+1) (by omega) (by omega)]
  have e2:zd9 n p.Gap (x % p.Numbers+1) p (s1.1,s1.2)=some ((),zj2 p.Pitch (x % p.Numbers+1).toNat p.Gap s1.1 s1.2) :=
   zwm p (by omega) _ (x % p.Numbers+1).toNat n 0 p.Gap s1.1 s1.2 (by simp;omega) (by omega) (by omega) (by omega) (by omega) (by omega) (by omega) (by omega)
  rw [e2]
  simp only [Option.bind_some]
  have t2:=zjL p.Pitch (by omega) (x % p.Numbers+1).toNat p.Gap s1.1 s1.2 (by omega) (by omega)
  have l2:=zk6 p.Pitch (x % p.Numbers+1).toNat p.Gap s1.1 s1.2
  generalize zj2 p.Pitch (x % p.Numbers+1).toNat p.Gap s1.1 s1.2=s2 at t2 l2 ⊢
  rw [zaW (by omega) (by omega)]
  have h:=ih (pre++[x]) m s2.1 s2.2 (by simp [he]) (by omega) (by simp;omega) (by omega) (by simp;omega)
  rw [show (((pre++[x]).length:Nat):Int)=(pre.length:Int)+1 by simp] at h
  exact h
theorem zlS (t:Int):ze9 t=some (inR t 0 99999):=by simp [ze9,within_eq]
theorem c1_eq (p:Pulse) (x:Int):zd8 x (⟨p⟩:Train_)=some (!isSel p x):=by simp [zd8,zdz,within_eq,isSel]
theorem zrO (l:List Int) (f:Int->Bool):l.any (fun x=>!f x)=!l.all f:=by
 induction l with
 | nil=>rfl
 | cons a l ih=>simp only [List.any_cons,List.all_cons,ih,Bool.not_and]
end Pu
namespace Pu
def zj3 (p:Pulse) (g h:Int):Int:=(g-1)*p.Numbers+h-1
def zpx (p:Pulse) (g h:Int):Bool:=inR g 1 p.Letters&&inR h 1 p.Numbers
def zlT (p:Pulse) (d:Int):Bool:=inR d (p.Pitch-p.Slack) (p.Pitch+p.Slack)
def cl (p:Pulse):Int->Int->Int->List Int->List Int->Option (List Int)
 | _,g,h,out,[]=>if zpx p g h then some (out++[zj3 p g h]) else none
 | y,g,h,out,x::l =>
  if x-y≥p.Pause then (if zpx p g h then cl p x 1 0 (out++[zj3 p g h]) l else none)
  else if x-y≥p.Gap then (if h>0 then none else cl p x g 1 out l)
  else if zlT p (x-y) then (if h>0 then cl p x g (h+1) out l else cl p x (g+1) h out l)
  else none
def clean (p:Pulse):List Int->Option (List Int)
 | []=>some []
 | x::l=>cl p x 1 0 [] l
def zhK:Option (List Int)->List Int×Bool
 | none=>([],false)
 | some l=>(l,true)
theorem zkA (p:Pulse) (hv:valid p=true) (g h:Int) (hg:1<=g/\g<=100000) (hh:0<=h/\h<=100000) (out:List Int) (ho:out.length<100000) :
  zcQ (⟨g,h⟩:Groups_) (⟨p⟩:Train_) out=some (zpx p g h,out++[zj3 p g h]):=by
 obtain ⟨v1,v2,_⟩:=zcT hv
 have hm:0<=(g-1)*p.Numbers/\(g-1)*p.Numbers<=100000*5:=⟨Int.mul_nonneg (by omega) (by omega),Int.mul_le_mul (by omega) v2.2 (by omega) (by omega)⟩
 unfold zcQ
 simp only
 rw [zaW (x:=g-1) (by omega) (by omega),zaW (x:=(g-1)*p.Numbers) (by omega) (by omega),zaW (x:=(g-1)*p.Numbers+h) (by omega) (by omega),zaW (by omega) (by omega),zfX (by simp;omega)]
 simp only [Option.bind_some,within_eq,zcj,zpx,zj3]
 cases inR g 1 p.Letters<;>simp
theorem zrP (p:Pulse) (hv:valid p=true) (d:Int):zen (⟨p⟩:Train_) d=some (if d≥p.Pause then 3 else if d≥p.Gap then 2 else if zlT p d then 1 else 0):=by
 obtain ⟨v1,v2,v3,v4,v5,v6,_⟩:=zcT hv
 unfold zen
 simp only [within_eq,Option.bind_some]
 rw [zaW (x:=p.Pitch-p.Slack) (by omega) (by omega),zaW (x:=p.Pitch+p.Slack) (by omega) (by omega)]
 simp only [decide_eq_true_eq]
 split
 ·rfl
 ·split
  ·rfl
  ·show (if zlT p d=true then _ else _)=_
   cases zlT p d<;>rfl
theorem zul (p:Pulse) (hv:valid p=true) (a1:List Int) (ha:a1.length<=1000) (htm:∀x,x∈a1->0<=x/\x<=99999):∀(l pre:List Int) (m:Nat) (y g h:Int) (out:List Int),a1=pre++y::l->l.length<m ->
  1<=g/\g<=pre.length+1->0<=h/\h<=pre.length+1->out.length<=pre.length->zaN (⟨p⟩:Train_) a1 m ((pre.length:Int)+1) g h out=some (zhK (cl p y g h out l)):=by
 intro l
 induction l with
 | nil =>
  intro pre m y g h out he hm hg hh ho
  have hl:a1.length=pre.length+1:=by simp [he]
  obtain ⟨m,rfl⟩:∃k,m=k+1:=⟨m-1,by omega⟩
  simp only [zaN,zbR,zcR]
  rw [if_neg (by simp;omega),if_pos (by simp;omega),zkA p hv g h (by omega) (by omega) out (by omega)]
  simp only [Option.bind_some,zco,cl]
  cases zpx p g h<;>simp [zhK]
 | cons x l ih =>
  intro pre m y g h out he hm hg hh ho
  simp at hm
  have hl:a1.length=pre.length+(l.length+2):=by simp [he]
  obtain ⟨m,rfl⟩:∃k,m=k+1:=⟨m-1,by omega⟩
  have hx:=htm x (by simp [he])
  have hy:=htm y (by simp [he])
  have i1:idx a1 ((pre.length:Int)+1)=some x:=by
   have:=zeV (pre++[y]) x l
   rw [show (((pre++[y]).length:Nat):Int)=(pre.length:Int)+1 by simp] at this
   rw [he];simpa using this
  have i2:idx a1 (w64 ((pre.length:Int)+1-1))=some y:=by
   rw [zaW (by omega) (by omega),show (pre.length:Int)+1-1=pre.length by omega,he,zeV]
  have hr:∀(g' h':Int) (out':List Int),1<=g'/\g'<=pre.length+2->0<=h'/\h'<=pre.length+2->out'.length<=pre.length+1 ->
    zaZ (zaN (⟨p⟩:Train_) a1 m) ((pre.length:Int)+1) g' h' out'=some (zhK (cl p x g' h' out' l)):=fun g' h' out' hg' hh' ho'=>by
   have:=ih (pre++[y]) m x g' h' out' (by simp [he]) (by omega) (by simp;omega) (by simp;omega) (by simp;omega)
   rw [show (((pre++[y]).length:Nat):Int)=(pre.length:Int)+1 by simp] at this
   simp only [zaZ]
   rw [zaW (by omega) (by omega)]
   exact this
  simp only [zaN,zbR]
  rw [if_pos (by simp;omega),i1]
  simp only [Option.bind_some]
  rw [if_neg (by simp;omega),i2]
  simp only [Option.bind_some]
  rw [zaW (x:=x-y) (by omega) (by omega),zrP p hv]
  simp only [Option.bind_some,cl]
  by_cases d1:x-y≥p.Pause
  ·simp only [d1,if_true]
   rw [if_neg (by decide),if_neg (by decide),if_pos (by decide),zkA p hv g h (by omega) (by omega) out (by omega)]
   simp only [Option.bind_some]
   cases zpx p g h with
   | false=>simp [zhK]
   | true=>simpa using hr 1 0 (out++[zj3 p g h]) (by omega) (by omega) (by simp;omega)
  ·simp only [d1,if_false]
   by_cases d2:x-y≥p.Gap
   ·simp only [d2,if_true]
    rw [if_neg (by decide),if_pos (by decide)]
    by_cases hp:h>0
    ·simp [hp,zhK]
    ·simp only [hp,if_false]
     rw [if_neg (by simpa using hp)]
     exact hr g 1 out (by omega) (by omega) (by omega)
   ·simp only [d2,if_false]
    cases hsd:zlT p (x-y) with
    | false=>simp [zhK]
    | true =>
     simp only [if_true]
     rw [if_pos (by decide)]
     by_cases hp:h>0
     ·rw [if_pos (by simpa using hp),zaW (by omega) (by omega)]
      simp only [hp,if_true]
      exact hr g (h+1) out (by omega) (by omega) (by omega)
     ·rw [if_neg (by simpa using hp),zaW (by omega) (by omega)]
      simp only [hp,if_false]
      exact hr (g+1) h out (by omega) (by omega) (by omega)
theorem zrQ {n:Nat} (p:Pulse) (hv:valid p=true) (l:List Int) (ha:l.length<=1000) (htm:∀x,x∈l->0<=x/\x<=99999) (hn:1002<=n):zeo n (⟨p⟩:Train_) l=some (zhK (clean p l)):=by
 obtain ⟨n,rfl⟩:∃k,n=k+1:=⟨n-1,by omega⟩
 unfold zeo
 cases l with
 | nil=>simp [zaN,zbR,zcR,zco,clean,zhK]
 | cons x l =>
  have h:=zul p hv (x::l) ha htm l [] n x 1 0 [] rfl (by simp at ha;omega) (by simp) (by simp) (by simp)
  simp only [zaN,zbR]
  rw [if_pos (by simp<;>omega),show idx (x::l) 0=some x from rfl]
  simp only [Option.bind_some]
  rw [if_pos (by decide)]
  simp only [zaZ]
  rw [show w64 (0+1)=1 by decide]
  simpa [clean] using h
theorem zrR {x:Int} (h0:0<=x) (h1:x<18446744073709551616):IntKind.u64.wrap x=x:=by
 have:IntKind.u64.wrap x=x % 18446744073709551616:=by simp [IntKind.wrap,IntKind.bits,IntKind.signed]
 rw [this]
 omega
theorem zrS {i:Nat} (h:i<60):zoH 1 (i:Int)=some ((2 ^ i:Nat):Int):=by
 unfold zoH
 rw [if_pos (by omega),Int.toNat_natCast,Nat.min_eq_left (by omega)]
 have h2:(2:Nat) ^ i<2 ^ 60:=Nat.pow_lt_pow_right (by omega) h
 have h3:(2:Int) ^ i=((2 ^ i:Nat):Int):=by push_cast;rfl
 have h60:(2:Nat) ^ 60=1152921504606846976:=by decide
 rw [h3]
 generalize (2:Nat) ^ i=w at h2 ⊢
 rw [show (1:Int)*(w:Int)=w by omega,zrR (by omega) (by omega)]
theorem zum {a b:Nat} (ha:a<2 ^ 60) (hb:b<2 ^ 60):zsw (a:Int) (b:Int)=((a ||| b:Nat):Int):=by
 have h60:(2:Nat) ^ 60=1152921504606846976:=by decide
 have hab:a ||| b<2 ^ 60:=Nat.or_lt_two_pow ha hb
 unfold zsw
 have:(BitVec.ofInt 64 (a:Int) ||| BitVec.ofInt 64 (b:Int)).toNat=a ||| b:=by
  rw [BitVec.toNat_or]
  simp only [BitVec.ofInt_natCast,BitVec.toNat_ofNat]
  rw [Nat.mod_eq_of_lt (by omega),Nat.mod_eq_of_lt (by omega)]
 rw [this,zrR (by omega) (by omega)]
theorem zrT {a i:Nat} (ha:a<2 ^ 60) (hi:i<60):zfr (a:Int) (i:Int)=some (a.testBit i):=by
 have h60:(2:Nat) ^ 60=1152921504606846976:=by decide
 unfold zfr zp2
 rw [if_pos (by omega),Int.toNat_natCast,Nat.min_eq_left (by omega)]
 have h3:((a:Int)).fdiv (2 ^ i)=((a / 2 ^ i:Nat):Int):=by
  rw [show ((2:Int) ^ i)=((2 ^ i:Nat):Int) by push_cast;rfl]
  generalize (2:Nat) ^ i=w
  rw [Int.fdiv_eq_ediv_of_nonneg _ (by omega)]
  rfl
 rw [h3]
 simp only [Option.bind_some]
 have h4:zlt ((a / 2 ^ i:Nat):Int) 1=((a / 2 ^ i % 2:Nat):Int):=by
  unfold zlt
  have hd:a / 2 ^ i<=a:=Nat.div_le_self _ _
  have:(BitVec.ofInt 64 ((a / 2 ^ i:Nat):Int) &&& BitVec.ofInt 64 1).toNat=a / 2 ^ i % 2:=by
   rw [BitVec.toNat_and]
   simp only [BitVec.ofInt_natCast,BitVec.toNat_ofNat]
   rw [Nat.mod_eq_of_lt (by omega),show (BitVec.ofInt 64 1).toNat=1 by decide,Nat.and_one_is_mod]
  rw [this,zrR (by omega) (by omega)]
 rw [h4,Nat.testBit_eq_decide_div_mod_eq]
 congr 1
 rcases Nat.mod_two_eq_zero_or_one (a / 2 ^ i) with h | h<;>rw [h]<;>decide
def cmb:Nat->List Nat->List (List Nat)
 | 0,_=>[[]]
 | _+1,[]=>[]
 | k+1,i::ps=>(cmb k ps).map (i::·)++cmb (k+1) ps
def bits (first:Nat) (is:List Nat):Nat:=is.foldl (fun a i=>a ||| 2 ^ i) first
def zdl {S:Type} (aF:Int->S->Option (Bool×S)):List Int->S->Option (Bool×S)
 | [],s=>some (true,s)
 | x::l,s=>(aF x s).bind fun r=>if r.1=true then zdl aF l r.2 else some (false,r.2)
theorem zhp {S:Type} (aF:Int->S->Option (Bool×S)):∀(l k:List Int) (s:S),zdl aF (l++k) s=(zdl aF l s).bind fun r=>if r.1=true then zdl aF k r.2 else some (false,r.2)
 | [],k,s=>by simp [zdl]
 | x::l,k,s=>by
  simp only [List.cons_append,zdl]
  cases h:aF x s with
  | none=>rfl
  | some r =>
   simp only [Option.bind_some]
   cases hr:r.1 with
   | true=>simp only [if_true];exact zhp aF l k r.2
   | false=>simp
def ziY (first k a m:Nat):List Int:=(cmb k (List.range' a m)).map fun is=>((bits first is:Nat):Int)
theorem zn4 (first k a m:Nat):ziY first (k+1) a (m+1)=ziY (first ||| 2 ^ a) k (a+1) m++ziY first (k+1) (a+1) m:=by
 unfold ziY
 rw [List.range'_succ]
 simp only [cmb,List.map_append,List.map_map]
 rfl
theorem zrU {S:Type} (aF:Int->S->Option (Bool×S)) (p:Pulse) (hl:p.Times.length<=40):∀(k n first a:Nat) (s:S),k+50<=n->k<=1000->first<2 ^ 60->a<=p.Times.length ->
  zbK n aF (⟨p⟩:Train_) (first:Int) (a:Int) (k:Int) s=zdl aF (ziY first k a (p.Times.length-a)) s:=by
 intro k
 induction k with
 | zero =>
  intro n first a s hn hk hf ha
  obtain ⟨n,rfl⟩:∃j,n=j+1:=⟨n-1,by omega⟩
  simp only [zbK,zdK]
  rw [if_pos (by simp)]
  have:ziY first 0 a (p.Times.length-a)=[(first:Int)]:=by simp [ziY,cmb,bits]
  rw [this]
  simp only [zdl]
  cases h:aF (first:Int) s with
  | none=>rfl
  | some r =>
   simp only [Option.bind_some]
   rcases r with ⟨b,s'⟩
   cases b<;>rfl
 | succ k ih =>
  intro n first a s hn hk hf ha
  obtain ⟨n,rfl⟩:∃j,n=j+1:=⟨n-1,by omega⟩
  simp only [zbK,zdK]
  rw [if_neg (by simp;omega)]
  have key:∀(d m a:Nat) (s:S),d=p.Times.length-a->a<=p.Times.length->d<m ->
    zbN (zbK n aF) (⟨p⟩:Train_) (first:Int) ((k+1:Nat):Int) m (a:Int) s=zdl aF (ziY first (k+1) a d) s:=by
   intro d
   induction d with
   | zero =>
    intro m a s hd ha' hm
    obtain ⟨m,rfl⟩:∃j,m=j+1:=⟨m-1,by omega⟩
    simp only [zbN,zc8,zds]
    rw [if_neg (by simp;omega)]
    rfl
   | succ d ihd =>
    intro m a s hd ha' hm
    obtain ⟨m,rfl⟩:∃j,m=j+1:=⟨m-1,by omega⟩
    simp only [zbN,zc8]
    rw [if_pos (by simp;omega),zrS (by omega)]
    simp only [Option.bind_some]
    have h2:(2:Nat) ^ a<2 ^ 60:=Nat.pow_lt_pow_right (by omega) (by omega)
    rw [zum hf h2,zaW (x:=(a:Int)+1) (by omega) (by omega),zaW (x:=((k+1:Nat):Int)-1) (by omega) (by omega)]
    have h3:=ih n (first ||| 2 ^ a) (a+1) s (by omega) (by omega) (Nat.or_lt_two_pow hf h2) (by omega)
    rw [show (((k+1:Nat):Int)-1)=(k:Int) by omega,show ((a:Int)+1)=((a+1:Nat):Int) by omega,h3,zn4,zhp,show p.Times.length-(a+1)=d by omega]
    cases hy:zdl aF (ziY (first ||| 2 ^ a) k (a+1) d) s with
    | none=>rfl
    | some r =>
     simp only [Option.bind_some]
     cases hr:r.1 with
     | true =>
      simp only [Bool.not_true,Bool.false_eq_true,if_false,if_true]
      exact ihd m (a+1) r.2 (by omega) (by omega) (by omega)
     | false=>simp
  exact key (p.Times.length-a) n a s rfl ha (by omega)
def less (f:Nat->Bool):Nat->List Int->List Int
 | _,[]=>[]
 | i,t::l=>if f i then less f (i+1) l else t::less f (i+1) l
theorem zk7 (f:Nat->Bool):∀(l:List Int) (i:Nat) (x:Int),x∈less f i l->x∈l
 | [],_,_,h=>by simp [less] at h
 | t::l,i,x,h=>by
  simp only [less] at h
  split at h
  ·exact List.mem_cons_of_mem _ (zk7 f l (i+1) x h)
  ·rcases List.mem_cons.1 h with rfl | h
   ·simp
   ·exact List.mem_cons_of_mem _ (zk7 f l (i+1) x h)
theorem zk8 (f:Nat->Bool):∀(l:List Int) (i:Nat),(less f i l).length<=l.length
 | [],_=>by simp [less]
 | t::l,i=>by
  have:=zk8 f l (i+1)
  simp only [less]
  split<;>simp<;>omega
theorem znj:∀(l:List Int) (prev:Option Int),rise prev l=true->∀x,x∈l->0<=x/\x<=99999
 | [],_,_,x,h=>by simp at h
 | t::l,prev,h,x,hx=>by
  simp only [rise,Bool.and_eq_true] at h
  rcases List.mem_cons.1 hx with rfl | hx
  ·exact zb1.1 h.1.1
  ·exact znj l _ h.2 x hx
def zmA {S:Type} (p:Pulse) (aF:Reading_->S->Option (Bool×S)) (b:Nat) (s:S):Option (Bool×S) :=
 match clean p (less b.testBit 0 p.Times) with
 | none=>some (true,s)
 | some l=>aF (⟨(b:Int),l⟩:Reading_) s
theorem zqB {S:Type} {n:Nat} (p:Pulse) (hv:valid p=true) (hn:1010<=n) (aF:Reading_->S->Option (Bool×S)) (b:Nat) (hb:b<2 ^ 60) (s:S) :
  zbb n aF (b:Int) (⟨p⟩:Train_) s=zmA p aF b s:=by
 obtain ⟨v1,v2,v3,v4,v5,v6,v7,v8,v9⟩:=zcT hv
 have htm:=znj p.Times none v9
 have key:∀(l pre:List Int) (m:Nat) (left:List Int),p.Times=pre++l->l.length<m->left.length<=pre.length ->
   (left++less b.testBit pre.length l=less b.testBit 0 p.Times)->zaF n (b:Int) aF s (⟨p⟩:Train_) m left (pre.length:Int)=zmA p aF b s:=by
  intro l
  induction l with
  | nil =>
   intro pre m left he hm hlen hle
   obtain ⟨m,rfl⟩:∃k,m=k+1:=⟨m-1,by omega⟩
   simp only [zaF,zbz]
   rw [if_neg (by simp [he])]
   simp only [less,List.append_nil] at hle
   subst hle
   simp only [zbP]
   rw [zrQ p hv _ (by have:=zk8 b.testBit p.Times 0;omega) (fun x hx=>htm x (zk7 _ _ _ _ hx)) (by omega)]
   simp only [Option.bind_some,zmA]
   cases clean p (less b.testBit 0 p.Times) with
   | none=>simp [zhK,zbl]
   | some l =>
    simp only [zhK,Bool.not_true,Bool.false_eq_true,if_false]
    cases aF (⟨(b:Int),l⟩:Reading_) s with
    | none=>rfl
    | some r=>rfl
  | cons x l ih =>
   intro pre m left he hm hlen hle
   simp at hm
   have hl:p.Times.length=pre.length+(l.length+1):=by simp [he]
   obtain ⟨m,rfl⟩:∃k,m=k+1:=⟨m-1,by omega⟩
   simp only [zaF,zbz]
   rw [if_pos (by simp;omega),show idx p.Times (pre.length:Int)=some x by rw [he,zeV]]
   simp only [Option.bind_some]
   rw [zrT hb (by omega)]
   simp only [Option.bind_some,zbm]
   have hc:(((pre++[x]).length:Nat):Int)=(pre.length:Int)+1:=by simp
   cases hbit:b.testBit pre.length with
   | true =>
    simp only [Bool.not_true,Bool.false_eq_true,if_false]
    rw [zaW (by omega) (by omega)]
    have h:=ih (pre++[x]) m left (by simp [he]) (by omega) (by simp;omega) (by rw [←hle];simp [less,hbit])
    rw [hc] at h
    exact h
   | false =>
    simp only [Bool.not_false,if_true]
    rw [zfX (by simp;omega)]
    simp only [Option.bind_some]
    rw [zaW (by omega) (by omega)]
    have h:=ih (pre++[x]) m (left++[x]) (by simp [he]) (by omega) (by simp;omega) (by rw [←hle];simp [less,hbit])
    rw [hc] at h
    exact h
 exact key p.Times [] n [] rfl (by omega) (by simp) (by simp)
theorem zhL {S:Type} {aF bF:Int->S->Option (Bool×S)}:∀(l:List Int) (s:S),(∀x,x∈l->∀s,aF x s=bF x s)->zdl aF l s=zdl bF l s
 | [],_,_=>rfl
 | x::l,s,h=>by
  simp only [zdl]
  rw [h x (by simp) s]
  congr 1
  funext r
  rw [zhL l r.2 fun y hy=>h y (by simp [hy])]
theorem zmB:∀(k:Nat) (ps:List Nat) (is:List Nat),is∈cmb k ps->∀i,i∈is->i∈ps
 | 0,_,is,h,i,hi=>by simp [cmb] at h;subst h;simp at hi
 | k+1,[],is,h,_,_=>by simp [cmb] at h
 | k+1,j::ps,is,h,i,hi=>by
  simp only [cmb,List.mem_append,List.mem_map] at h
  rcases h with ⟨is',h1,rfl⟩ | h
  ·rcases List.mem_cons.1 hi with rfl | hi
   ·simp
   ·exact List.mem_cons_of_mem _ (zmB k ps is' h1 i hi)
  ·exact List.mem_cons_of_mem _ (zmB (k+1) ps is h i hi)
theorem zpy:∀(is:List Nat) (first:Nat),first<2 ^ 60->(∀i,i∈is->i<60)->bits first is<2 ^ 60
 | [],_,h,_=>h
 | i::is,first,h,hi=>zpy is (first ||| 2 ^ i) (Nat.or_lt_two_pow h (Nat.pow_lt_pow_right (by omega) (hi i (by simp)))) fun j hj=>hi j (by simp [hj])
def zjM (p:Pulse) (k:Nat):List Reading_:=(cmb k (List.range' 0 p.Times.length)).filterMap fun is=>(clean p (less (bits 0 is).testBit 0 p.Times)).map fun l=>(⟨((bits 0 is:Nat):Int),l⟩:Reading_)
end Pu
namespace Pu
theorem zk9:∀(k:Nat) (ps:List Nat),(cmb k ps).length<=(ps.length+1) ^ k
 | 0,ps=>by simp [cmb]
 | k+1,[]=>by simp [cmb]
 | k+1,i::ps=>by
  have h1:=zk9 k ps
  have h2:=zk9 (k+1) ps
  simp only [cmb,List.length_append,List.length_map,List.length_cons]
  have h3:(ps.length+1) ^ k<=(ps.length+1+1) ^ k:=Nat.pow_le_pow_left (by omega) k
  calc (cmb k ps).length+(cmb (k+1) ps).length<=(ps.length+1) ^ k+(ps.length+1) ^ (k+1):=by omega
   _=(ps.length+1) ^ k*(ps.length+1+1):=by rw [Nat.pow_succ,Nat.mul_add (_ ^ k) (ps.length+1) 1];omega
   _<=(ps.length+1+1) ^ k*(ps.length+1+1):=Nat.mul_le_mul_right _ h3
   _=(ps.length+1+1) ^ (k+1):=(Nat.pow_succ ..).symm
theorem zun {p:Pulse} (hl:p.Times.length<=40) {k:Nat} {is:List Nat} (h:is∈cmb k (List.range' 0 p.Times.length)):bits 0 is<2 ^ 60 :=
 zpy is 0 (by omega) fun i hi=>by
  have:=zmB k _ is h i hi
  simp at this
  omega
theorem zmC {S:Type} {n:Nat} (p:Pulse) (hv:valid p=true) (hn:1100<=n) (aF:Reading_->S->Option (Bool×S)) (k:Nat) (hk:k<=1000) (s:S) :
  zcM n aF (⟨p⟩:Train_) (k:Int) s=(zdl (fun x s=>zmA p aF x.toNat s) (ziY 0 k 0 p.Times.length) s).bind fun r=>some ((),r.2):=by
 obtain ⟨v1,v2,v3,v4,v5,v6,v7,v8,v9⟩:=zcT hv
 unfold zcM
 have h:=zrU (fun (x0:Int) s=>zbb n aF x0 (⟨p⟩:Train_) s) p (by omega) k n 0 0 s (by omega) hk (by decide) (by omega)
 rw [show p.Times.length-0=p.Times.length by omega] at h
 rw [show zbK n (fun (x0:Int) s=>zbb n aF x0 (⟨p⟩:Train_) s) (⟨p⟩:Train_) 0 0 (k:Int) s=_ from h]
 rw [zhL (bF:=fun x s=>zmA p aF x.toNat s) _ _ fun x hx s=>?_]
 unfold ziY at hx
 obtain ⟨is,his,rfl⟩:=List.mem_map.1 hx
 rw [zqB p hv (by omega) aF (bits 0 is) (zun (by omega) his) s]
 simp
theorem ziP (p:Pulse):∀(L:List (List Nat)) (out:List Reading_),out.length+L.length<=1048576 ->
  zdl (fun x s=>zmA p za2 x.toNat s) (L.map fun is=>((bits 0 is:Nat):Int)) out =
   some (true,out++L.filterMap fun is=>(clean p (less (bits 0 is).testBit 0 p.Times)).map fun l=>(⟨((bits 0 is:Nat):Int),l⟩:Reading_))
 | [],out,_=>by simp [zdl]
 | is::L,out,h=>by
  simp at h
  simp only [List.map_cons,zdl,zmA,Int.toNat_natCast,List.filterMap_cons]
  cases clean p (less (bits 0 is).testBit 0 p.Times) with
  | none =>
   simp only [Option.bind_some,if_true,Option.map_none]
   exact ziP p L out (by omega)
  | some l =>
   simp only [za2]
   rw [zfX (by simp;omega)]
   simp only [Option.bind_some,if_true,Option.map_some]
   refine Eq.trans (ziP p L (out++[(⟨((bits 0 is:Nat):Int),l⟩:Reading_)]) (by simp;omega)) ?_
   simp
theorem zlU {n:Nat} (p:Pulse) (hv:valid p=true) (hn:1100<=n) (k:Nat) (hk:k<=3) (out:List Reading_) (ho:out.length<=500000) :
  zbQ n out (⟨p⟩:Train_) (k:Int)=some (out++zjM p k):=by
 obtain ⟨v1,v2,v3,v4,v5,v6,v7,v8,v9⟩:=zcT hv
 unfold zbQ
 rw [zmC p hv hn _ k (by omega) out]
 have hlen:=zk9 k (List.range' 0 p.Times.length)
 have hb:((List.range' 0 p.Times.length).length+1) ^ k<=25 ^ 3:=Nat.le_trans (Nat.pow_le_pow_left (by simp;omega) k) (Nat.pow_le_pow_right (by omega) hk)
 have h25:25 ^ 3=15625:=by decide
 unfold ziY
 rw [ziP p _ out (by omega)]
 rfl
theorem zn5 (p:Pulse) (hl:p.Times.length<=24) (k:Nat) (hk:k<=3):(zjM p k).length<=15625:=by
 unfold zjM
 have h1:=List.length_filterMap_le (fun is=>(clean p (less (bits 0 is).testBit 0 p.Times)).map fun l=>(⟨((bits 0 is:Nat):Int),l⟩:Reading_)) (cmb k (List.range' 0 p.Times.length))
 have hlen:=zk9 k (List.range' 0 p.Times.length)
 have hb:((List.range' 0 p.Times.length).length+1) ^ k<=25 ^ 3:=Nat.le_trans (Nat.pow_le_pow_left (by simp;omega) k) (Nat.pow_le_pow_right (by omega) hk)
 have h25:25 ^ 3=15625:=by decide
 omega
def zfE (p:Pulse) (a:Nat):Nat->List Reading_
 | 0=>[]
 | d+1=>zjM p a++zfE p (a+1) d
theorem zuo {S:Type} {n:Nat} (p:Pulse) (hv:valid p=true) (hn:1100<=n) (r3:Bool×S):∀(d k m:Nat) (out:List Reading_),(d:Int)+k=p.Sparks+1->d<m->out.length<=20000*k ->
  zcY n p r3 m out (k:Int)=zeI r3 (out++zfE p k d):=by
 obtain ⟨v1,v2,v3,v4,v5,v6,v7,v8,v9⟩:=zcT hv
 intro d
 induction d with
 | zero =>
  intro k m out hd hm ho
  obtain ⟨m,rfl⟩:∃j,m=j+1:=⟨m-1,by omega⟩
  simp only [zcY,zeR]
  rw [zaW (x:=p.Sparks+1) (by omega) (by omega),if_neg (by simp;omega)]
  simp [zfE]
 | succ d ih =>
  intro k m out hd hm ho
  obtain ⟨m,rfl⟩:∃j,m=j+1:=⟨m-1,by omega⟩
  simp only [zcY,zeR]
  rw [zaW (x:=p.Sparks+1) (by omega) (by omega),if_pos (by simp;omega),zlU p hv hn k (by omega) out (by omega)]
  simp only [Option.bind_some]
  rw [zaW (by omega) (by omega)]
  have hl:=zn5 p v8 k (by omega)
  have h:=ih (k+1) m (out++zjM p k) (by push_cast at hd ⊢;omega) (by omega) (by simp;omega)
  push_cast at h
  rw [h,zfE,List.append_assoc]
theorem zrV {S:Type} {n:Nat} (p:Pulse) (hs:p.Times.length<=1000) (hn:1100<=n) (aF:Train_->S->Option (Bool×S)) (st:S) (b:Bool) (st':S) (hF:valid p=true->aF (⟨p⟩:Train_) st=some (b,st')) :
  ∃s'',zf0 n aF p st=some ((if valid p=true then (if b=true then (if zfE p 0 (p.Sparks+1).toNat=[] then ([],3) else (zfE p 0 (p.Sparks+1).toNat,0)) else ([],1)) else ([],130)),s''):=by
 unfold zf0
 rw [Check_eq p (by omega) (by omega) (by omega)]
 simp only [Option.bind_some]
 cases hv:valid p with
 | false=>exact ⟨st,by simp⟩
 | true =>
  obtain ⟨v1,v2,v3,v4,v5,v6,v7,v8,v9⟩:=zcT hv
  simp only [cond_true,bne_self_eq_false,Bool.false_eq_true,if_false,hF hv,Option.bind_some,if_true]
  cases b with
  | false=>exact ⟨st',by simp⟩
  | true =>
   have h:=zuo (n:=n) p hv hn (true,st') (p.Sparks+1).toNat 0 n [] (by simp;omega) (by omega) (by simp)
   simp only [Bool.not_true,Bool.false_eq_true,if_false,if_true]
   rw [show zcY n p (true,st') n [] 0=_ from h]
   simp only [List.nil_append,zeI]
   by_cases hr:zfE p 0 (p.Sparks+1).toNat=[]
   ·exact ⟨st',by simp [hr]⟩
   ·refine ⟨st',?_⟩
    rw [if_neg (by have:=List.length_pos_iff.2 hr;simp;omega),if_neg hr]
def zwn (k:Nat) (ps:List Nat):List (List Nat):=(List.range (k+1)).flatMap fun j=>cmb j ps
def zup (is:List Nat):List Int:=List.map (fun (i:Nat)=>(i:Int)) is
theorem zlV:∀(is:List Nat) (first j:Nat),(bits first is).testBit j=(first.testBit j || is.contains j)
 | [],first,j=>by simp [bits]
 | i::is,first,j=>by
  have h:=zlV is (first ||| 2 ^ i) j
  rw [show bits first (i::is)=bits (first ||| 2 ^ i) is from rfl,h,Nat.testBit_or,Nat.testBit_two_pow]
  simp only [List.contains_cons,Bool.or_assoc]
  congr 1
  congr 1
  by_cases e:i=j
  ·subst e;simp
  ·have e':¬j=i:=fun h=>e h.symm
   simp [e,e']
theorem zkB {f g:Nat->Bool} (h:∀j,f j=g j):∀(l:List Int) (i:Nat),less f i l=less g i l
 | [],_=>rfl
 | t::l,i=>by simp only [less,h i,zkB h l]
def rd (p:Pulse) (is:List Nat):Option (List Int):=clean p (less (fun j=>is.contains j) 0 p.Times)
theorem zrW (p:Pulse) (is:List Nat):clean p (less (bits 0 is).testBit 0 p.Times)=rd p is:=by
 unfold rd
 rw [zkB (g:=fun j=>is.contains j) fun j=>by rw [zlV];simp]
def mkP (p:Pulse) (is:List Nat):Option Reading_:=(rd p is).map fun l=>(⟨((bits 0 is:Nat):Int),l⟩:Reading_)
def zn6 (p:Pulse):List Nat:=List.range' 0 p.Times.length
theorem zpz (p:Pulse) (k:Nat):zjM p k=(cmb k (zn6 p)).filterMap (mkP p):=by
 unfold zjM mkP zn6
 congr 1
 funext is
 rw [zrW]
theorem zkC (p:Pulse):∀(d a:Nat),zfE p a d=((List.range' a d).flatMap fun j=>cmb j (zn6 p)).filterMap (mkP p)
 | 0,a=>by simp [zfE]
 | d+1,a=>by
  rw [List.range'_succ]
  simp only [zfE,zkC p d (a+1),zpz,List.flatMap_cons,List.filterMap_append]
def zla (p:Pulse) (k:Nat):List (List Nat):=(zwn k (zn6 p)).filter fun is=>(rd p is).isSome
def zir (p:Pulse) (is:List Nat):List Int:=(rd p is).getD []
theorem zgq {α:Type} (p:Pulse) (g:List Nat->List Int->α):∀L:List (List Nat),(L.filterMap fun is=>(rd p is).map (g is))=(L.filter fun is=>(rd p is).isSome).map fun is=>g is (zir p is)
 | []=>rfl
 | is::L=>by
  simp only [List.filterMap_cons,List.filter_cons,zir]
  cases h:rd p is with
  | none=>simp only [Option.map_none,Option.isSome_none,Bool.false_eq_true,if_false];exact zgq p g L
  | some l=>simp only [Option.map_some,Option.isSome_some,if_true,List.map_cons,h,Option.getD_some];rw [zgq p g L];rfl
theorem zlW (p:Pulse) (k:Nat):zfE p 0 (k+1)=(zla p k).map fun is=>(⟨((bits 0 is:Nat):Int),zir p is⟩:Reading_):=by
 rw [zkC,←List.range_eq_range']
 exact zgq p (fun is l=>(⟨((bits 0 is:Nat):Int),l⟩:Reading_)) _
def zgr (p:Pulse):List Reading_×Int :=
 if valid p=true then (if zla p p.Sparks.toNat=[] then ([],3) else ((zla p p.Sparks.toNat).map fun is=>(⟨((bits 0 is:Nat):Int),zir p is⟩:Reading_),0)) else ([],130)
theorem zlb {p:Pulse} (hv:valid p=true):zfE p 0 (p.Sparks+1).toNat=(zla p p.Sparks.toNat).map fun is=>(⟨((bits 0 is:Nat):Int),zir p is⟩:Reading_):=by
 obtain ⟨v1,v2,v3,v4,v5,v6,v7,v8,v9⟩:=zcT hv
 rw [show (p.Sparks+1).toNat=p.Sparks.toNat+1 by omega,zlW]
theorem zqC {n:Nat} (p:Pulse) (hs:p.Times.length<=1000) (hn:1100<=n):∃s'',zf0 n (fun (x0:Train_) (_:Unit)=>(zd5 x0).map fun y=>(y,())) p ()=some (zgr p,s''):=by
 obtain ⟨s'',h⟩:=zrV (n:=n) p hs hn (fun (x0:Train_) (_:Unit)=>(zd5 x0).map fun y=>(y,())) () true () (fun _=>rfl)
 refine ⟨s'',?_⟩
 rw [h]
 unfold zgr
 cases hv:valid p with
 | false=>rfl
 | true =>
  simp only [if_true,zlb hv,List.map_eq_nil_iff]
theorem zrX (pa pb:List Int) (hp:pa.length=pb.length):∀(l k:List Int) (m:Nat),l.length=k.length->(pa++l).length<1048576->l.length<m ->
  zb3 (pa++l) (pb++k) m (pa.length:Int)=some (decide (l=k)):=by
 intro l
 induction l generalizing pa pb with
 | nil =>
  intro k m hk hs hm
  obtain ⟨m,rfl⟩:∃k,m=k+1:=⟨m-1,by omega⟩
  have:k=[]:=List.eq_nil_of_length_eq_zero (by simpa using hk.symm)
  subst this
  simp [zb3,zdi,zdL]
 | cons x l ih =>
  intro k m hk hs hm
  obtain ⟨m,rfl⟩:∃k,m=k+1:=⟨m-1,by omega⟩
  cases k with
  | nil=>simp at hk
  | cons y k =>
   simp at hk hs hm
   simp only [zb3,zdi]
   rw [if_pos (by simp;omega),zeV,show idx (pb++y::k) (pa.length:Int)=some y by rw [hp,zeV]]
   simp only [Option.bind_some]
   by_cases hb:x=y
   ·subst hb
    have h:=ih (pa++[x]) (pb++[x]) (by simp [hp]) k m hk (by simp;omega) (by omega)
    rw [if_neg (by simp),zaW (by omega) (by omega)]
    simpa using h
   ·rw [if_pos (by simpa using hb)]
    simp [hb]
theorem zqD {n:Nat} (a b:List Int) (hs:a.length<1048576) (hn:a.length<n):slices_Equal_int n a b=some (decide (a=b)):=by
 unfold slices_Equal_int
 by_cases h:a.length=b.length
 ·rw [if_neg (by simp [h])]
  exact zrX [] [] rfl a b n h (by simpa using hs) hn
 ·rw [if_pos (by simp;omega)]
  have:a≠b:=fun e=>h (by rw [e])
  simp [this]
end Pu
namespace Pu
def zed {α:Type} [DecidableEq α]:List α->List α->List α
 | out,[]=>out
 | out,x::l=>if x∈out then zed out l else zed (out++[x]) l
theorem zgB {α:Type} [DecidableEq α]:∀(l out:List α) (x:α),x∈zed out l↔x∈out\/x∈l
 | [],out,x=>by simp [zed]
 | y::l,out,x=>by
  simp only [zed]
  split
  ·rw [zgB l out x,List.mem_cons]
   constructor
   ·rintro (h | h)
    ·exact .inl h
    ·exact .inr (.inr h)
   ·rintro (h | rfl | h)
    ·exact .inl h
    ·exact .inl (by assumption)
    ·exact .inr h
  ·rw [zgB l _ x]
   simp [or_assoc]
theorem zq2 (p:Pulse):∀(l:List Int) (y g h:Int) (out q:List Int),cl p y g h out l=some q->q.length<=out.length+l.length+1
 | [],y,g,h,out,q,e=>by
  simp only [cl] at e
  split at e
  ·cases e;simp
  ·cases e
 | x::l,y,g,h,out,q,e=>by
  simp only [cl] at e
  repeat' split at e
  all_goals first | (cases e;done) | (have:=zq2 p l _ _ _ _ _ e;simp at this ⊢;omega)
theorem zpA (p:Pulse) (l q:List Int) (e:clean p l=some q):q.length<=l.length:=by
 cases l with
 | nil=>simp [clean] at e;simp [←e]
 | cons x l=>have:=zq2 p l _ _ _ _ _ e;simpa using this
theorem zn7 (p:Pulse) (is:List Nat):(zir p is).length<=p.Times.length:=by
 unfold zir
 cases h:rd p is with
 | none=>simp
 | some l =>
  have h1:=zpA p _ _ h
  have h2:=zk8 (fun j=>is.contains j) p.Times 0
  simp;omega
theorem zuq (aF:List Int->Unit->Option (Bool×Unit)) (f:List Int->Bool):∀(l pre:List (List Int)) (m:Nat),(∀x,x∈l->aF x ()=some (f x,()))->(pre++l).length<1048576->l.length<m ->
  ∃r,zbc (pre++l) aF m (pre.length:Int) ()=some (r,())/\decide (r≥0)=l.any f:=by
 intro l
 induction l with
 | nil =>
  intro pre m hf hs hm
  obtain ⟨m,rfl⟩:∃k,m=k+1:=⟨m-1,by omega⟩
  exact ⟨-1,by simp [zbc,zcv,zcN],by simp⟩
 | cons c l ih =>
  intro pre m hf hs hm
  obtain ⟨m,rfl⟩:∃k,m=k+1:=⟨m-1,by omega⟩
  obtain ⟨r,h1,h2⟩:=ih (pre++[c]) m (fun x hx=>hf x (List.mem_cons_of_mem _ hx)) (by simpa using hs) (by simp at hm;omega)
  rw [show (((pre++[c]).length:Nat):Int)=(pre.length:Int)+1 by simp,show pre++[c]++l=pre++c::l by simp] at h1
  simp at hs hm
  simp only [zbc,zcv]
  rw [if_pos (by simp<;>omega),zeV]
  simp only [Option.bind_some,hf c (by simp)]
  by_cases hb:f c=true
  ·exact ⟨pre.length,by simp [hb],by simp [hb]⟩
  ·refine ⟨r,?_,by rw [h2];simp [hb]⟩
   rw [zaW (by omega) (by omega),if_neg hb]
   exact h1
theorem zpB {n:Nat} (r:Reading_) (L:List (List Int)) (hl:∀x,x∈L->x.length<1000) (hs:L.length<1048576) (hn:L.length<n) (hn':1000<=n) :
  zcO n (fun (x0:List Int) (_:Unit)=>(zdv n x0 r).map fun y=>(y,())) L ()=some (decide (r.list∈L),()):=by
 obtain ⟨v,h1,h2⟩:=zuq (fun (x0:List Int) (_:Unit)=>(zdv n x0 r).map fun y=>(y,())) (fun x=>decide (x=r.list)) L [] n (fun x hx=>by
  have:=hl x hx
  simp [zdv,zqD x r.list (by omega) (show x.length<n by omega)]) (by simpa using hs) hn
 have h1:zd6 n _ L ()=some (v,()):=h1
 simp only [zcO,h1,Option.bind_some,h2]
 congr 2
 by_cases hm:r.list∈L
 ·simp only [hm,decide_true,List.any_eq_true]
  exact ⟨_,hm,by simp⟩
 ·simp only [hm,decide_false,List.any_eq_false]
  intro x hx
  simp only [decide_eq_true_eq]
  intro e
  exact hm (e▸hx)
theorem zqE {n:Nat} (L:List Reading_) (hl:∀x,x∈L->x.list.length<1000) (hs:L.length<1000000) (hn:L.length<n) (hn':1000<=n) :
  zhg n L=some (zed [] (L.map (·.list))):=by
 have key:∀(l pre:List Reading_) (m:Nat) (out:List (List Int)),L=pre++l->l.length<m->(∀x,x∈out->x.length<1000)->out.length<=pre.length ->
   zck n L m out (pre.length:Int)=some (zed out (l.map (·.list))):=by
  intro l
  induction l with
  | nil =>
   intro pre m out he hm ho hlen
   obtain ⟨m,rfl⟩:∃k,m=k+1:=⟨m-1,by omega⟩
   simp only [zck,zep,ze6]
   rw [if_neg (by simp [he])]
   simp [zed]
  | cons x l ih =>
   intro pre m out he hm ho hlen
   simp at hm
   have hl':L.length=pre.length+(l.length+1):=by simp [he]
   obtain ⟨m,rfl⟩:∃k,m=k+1:=⟨m-1,by omega⟩
   have hx:=hl x (by simp [he])
   have hc:(((pre++[x]).length:Nat):Int)=(pre.length:Int)+1:=by simp
   simp only [zck,zep]
   rw [if_pos (by simp;omega),show idx L (pre.length:Int)=some x by rw [he,zeV]]
   simp only [Option.bind_some]
   rw [zpB x out ho (by omega) (by omega) hn']
   simp only [Option.bind_some,List.map_cons,zed]
   by_cases hmem:x.list∈out
   ·simp only [hmem,decide_true,Bool.not_true,Bool.false_eq_true,if_false,if_true,zdw]
    rw [zaW (by omega) (by omega)]
    have h:=ih (pre++[x]) m out (by simp [he]) (by omega) ho (by simp;omega)
    rw [hc] at h
    exact h
   ·simp only [hmem,decide_false,Bool.not_false,if_true,if_false,zdw]
    rw [zfX (by simp;omega)]
    simp only [Option.bind_some]
    rw [zaW (by omega) (by omega)]
    have h:=ih (pre++[x]) m (out++[x.list]) (by simp [he]) (by omega) (fun y hy=>by
     rcases List.mem_append.1 hy with hy | hy
     ·exact ho y hy
     ·rw [List.mem_singleton] at hy;subst hy;exact hx) (by simp;omega)
    rw [hc] at h
    exact h
 exact key L [] n [] rfl hn (by simp) (by simp)
theorem zn8 {p:Pulse} (hs:p.Times.length<=40):∀x,x∈(zgr p).1->x.list.length<1000:=by
 intro x hx
 unfold zgr at hx
 split at hx
 ·split at hx
  ·simp at hx
  ·obtain ⟨is,_,rfl⟩:=List.mem_map.1 hx
   have:=zn7 p is
   simp only
   omega
 ·simp at hx
theorem zpC {p:Pulse} (h:(zgr p).2=0):(zgr p).1≠[]:=by
 unfold zgr at h ⊢
 split at h
 ·split at h
  ·cases h
  ·rename_i hv hg
   rw [if_pos hv,if_neg hg]
   simpa using hg
 ·cases h
def zur (L:List (List Int)):List Int×Int:=if 1<(zed [] L).length then ([],2) else ((zed [] L).headD [],0)
theorem zrY (a:List Int):∀l:List (List Int),zur (a::l)=if l.all (fun x=>decide (x=a))=true then (a,0) else ([],2):=by
 intro l
 unfold zur
 have e:zed [] (a::l)=zed [a] l:=by simp [zed]
 rw [e]
 by_cases h:l.all (fun x=>decide (x=a))=true
 ·have:zed [a] l=[a]:=by
   clear e
   induction l with
   | nil=>rfl
   | cons x l ih =>
    simp only [List.all_cons,Bool.and_eq_true,decide_eq_true_eq] at h
    rw [zed,if_pos (by rw [h.1];simp)]
    exact ih (by simpa using h.2)
  rw [if_pos h,this]
  rfl
 ·rw [if_neg h]
  have:∃x,x∈l/\x≠a:=by
   simp only [List.all_eq_true,decide_eq_true_eq] at h
   exact Classical.byContradiction fun hc=>h fun x hx=>Classical.byContradiction fun hne=>hc ⟨x,hx,hne⟩
  obtain ⟨x,hx,hne⟩:=this
  have m1:a∈zed [a] l:=(zgB l [a] a).2 (.inl (by simp))
  have m2:x∈zed [a] l:=(zgB l [a] x).2 (.inr hx)
  rw [if_pos ?_]
  generalize zed [a] l=f at m1 m2
  match f with
  | []=>simp at m1
  | [y] =>
   rw [List.mem_singleton] at m1 m2
   exact absurd (m2.trans m1.symm) hne
  | _::_::_=>simp
def zqF (p:Pulse):List Int×Int:=if (zgr p).2≠0 then ([],(zgr p).2) else zur ((zgr p).1.map (·.list))
theorem zpD {L:List (List Int)} (h:L≠[]):zed [] L≠[]:=by
 cases L with
 | nil=>exact absurd rfl h
 | cons a l =>
  have:a∈zed [] (a::l):=(zgB _ _ a).2 (.inr (by simp))
  intro e
  rw [e] at this
  simp at this
theorem zus {n:Nat} (L:List Reading_) (hne:L≠[]) (hl:∀x,x∈L->x.list.length<1000) (hs:L.length<1000000) (hn:L.length<n) (hn':1000<=n):zhx n L=some (zur (L.map (·.list))):=by
 unfold zhx zur
 rw [zqE L hl hs hn hn']
 simp only [Option.bind_some]
 by_cases h1:1<(zed [] (L.map (·.list))).length
 ·rw [if_pos (by simp;omega),if_pos h1]
 ·rw [if_neg (by simp;omega),if_neg h1]
  have:=zpD (L:=L.map (·.list)) (by simpa using hne)
  generalize zed [] (L.map (·.list))=f at this
  cases f with
  | nil=>exact absurd rfl this
  | cons a l=>rfl
def hi (l:List Int):Int:=l.foldl max 0
def oft (p:Pulse) (i:Nat):Nat:=(zla p p.Sparks.toNat).countP fun is=>is.contains i
def zut (p:Pulse):List Int×Int:=if (zgr p).2≠0 then ([],(zgr p).2) else (zup ((zn6 p).filter fun i=>oft p i==0),0)
def like (p q:Pulse):Prop:=p.Letters=q.Letters/\p.Numbers=q.Numbers/\p.Pitch=q.Pitch/\p.Slack=q.Slack/\p.Gap=q.Gap/\p.Pause=q.Pause
theorem zrZ {p q:Pulse} (h:like p q):∀(l:List Int) (y g t:Int) (out:List Int),cl p y g t out l=cl q y g t out l:=by
 obtain ⟨p1,p2,p3,p4,p5,p6,p7,p8⟩:=p
 obtain ⟨q1,q2,q3,q4,q5,q6,q7,q8⟩:=q
 obtain ⟨h1,h2,h3,h4,h5,h6⟩:=h
 simp only at h1 h2 h3 h4 h5 h6
 subst h1 h2 h3 h4 h5 h6
 intro l
 induction l with
 | nil=>intro y g t out;rfl
 | cons x l ih =>
  intro y g t out
  simp only [cl,zpx,zj3,zlT,ih]
  rfl
theorem clean_like {p q:Pulse} (h:like p q) (l:List Int):clean p l=clean q l:=by
 cases l with
 | nil=>rfl
 | cons x l=>exact zrZ h l _ _ _ _
theorem zpE {p:Pulse} (hv:valid p=true):(zgr p).2=(if zla p p.Sparks.toNat=[] then 3 else 0)/\(zgr p).1.length=(zla p p.Sparks.toNat).length:=by
 unfold zgr
 rw [if_pos hv]
 split
 ·rename_i h;simp [h]
 ·simp
theorem zlX:∀(l:List Int) (a:Nat),less (fun j=>([]:List Nat).contains j) a l=l
 | [],_=>rfl
 | t::l,a=>by
  have:=zlX l (a+1)
  simp only [less]
  rw [if_neg (by simp),this]
theorem zpF {o:Pulse} {l:List Int} (h0:o.Sparks=0) (hc:clean o o.Times=some l):zla o o.Sparks.toNat=[[]]/\zir o []=l:=by
 have hr:rd o []=some l:=by unfold rd;rw [zlX,hc]
 constructor
 ·rw [h0]
  unfold zla zwn
  simp [cmb,hr]
 ·unfold zir
  rw [hr]
  rfl
theorem zero_read {o:Pulse} {l:List Int} (hv:valid o=true) (h0:o.Sparks=0) (hc:clean o o.Times=some l):zqF o=(l,0)/\(zgr o).2=0/\(zgr o).1.length=1/\zut o=(zup (zn6 o),0):=by
 obtain ⟨h1,h2⟩:=zpF h0 hc
 obtain ⟨o1,o2⟩:=zpE hv
 rw [h1,if_neg (by simp)] at o1
 rw [h1] at o2
 refine ⟨?_,o1,o2,?_⟩
 ·unfold zqF
  rw [if_neg (by simp [o1])]
  have:(zgr o).1.map (·.list)=[l]:=by
   unfold zgr
   rw [if_pos hv,h1,if_neg (by simp)]
   simp [h2]
  rw [this,zrY]
  rfl
 ·unfold zut
  rw [if_neg (by simp [o1])]
  congr 2
  refine List.filter_eq_self.2 fun i _=>?_
  unfold oft
  rw [h1]
  rfl
theorem valid_times {p:Pulse} {k:Int} {q:List Int} (hv:valid p=true) (h0:0<=k) (h3:k<=3) (hq:q.length<=24) (hr:rise none q=true):valid (⟨p.Letters,p.Numbers,p.Pitch,p.Slack,p.Gap,p.Pause,k,q⟩:Pulse)=true:=by
 simp only [valid,Bool.and_eq_true,zb1,decide_eq_true_eq] at hv ⊢
 obtain ⟨⟨⟨⟨⟨⟨⟨⟨h1,h2⟩,h3⟩,h4⟩,h5⟩,h6⟩,h7⟩,h8⟩,h9⟩:=hv
 exact ⟨⟨⟨⟨⟨⟨⟨⟨h1,h2⟩,h3⟩,h4⟩,h5⟩,h6⟩,by omega⟩,hq⟩,hr⟩
def steps (pitch:Int):Nat->Int->Int->List Int
 | 0,_,_=>[]
 | k+1,d,t=>(t+d)::steps pitch k pitch (t+d)
def stepT (pitch:Int):Nat->Int->Int->Int
 | 0,_,t=>t
 | k+1,d,t=>stepT pitch k pitch (t+d)
theorem zgC (pitch:Int):∀(k:Nat) (d:Int) (out:List Int) (t:Int),out≠[]->zj2 pitch k d out t=(out++steps pitch k d t,stepT pitch k d t)
 | 0,_,out,t,_=>by simp [zj2,steps,stepT]
 | k+1,d,out,t,h=>by
  simp only [zj2,h,if_false,steps,stepT]
  rw [zgC pitch k pitch (out++[t+d]) (t+d) (by simp)]
  simp
def zj4 (p:Pulse):List Int->Int->List Int
 | [],_=>[]
 | x::l,t =>
  let a:=(x / p.Numbers+1).toNat
  let b:=(x % p.Numbers+1).toNat
  let t1:=stepT p.Pitch a p.Pause t
  steps p.Pitch a p.Pause t++(steps p.Pitch b p.Gap t1++zj4 p l (stepT p.Pitch b p.Gap t1))
def zjN (p:Pulse):List Int->Int->Int
 | [],t=>t
 | x::l,t=>zjN p l (stepT p.Pitch (x % p.Numbers+1).toNat p.Gap (stepT p.Pitch (x / p.Numbers+1).toNat p.Pause t))
theorem zpG (p:Pulse):∀(l out:List Int) (t:Int),out≠[]->wr p l out t=(out++zj4 p l t,zjN p l t)
 | [],out,t,_=>by simp [wr,zj4,zjN]
 | x::l,out,t,h=>by
  simp only [wr,zj4,zjN]
  rw [zgC p.Pitch _ p.Pause out t h]
  simp only
  rw [zgC p.Pitch _ p.Gap _ _ (by simp [h])]
  simp only
  rw [zpG p l _ _ (by simp [h])]
  simp
def zpH:Int->List Int->Int->Prop
 | y,[],T=>y=T
 | y,x::l,T=>y<x/\zpH x l T
theorem zuu:∀(l:List Int) (y T:Int),zpH y l T->y<=T
 | [],y,T,h=>by simp only [zpH] at h;omega
 | x::l,y,T,h=>by
  have:=zuu l x T h.2
  have:=h.1
  omega
theorem zlY:∀(l k:List Int) (y T U:Int),zpH y l T->zpH T k U->zpH y (l++k) U
 | [],k,y,T,U,h,g=>by simp only [zpH] at h;subst h;exact g
 | x::l,k,y,T,U,h,g=>⟨h.1,zlY l k x T U h.2 g⟩
theorem up_rise:∀(l:List Int) (y T:Int),zpH y l T->0<=y->T<=99999->rise (some y) l=true
 | [],_,_,_,_,_=>rfl
 | x::l,y,T,h,h0,hT=>by
  have h1:=zuu l x T h.2
  have h2:=h.1
  simp only [rise,Bool.and_eq_true,decide_eq_true_eq]
  exact ⟨⟨zb1.2 (by omega),by omega⟩,up_rise l x T h.2 (by omega) hT⟩
theorem zis (pitch:Int) (hp:0<pitch):∀(k:Nat) (d t:Int),0<d->zpH t (steps pitch k d t) (stepT pitch k d t)
 | 0,_,_,_=>rfl
 | k+1,d,t,hd=>⟨by omega,zis pitch hp k pitch (t+d) hp⟩
theorem znk (p:Pulse) (hp:0<p.Pitch) (hg:0<p.Gap) (hs:0<p.Pause):∀(l:List Int) (t:Int),zpH t (zj4 p l t) (zjN p l t)
 | [],t=>rfl
 | x::l,t=>by
  simp only [zj4,zjN]
  exact zlY _ _ _ _ _ (zis p.Pitch hp _ p.Pause t hs) (zlY _ _ _ _ _ (zis p.Pitch hp _ p.Gap _ hg) (znk p hp hg hs l _))
theorem zwi (p:Pulse) (hv:valid p=true):∀(k:Nat) (y g:Int) (out L:List Int),cl p y g 0 out (steps p.Pitch k p.Pitch y++L)=cl p (stepT p.Pitch k p.Pitch y) (g+k) 0 out L
 | 0,y,g,out,L=>by simp [steps,stepT]
 | k+1,y,g,out,L=>by
  obtain ⟨v1,v2,v3,v4,v5,v6,_⟩:=zcT hv
  simp only [steps,stepT,List.cons_append,cl]
  rw [if_neg (by omega),if_neg (by omega),if_pos (by unfold zlT;rw [zb1];omega),if_neg (by omega),zwi p hv k (y+p.Pitch) (g+1) out L]
  congr 1
  push_cast
  omega
theorem zwo (p:Pulse) (hv:valid p=true):∀(k:Nat) (y g h:Int) (out L:List Int),0<h->cl p y g h out (steps p.Pitch k p.Pitch y++L)=cl p (stepT p.Pitch k p.Pitch y) g (h+k) out L
 | 0,y,g,h,out,L,_=>by simp [steps,stepT]
 | k+1,y,g,h,out,L,hh=>by
  obtain ⟨v1,v2,v3,v4,v5,v6,_⟩:=zcT hv
  simp only [steps,stepT,List.cons_append,cl]
  rw [if_neg (by omega),if_neg (by omega),if_pos (by unfold zlT;rw [zb1];omega),if_pos (by omega),zwo p hv k (y+p.Pitch) g (h+1) out L (by omega)]
  congr 1
  push_cast
  omega
theorem zlZ (p:Pulse) (hv:valid p=true) (b:Nat) (hb:1<=b) (y g:Int) (out L:List Int):cl p y g 0 out (steps p.Pitch b p.Gap y++L)=cl p (stepT p.Pitch b p.Gap y) g b out L:=by
 obtain ⟨v1,v2,v3,v4,v5,v6,_⟩:=zcT hv
 obtain ⟨k,rfl⟩:∃k,b=k+1:=⟨b-1,by omega⟩
 simp only [steps,stepT,List.cons_append,cl]
 rw [if_neg (by omega),if_pos (by omega),if_neg (by omega),zwo p hv k _ g 1 out L (by omega)]
 congr 1
 push_cast
 omega
theorem zn9 (p:Pulse) (hv:valid p=true) (a:Nat) (ha:1<=a) (y g h:Int) (hg:zpx p g h=true) (out L:List Int):cl p y g h out (steps p.Pitch a p.Pause y++L)=cl p (stepT p.Pitch a p.Pause y) a 0 (out++[zj3 p g h]) L:=by
 obtain ⟨v1,v2,v3,v4,v5,v6,_⟩:=zcT hv
 obtain ⟨k,rfl⟩:∃k,a=k+1:=⟨a-1,by omega⟩
 simp only [steps,stepT,List.cons_append,cl]
 rw [if_pos (by omega),if_pos hg,zwi p hv k _ 1 _ L]
 congr 1
 push_cast
 omega
theorem znl {p:Pulse} (hv:valid p=true) {x:Int} (hx:isSel p x=true):zpx p ((x / p.Numbers+1).toNat:Int) ((x % p.Numbers+1).toNat:Int)=true/\zj3 p ((x / p.Numbers+1).toNat:Int) ((x % p.Numbers+1).toNat:Int)=x:=by
 obtain ⟨v1,v2,_⟩:=zcT hv
 obtain ⟨b1,b2,b3,b4,b5⟩:=zhE hv hx
 have h1:x / p.Numbers<p.Letters:=Int.ediv_lt_of_lt_mul (by omega) b2
 have h2:=Int.emod_lt_of_pos x (show 0<p.Numbers by omega)
 have h3:=Int.mul_ediv_add_emod x p.Numbers
 have e1:(((x / p.Numbers+1).toNat:Nat):Int)=x / p.Numbers+1:=by omega
 have e2:(((x % p.Numbers+1).toNat:Nat):Int)=x % p.Numbers+1:=by omega
 rw [e1,e2]
 unfold zpx zj3
 constructor
 ·rw [Bool.and_eq_true,zb1,zb1]
  omega
 ·rw [show x / p.Numbers+1-1=x / p.Numbers by omega,Int.mul_comm]
  omega
theorem znm (p:Pulse) (hv:valid p=true):∀(l:List Int) (y g h:Int) (out:List Int),zpx p g h=true->(∀x,x∈l->isSel p x=true)->cl p y g h out (zj4 p l y)=some (out++[zj3 p g h]++l)
 | [],y,g,h,out,hg,_=>by simp [zj4,cl,hg]
 | x::l,y,g,h,out,hg,hs=>by
  have hx:=hs x (by simp)
  obtain ⟨b1,b2,b3,b4,b5⟩:=zhE hv hx
  obtain ⟨g1,g2⟩:=znl hv hx
  simp only [zj4]
  rw [zn9 p hv _ (by omega) y g h hg,zlZ p hv _ (by omega),znm p hv l _ _ _ _ g1 fun z hz=>hs z (by simp [hz]),g2]
  simp
theorem wr_clean (p:Pulse) (hv:valid p=true) (l:List Int) (t:Int) (hs:∀x,x∈l->isSel p x=true):clean p (wr p l [] t).1=some l/\((l=[]/\(wr p l [] t).1=[])\/∃k,(wr p l [] t).1=t::k/\zpH t k (wr p l [] t).2/\l≠[]):=by
 obtain ⟨v1,v2,v3,v4,v5,v6,_⟩:=zcT hv
 cases l with
 | nil=>exact ⟨rfl,.inl ⟨rfl,rfl⟩⟩
 | cons x l =>
  have hx:=hs x (by simp)
  obtain ⟨b1,b2,b3,b4,b5⟩:=zhE hv hx
  obtain ⟨g1,g2⟩:=znl hv hx
  obtain ⟨k,hk⟩:∃k,(x / p.Numbers+1).toNat=k+1:=⟨(x / p.Numbers+1).toNat-1,by omega⟩
  have e:wr p (x::l) [] t=(t::(steps p.Pitch k p.Pitch t++(steps p.Pitch (x % p.Numbers+1).toNat p.Gap (stepT p.Pitch k p.Pitch t)++zj4 p l (stepT p.Pitch (x % p.Numbers+1).toNat p.Gap (stepT p.Pitch k p.Pitch t)))),zjN p l (stepT p.Pitch (x % p.Numbers+1).toNat p.Gap (stepT p.Pitch k p.Pitch t))):=by
   simp only [wr,hk,zj2,if_true,List.nil_append]
   rw [zgC p.Pitch k p.Pitch [t] t (by simp)]
   simp only
   rw [zgC p.Pitch _ p.Gap _ _ (by simp)]
   simp only
   rw [zpG p l _ _ (by simp)]
   simp
  rw [e]
  constructor
  ·simp only [clean]
   rw [zwi p hv k t 1,zlZ p hv _ (by omega)]
   have hk':(1:Int)+k=(((x / p.Numbers+1).toNat:Nat):Int):=by rw [hk];push_cast;omega
   rw [hk',znm p hv l _ _ _ _ g1 fun z hz=>hs z (by simp [hz]),g2]
   simp
  ·exact .inr ⟨_,rfl,zlY _ _ _ _ _ (zis p.Pitch (by omega) k p.Pitch t (by omega)) (zlY _ _ _ _ _ (zis p.Pitch (by omega) _ p.Gap _ (by omega)) (znk p (by omega) (by omega) (by omega) l _)),by simp⟩
theorem pWrite_eq {n:Nat} (p:Pulse) (hv:valid p=true) (hs:p.Times.length<=40) (l:List Int) (t:Int) (hl:l.length<=24) (hsel:∀x,x∈l->isSel p x=true) (ht:0<=t/\t<=99999) (hn:1000<=n) :
  zgh n p l t=some (if (wr p l [] t).1.length<=24/\inR (wr p l [] t).2 0 99999=true then ((wr p l [] t).1,0) else ([],131)):=by
 unfold zgh
 rw [Check_eq p (by omega) (by omega) (by omega),hv]
 simp only [cond_true,bne_self_eq_false,Bool.false_eq_true,if_false,Option.bind_some,zlS]
 rw [if_neg (show ¬decide ((l.length:Int)>24)=true by simp;omega),zb1.2 ht,if_neg (by simp),zlR _ (fun x=>!isSel p x) (fun x=>by rw [c1_eq];rfl) l (by omega) (by omega),zrO,List.all_eq_true.2 hsel]
 simp only [Option.bind_some,Bool.not_true,zdA,Bool.false_eq_true,if_false]
 have e1:=zqA (n:=n) p hv (by omega) l (by omega) hsel l [] n [] t rfl (by omega) (by simp) (by omega) (by simp;omega)
 rw [show zcK n p l n 0 [] t=_ from e1]
 unfold zeb
 simp only [zlS,Option.bind_some,zea]
 by_cases h1:(wr p l [] t).1.length<=24
 ·rw [if_neg (by simp;omega)]
  cases h2:inR (wr p l [] t).2 0 99999 with
  | true=>simp [h1]
  | false=>simp
 ·rw [if_pos (by simp;omega),if_pos trivial,if_neg (fun h=>h1 h.1)]
theorem Read_eqL {n:Nat} (p:Pulse) (hs:p.Times.length<=40) (hl:(zgr p).1.length<=13500) (hn:15000<=n):zfk n p=some (zqF p):=by
 obtain ⟨s'',h⟩:=zqC (n:=n) p (by omega) (by omega)
 unfold zfk zqF
 rw [h]
 simp only [Option.bind_some]
 by_cases h0:(zgr p).2=0
 ·rw [if_neg (by simp [h0]),if_neg (by simp [h0]),zus _ (zpC h0) (zn8 hs) (by omega) (by omega) (by omega)]
  rfl
 ·rw [if_pos (by simp [h0]),if_pos h0]
end Pu
theorem zjO:zgt 20000=some true:=by decide +kernel
theorem zr0 (p:Pulse) (l:List Int) (hs:p.Times.length<=40) (hl:l.length<=40):∃q c,zi7 20000 p l=some (q,c)/\(c=0\/c=1/\Pu.valid q=true/\q.Sparks=0/\Pu.clean q q.Times=some l/\Pu.like q p/\(∀x,x∈l->Pu.isSel q x=true)/\l.length<=24/\q.Times.length<=24):=by
 unfold zi7
 rw [Pu.Copy_eq p (by omega)]
 simp only [zam]
 rw [Pu.rCheck_eq _ (by show 0<1048576;decide) (by show 0<20000;decide)]
 simp only [zam]
 have fin:zfm 20000 l p true=some (⟨p.Letters,p.Numbers,p.Pitch,p.Slack,p.Gap,p.Pause,0,[]⟩,0):=rfl
 cases hv:Pu.valid (⟨p.Letters,p.Numbers,p.Pitch,p.Slack,p.Gap,p.Pause,0,[]⟩:Pulse) with
 | false=>exact ⟨_,0,fin,.inl rfl⟩
 | true =>
  rw [cond_true,if_neg (by decide),Pu.IsList_eq _ l (by omega) (by omega)]
  simp only [zam]
  cases hL:(l.all (Pu.isSel (⟨p.Letters,p.Numbers,p.Pitch,p.Slack,p.Gap,p.Pause,0,[]⟩:Pulse))&&decide (l.length<=24)) with
  | false=>exact ⟨_,0,fin,.inl rfl⟩
  | true =>
   simp only [Bool.and_eq_true,decide_eq_true_eq] at hL
   have hsel:∀x,x∈l->Pu.isSel (⟨p.Letters,p.Numbers,p.Pitch,p.Slack,p.Gap,p.Pause,0,[]⟩:Pulse) x=true:=List.all_eq_true.1 hL.1
   obtain ⟨w1,w2⟩:=Pu.wr_clean _ hv l 0 hsel
   unfold zfm
   rw [if_neg (by decide),zfX (by simp;omega)]
   simp only [zam,List.nil_append]
   rw [Pu.pWrite_eq _ hv (by show 0<=40;decide) l 0 hL.2 hsel (by decide) (by decide)]
   simp only [zam]
   generalize Pu.wr (⟨p.Letters,p.Numbers,p.Pitch,p.Slack,p.Gap,p.Pause,0,[]⟩:Pulse) l [] 0=r at w1 w2
   by_cases hok:r.1.length<=24/\inR r.2 0 99999=true
   ·rw [if_pos hok,if_neg (show ¬((0:Int)==131)=true by decide),zfX (by simp;omega)]
    simp only [zam,List.nil_append]
    rw [if_neg (show ¬((0:Int) != 0)=true by decide),if_neg (by simp;omega),Pu.rCheck_eq _ (by show r.1.length<1048576;omega) (by show r.1.length<20000;omega)]
    have hb:=zb1.1 hok.2
    have hrise:Pu.rise none r.1=true:=by
     rcases w2 with ⟨_,e⟩ | ⟨k,e,hk,_⟩
     ·rw [e];rfl
     ·rw [e]
      simp only [Pu.rise,Bool.and_eq_true,and_true]
      exact ⟨by decide,Pu.up_rise k 0 r.2 hk (by omega) (by omega)⟩
    have oval:Pu.valid (⟨p.Letters,p.Numbers,p.Pitch,p.Slack,p.Gap,p.Pause,0,r.1⟩:Pulse)=true:=Pu.valid_times (p:=⟨p.Letters,p.Numbers,p.Pitch,p.Slack,p.Gap,p.Pause,0,[]⟩) (k:=0) (q:=r.1) hv (by omega) (by omega) (by omega) hrise
    rw [oval]
    simp only [zam,cond_true]
    exact ⟨_,1,rfl,.inr ⟨rfl,oval,rfl,(Pu.clean_like (p:=⟨p.Letters,p.Numbers,p.Pitch,p.Slack,p.Gap,p.Pause,0,r.1⟩) (q:=⟨p.Letters,p.Numbers,p.Pitch,p.Slack,p.Gap,p.Pause,0,[]⟩) ⟨rfl,rfl,rfl,rfl,rfl,rfl⟩ _).trans w1,⟨rfl,rfl,rfl,rfl,rfl,rfl⟩,hsel,hL.2,hok.1⟩⟩
   ·rw [if_neg hok,if_pos (by decide)]
    exact ⟨_,0,rfl,.inl rfl⟩
theorem zr1 {n:Nat} (l:List Int) (x:Int) (hl:l.length<1048576) (hn:l.length<n):zif n l x=some (decide (x∈l)):=by
 refine zlO (F:=fun m i (_:Unit)=>zeX l x m i) (xs:=l) (spec:=fun k _=>some (decide (x∈k))) hl hn () (fun m s=>?_) (fun m i y k s hx hi hi' hd hrec=>?_)
 ·simp [zeX,zfL,zgM]
 ·simp only [zeX,zfL]
  rw [if_pos (by simpa using hi),hx]
  simp only [zam]
  by_cases e:y=x
  ·rw [if_pos (by simp [e])]
   simp [e]
  ·rw [if_neg (by simp [e]),hrec ()]
   congr 1
   have:(x∈y::k)↔x∈k:=by simp [Ne.symm e]
   simp only [this]
theorem zmD (p:Pulse) (l:List Int) (t:Tray):zhY 20000 p l t=some true:=by
 have jt:zce 20000 p l t true=some true:=by
  unfold zce
  rw [if_pos rfl,zjO]
  rfl
 unfold zhY
 by_cases hs:p.Times.length>40
 ·rw [if_pos (by simp;omega)];exact jt
 rw [if_neg (by simp;omega)]
 by_cases h12:l.length>12
 ·rw [if_pos (by simp;omega)];exact jt
 rw [if_neg (by simp;omega),zrN]
 simp only [zam]
 by_cases hf:(decide (t.Records.length>40) || decide (t.Presses.length>40))=true
 ·rw [if_pos hf];exact jt
 rw [if_neg hf]
 have hf1:t.Records.length<=40/\t.Presses.length<=40:=by
  simp only [Bool.or_eq_true,decide_eq_true_eq,not_or] at hf
  omega
 rw [zrK t hf1.1 hf1.2 (by decide)]
 simp only [zam]
 by_cases hk:okT t=true
 case neg =>
  rw [Bool.not_eq_true] at hk
  rw [hk,if_pos (by decide)]
  exact jt
 have V:=zrL.1 hk
 rw [hk,if_neg (by decide)]
 by_cases h5:t.Records.length<=5
 case neg =>
  rw [show decide ((t.Records.length:Int)>5)=true by simp;omega]
  exact jt
 rw [show decide ((t.Records.length:Int)>5)=false by simp;omega]
 obtain ⟨q,c,e,hc⟩:=zr0 (⟨(t.Records.length:Int),2,p.Pitch,p.Slack,p.Gap,p.Pause,p.Sparks,p.Times⟩:Pulse) l (by show p.Times.length<=40;omega) (by omega)
 unfold zce
 rw [if_neg (by decide),e]
 simp only [zam]
 rcases hc with rfl | ⟨rfl,hv,h0,hcl,hlike,hsel,hl24,hq24⟩
 ·rw [if_pos (show decide ((0:Int)<1)=true by decide),if_pos (show ((0:Int)==0)=true by decide),zjO]
  rfl
 rw [if_neg (show ¬decide ((1:Int)<1)=true by decide)]
 have hread:zfk 20000 q=some (l,0):=by
  obtain ⟨z1,z2,z3,_⟩:=Pu.zero_read hv h0 hcl
  rw [Pu.Read_eqL q (by omega) (by omega) (by decide),z1]
 rw [hread]
 simp only [zam]
 rw [if_neg (by decide),SameInts_eq l l (by omega) (by omega)]
 simp only [zam,decide_true]
 unfold zeM
 rw [if_neg (by decide),zqz t hf1.1 hf1.2]
 simp only [zam]
 have hside:∀x,x∈l->zho t.Records.length x:=fun x hx=>by
  have h:=hsel x hx
  unfold Pu.isSel at h
  rw [hlike.1,hlike.2.1] at h
  have hV:=V.len
  rw [zb1] at h
  simp only at h
  rw [zaW (x:=(t.Records.length:Int)*2) (by omega) (by omega),zaW (by omega) (by omega)] at h
  exact ⟨by omega,by omega⟩
 have main:zeL 20000 (l,0) t (l.map fun x=>(⟨x,0⟩:TrayPress))=some true:=by
  have V':ValidT (⟨t.Records,t.At,t.Way,t.Step,l.map fun x=>(⟨x,0⟩:TrayPress)⟩:Tray):=⟨V.len,V.at_,V.way,V.step,V.recs,by show (l.map _).length<=12;rw [List.length_map];omega,fun y hy=>by
   obtain ⟨x,hx,rfl⟩:=List.mem_map.1 hy
   have:=hside x hx
   unfold zn2
   rw [Bool.and_eq_true,zb1,zb1]
   exact ⟨⟨this.1,by have:=this.2;show x<=2*(t.Records.length:Int)-1;omega⟩,by show (0:Int)<=0;decide,by show (0:Int)<=9999;decide⟩⟩
  obtain ⟨ps,e2,P⟩:=zqy (n:=20000) V' (by decide)
  have hfew:ps.length<=l.length:=by have:=P.few;simpa using this
  have hone:=P.one fun y hy=>by
   obtain ⟨x,hx,rfl⟩:=List.mem_map.1 hy
   show (0:Int)<=0
   decide
  have hall:∀s,s∈l↔s∈ps.map (·.Side):=fun s=>by
   have:=P.all s
   constructor
   ·intro h
    obtain ⟨y,hy,e⟩:=this.1 ⟨⟨s,0⟩,List.mem_map.2 ⟨s,h,rfl⟩,rfl⟩
    exact List.mem_map.2 ⟨y,hy,e⟩
   ·intro h
    obtain ⟨y,hy,e⟩:=List.mem_map.1 h
    obtain ⟨z,hz,e3⟩:=this.2 ⟨y,hy,e⟩
    obtain ⟨x,hx,rfl⟩:=List.mem_map.1 hz
    rw [←e3]
    exact hx
  unfold zeL
  rw [e2]
  simp only [zam]
  rw [if_neg (by decide),show decide ((ps.length:Int)>(l.length:Int))=false by simp;omega]
  unfold zeK
  rw [if_neg (by decide)]
  have last:zfu 20000 (l,0) (ps.map (·.Side))=some true:=by
   refine zpj (fun m i (_:Unit)=>zdn 20000 (l,0) (ps.map (·.Side)) m i) l (fun _ _=>some true) (fun k _=>∀x,x∈k->x∈l) (by omega) (fun m s I=>?_) (fun m i x k s I hx hi hi' hd hrec=>?_) l 0 20000 () (by omega) rfl (by omega) (fun _ h=>h)
   ·simp only [zdn,zeS]
    rw [if_neg (by simp)]
    unfold zft
    rw [zjO]
    rfl
   ·simp only [zdn,zeS]
    rw [if_pos (by simpa using hi),hx]
    simp only [zam]
    rw [zr1 _ _ (by simp;omega) (by simp;omega)]
    simp only [zam]
    rw [if_neg (by
     have:=(hall x).1 (I x (List.mem_cons_self ..))
     simpa using this)]
    exact hrec () fun y hy=>I y (List.mem_cons_of_mem _ hy)
  refine zpj (fun m i s=>zcG 20000 (l,0) (ps,0) m s i) ps (fun _ _=>some true) (fun k s=>s++k.map (·.Side)=ps.map (·.Side)) (by omega) (fun m s I=>?_) (fun m i x k s I hx hi hi' hd hrec=>?_) ps 0 20000 [] (by omega) rfl (by omega) rfl
  ·simp only [zcG,zeT]
   rw [if_neg (by simp)]
   rw [List.map_nil,List.append_nil] at I
   rw [I]
   exact last
  ·have hlen:s.length<=ps.length:=by
    have:=congrArg List.length I
    simp only [List.length_append,List.length_map,List.length_cons] at this
    omega
   have hnot:x.Side∉s:=by
    rw [←I,List.nodup_append] at hone
    intro h
    exact hone.2.2 _ h _ (List.mem_map.2 ⟨x,List.mem_cons_self ..,rfl⟩) rfl
   have hyes:x.Side∈l:=(hall _).2 (by rw [←I];exact List.mem_append.2 (.inr (List.mem_map.2 ⟨x,List.mem_cons_self ..,rfl⟩)))
   simp only [zcG,zeT]
   rw [if_pos (by simpa using hi),hx]
   simp only [zam]
   rw [zr1 _ _ (by omega) (by omega)]
   simp only [zam]
   rw [if_neg (by simpa using hnot),zr1 _ _ (by omega) (by omega)]
   simp only [zam]
   unfold zeJ
   rw [if_neg (by simpa using hyes),hx]
   simp only [zam]
   rw [zfX (by simp;omega)]
   simp only [zam]
   exact hrec _ (by rw [List.append_assoc];exact I)
 refine zpj (fun m i s=>zdo 20000 (l,0) t m i s) l (fun _ _=>some true) (fun k s=>s++k.map (fun x=>(⟨x,0⟩:TrayPress))=l.map fun x=>(⟨x,0⟩:TrayPress)) (by omega) (fun m s I=>?_) (fun m i x k s I hx hi hi' hd hrec=>?_) l 0 20000 [] (by omega) rfl (by omega) rfl
 ·simp only [zdo,zeU]
  rw [if_neg (by simp)]
  rw [List.map_nil,List.append_nil] at I
  rw [I]
  exact main
 ·have hlen:s.length<=l.length:=by
   have:=congrArg List.length I
   simp only [List.length_append,List.length_map,List.length_cons] at this
   omega
  simp only [zdo,zeU]
  rw [if_pos (by simpa using hi),hx]
  simp only [zam]
  rw [zfX (by simp;omega)]
  simp only [zam]
  exact hrec _ (by rw [List.append_assoc];exact I)
end Go.Law
