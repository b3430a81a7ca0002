/-
  Plain laws.
  Conditions: none.
-/
import Derived.Test.YtclaalcoefcljaaMd
import Derived.Test.YtclaalcoefcljaaPlA
set_option linter.all false
namespace Go.Law
open Go Go.AM
theorem zrh {α S R:Type} (F:Nat->Int->S->Option R) (xs:List α) (spec:List α->S->Option R) (hl:xs.length<1048576) (h0:∀m s,F (m+1) (xs.length:Int) s=spec [] s)
  (hs:∀m (i:Nat) x l s,idx xs (i:Int)=some x->(i:Int)<(xs.length:Int)->i<1048576->xs.drop (i+1)=l->(∀s',F m (w64 ((i:Int)+1)) s'=spec l s')->F (m+1) (i:Int) s=spec (x::l) s) :
  ∀(l:List α) (i m:Nat) (s:S),i<=xs.length->xs.drop i=l->l.length<m->F m (i:Int) s=spec l s:=by
 intro l
 induction l with
 | nil =>
  intro i m s hi hd hm
  obtain ⟨m,rfl⟩:∃k,m=k+1:=⟨m-1,by omega⟩
  have:i=xs.length:=by have:=List.drop_eq_nil_iff.1 hd;omega
  subst this
  exact h0 m s
 | cons x l ih =>
  intro i m s hi hd hm
  obtain ⟨m,rfl⟩:∃k,m=k+1:=⟨m-1,by omega⟩
  simp only [List.length_cons] at hm
  have hlt:i<xs.length:=by
   rcases Nat.lt_or_ge i xs.length with h | h
   ·exact h
   ·rw [List.drop_eq_nil_of_le h] at hd;cases hd
  rw [List.drop_eq_getElem_cons hlt] at hd
  injection hd with h1 h2
  refine hs m i x l s (by rw [zh6 hlt,h1]) (by omega) (by omega) h2 fun s'=>?_
  rw [zdv (by omega) (by omega)]
  exact ih (i+1) m s' (by omega) h2 (by omega)
theorem zik {α S R:Type} {F:Nat->Int->S->Option R} {xs:List α} {spec:List α->S->Option R} (hl:xs.length<1048576) {n:Nat} (hn:xs.length<n) (s:S) (h0:∀m s,F (m+1) (xs.length:Int) s=spec [] s)
  (hs:∀m (i:Nat) x l s,idx xs (i:Int)=some x->(i:Int)<(xs.length:Int)->i<1048576->xs.drop (i+1)=l->(∀s',F m (w64 ((i:Int)+1)) s'=spec l s')->F (m+1) (i:Int) s=spec (x::l) s) :
  F n 0 s=spec xs s:=zrh F xs spec hl h0 hs xs 0 n s (by omega) rfl hn
theorem zpW {α S R:Type} (F:Nat->Int->S->Option R) (xs:List α) (spec:List α->S->Option R) (I:List α->S->Prop) (hl:xs.length<1048576) (h0:∀m s,I [] s->F (m+1) (xs.length:Int) s=spec [] s)
  (hs:∀m (i:Nat) x l s,I (x::l) s->idx xs (i:Int)=some x->(i:Int)<(xs.length:Int)->i<1048576->xs.drop (i+1)=l->(∀s',I l s'->F m (w64 ((i:Int)+1)) s'=spec l s')->F (m+1) (i:Int) s=spec (x::l) s) :
  ∀(l:List α) (i m:Nat) (s:S),i<=xs.length->xs.drop i=l->l.length<m->I l s->F m (i:Int) s=spec l s:=by
 intro l
 induction l with
 | nil =>
  intro i m s hi hd hm hI
  obtain ⟨m,rfl⟩:∃k,m=k+1:=⟨m-1,by omega⟩
  have:i=xs.length:=by have:=List.drop_eq_nil_iff.1 hd;omega
  subst this
  exact h0 m s hI
 | cons x l ih =>
  intro i m s hi hd hm hI
  obtain ⟨m,rfl⟩:∃k,m=k+1:=⟨m-1,by omega⟩
  simp only [List.length_cons] at hm
  have hlt:i<xs.length:=by
   rcases Nat.lt_or_ge i xs.length with h | h
   ·exact h
   ·rw [List.drop_eq_nil_of_le h] at hd;cases hd
  rw [List.drop_eq_getElem_cons hlt] at hd
  injection hd with h1 h2
  refine hs m i x l s hI (by rw [zh6 hlt,h1]) (by omega) (by omega) h2 fun s' hI'=>?_
  rw [zdv (by omega) (by omega)]
  exact ih (i+1) m s' (by omega) h2 (by omega) hI'
theorem zvH {S R:Type} (F:Nat->Int->S->Option R) (b:Nat) (spec:Nat->S->Option R) (hb:b<1048576) (h0:∀m s,F (m+1) (b:Int) s=spec b s)
  (hs:∀m (i:Nat) s,i<b->(∀s',F m (w64 ((i:Int)+1)) s'=spec (i+1) s')->F (m+1) (i:Int) s=spec i s) :
  ∀(d i m:Nat) (s:S),d=b-i->i<=b->d<m->F m (i:Int) s=spec i s:=by
 intro d
 induction d with
 | zero =>
  intro i m s hd hi hm
  obtain ⟨m,rfl⟩:∃k,m=k+1:=⟨m-1,by omega⟩
  have:i=b:=by omega
  subst this
  exact h0 m s
 | succ d ih =>
  intro i m s hd hi hm
  obtain ⟨m,rfl⟩:∃k,m=k+1:=⟨m-1,by omega⟩
  refine hs m i s (by omega) fun s'=>?_
  rw [zdv (by omega) (by omega)]
  exact ih (i+1) m s' (by omega) (by omega) (by omega)
theorem zac {α β:Type} (a:α) (f:α->Option β):Option.bind (some a) f=f a:=rfl
theorem zje (a b c:Int):zcR a b c=some (inR a b c):=by
 unfold zcR zdN inR
 by_cases h:b<=a<;>simp [h]
def okB (w:Wire) (a b:Int):Bool:=inR a 0 (w.Letters-1)&&inR b 0 (w.Numbers-1)
def zd7 (w:Wire):Prop:=(1<=w.Letters/\w.Letters<=5)/\(1<=w.Numbers/\w.Numbers<=5)
theorem zjT {w:Wire} (h:zd7 w) (a b:Int):zew w a b=some (okB w a b):=by
 obtain ⟨h1,h2⟩:=h
 unfold zew zdp okB
 rw [zdv (by omega) (by omega),zdv (by omega) (by omega)]
 simp only [zje,zac]
 by_cases h:inR a 0 (w.Letters-1)=true<;>simp [h]
def okP (w:Wire) (p:WirePress):Bool:=okB w p.Letter p.Number&&inR p.Got (-1) (w.Letters*w.Numbers-1)
def okW (w:Wire):Bool:=inR w.Letters 1 5&&inR w.Numbers 1 5&&inR w.Faults 0 3&&decide (w.Presses.length<=8)&&w.Presses.all (okP w)
theorem zoH {w:Wire}:okW w=true↔zd7 w/\(0<=w.Faults/\w.Faults<=3)/\w.Presses.length<=8/\∀p,p∈w.Presses->okP w p=true:=by
 simp only [okW,zd7,Bool.and_eq_true,zeN,decide_eq_true_eq,List.all_eq_true]
 constructor
 ·rintro ⟨⟨⟨⟨a,b⟩,c⟩,d⟩,e⟩;exact ⟨⟨a,b⟩,c,d,e⟩
 ·rintro ⟨⟨a,b⟩,c,d,e⟩;exact ⟨⟨⟨⟨a,b⟩,c⟩,d⟩,e⟩
theorem zoI {w:Wire} (h:zd7 w):0<=w.Letters*w.Numbers/\w.Letters*w.Numbers<=25:=by
 obtain ⟨h1,h2⟩:=h
 refine ⟨Int.mul_nonneg (by omega) (by omega),?_⟩
 have:=Int.mul_le_mul h1.2 h2.2 (by omega) (by omega)
 simpa using this
theorem zvI {w:Wire} (h:zd7 w) (p:WirePress):zds p w=some (!okP w p):=by
 have hm:=zoI h
 unfold zds zda okP
 rw [zjT h,zac,zdv (x:=w.Letters*w.Numbers) (by omega) (by omega),zdv (by omega) (by omega),zje,zac]
 by_cases hb:okB w p.Letter p.Number=true<;>simp [hb]
theorem zoJ {n:Nat} (f:WirePress->Option Bool) (g:WirePress->Bool) (xs:List WirePress) (hf:∀x,x∈xs->f x=some (g x)) (hl:xs.length<1048576) (hn:xs.length<n) :
  zbu n (fun x (_:Unit)=>(f x).map fun y=>(y,())) xs ()=some (xs.any g,()):=by
 have key:∀(l:List WirePress) (i m:Nat) (s:Unit),i<=xs.length->xs.drop i=l->l.length<m->(zaw xs (fun x (_:Unit)=>(f x).map fun y=>(y,())) m (i:Int) s).map (fun r=>decide (r.1≥0))=some (l.any g):=by
  intro l i m s h1 h2 h3
  refine zrh (fun m i s=>(zaw xs (fun x (_:Unit)=>(f x).map fun y=>(y,())) m i s).map (fun r=>decide (r.1≥0))) xs (fun l _=>some (l.any g)) hl (fun m s=>?_) (fun m i x l s hx hi hi' hd hrec=>?_) l i m s h1 h2 h3
  ·simp [zaw,zbi,zbt]
  ·have hmem:x∈xs:=by
    unfold idx at hx
    rw [if_pos (by omega)] at hx
    exact List.mem_of_getElem? hx
   simp only [zaw,zbi]
   rw [if_pos (by simpa using hi),hx,zac,hf x hmem]
   simp only [Option.map_some,zac]
   by_cases hg:g x=true
   ·rw [if_pos hg]
    simp [hg]
   ·rw [if_neg hg]
    have:=hrec ()
    rw [this]
    simp [hg]
 have h:=key xs 0 n () (by omega) rfl hn
 unfold zbu zcw
 change Option.map _ (zaw xs _ n 0 ())=_ at h
 cases hq:zaw xs (fun x (_:Unit)=>(f x).map fun y=>(y,())) n 0 () with
 | none=>rw [hq] at h;cases h
 | some r =>
  rw [hq] at h
  simp only [Option.map_some,Option.some.injEq] at h
  simp only [zac]
  rw [←h]
theorem zpX {n:Nat} (w:Wire) (hn:100<=n):zga n w=some (cond (okW w) 0 110):=by
 unfold zga
 simp only [zje,zac]
 by_cases h1:inR w.Letters 1 5=true
 ·rw [if_neg (by simp [h1])]
  by_cases h2:inR w.Numbers 1 5=true
  ·rw [if_neg (by simp [h2])]
   by_cases h3:inR w.Faults 0 3=true
   ·rw [if_neg (by simp [h3])]
    by_cases h4:w.Presses.length<=8
    ·rw [if_neg (by simp;omega)]
     have hs:zd7 w:=⟨zeN.1 h1,zeN.1 h2⟩
     rw [zoJ (fun x=>zds x w) (fun p=>!okP w p) w.Presses (fun x _=>zvI hs x) (by omega) (by omega),zac]
     unfold zbz okW
     simp only [h1,h2,h3,h4,decide_true,Bool.true_and]
     by_cases h5:w.Presses.all (okP w)=true
     ·rw [if_neg]
      ·simp [h5]
      ·simp only [List.any_eq_true,not_exists,not_and]
       intro x hx
       have:=List.all_eq_true.1 h5 x hx
       simp [this]
     ·rw [if_pos]
      ·simp [h5]
      ·simp only [List.any_eq_true]
       simp only [List.all_eq_true,Classical.not_forall] at h5
       obtain ⟨x,hx,h⟩:=h5
       exact ⟨x,hx,by simpa using h⟩
    ·rw [if_pos (by simp;omega)]
     simp [zbz,okW,h4]
   ·rw [if_pos (by simpa using h3)]
    simp [zbz,okW,h3]
  ·rw [if_pos (by simpa using h2)]
   simp [zbz,okW,h2]
 ·rw [if_pos (by simpa using h1)]
  simp [zbz,okW,h1]
theorem ziC {α:Type} {N:Nat} {xs:List α} {i:Nat} (hl:xs.length=N) (h:i<xs.length):zkm N xs (i:Int)=some xs[i]:=by
 unfold zkm
 rw [if_pos hl,zh6 h]
theorem zmx {α:Type} {N:Nat} {xs:List α} {z:Int} (hl:xs.length=N) (h0:0<=z) (h:z.toNat<xs.length):zkm N xs z=some xs[z.toNat]:=by
 obtain ⟨i,rfl⟩:=Int.eq_ofNat_of_zero_le h0
 exact ziC hl h
theorem zoK {α:Type} {N:Nat} {xs:List α} (hl:xs.length=N) (h:0<N):zqz N xs=some ():=if_pos ⟨hl,h⟩
abbrev ztQ:TrayPress->TrayPress->Unit->Option (Int×Unit):=fun (x0:TrayPress) (x1:TrayPress) (_:Unit)=>(zfQ x0 x1).map fun y=>(y,())
theorem zoL (x y:TrayPress) (u:Unit):∃z:Int,ztQ x y u=some (z,()):=⟨_,rfl⟩
theorem ztR {N:Nat} (hN:N<=100) (rec1:Int->List TrayPress->Unit->Option (Unit×(List TrayPress×Unit))) (v2:Int):∀(k m:Nat) (ys:List TrayPress),k<m->k<N->ys.length=N ->
  ∃zs,zs.Perm ys/\zal rec1 0 ztQ N v2 m (k:Int) ys ()=rec1 (w64 (v2+1)) zs ():=by
 intro k
 induction k with
 | zero =>
  intro m ys hm hk hl
  obtain ⟨m,rfl⟩:∃q,m=q+1:=⟨m-1,by omega⟩
  refine ⟨ys,.refl _,?_⟩
  simp [zal,zaK,zaD,zaQ]
 | succ k ih =>
  intro m ys hm hk hl
  obtain ⟨m,rfl⟩:∃q,m=q+1:=⟨m-1,by omega⟩
  have e1:w64 (((k+1:Nat):Int)-1)=(k:Int):=by rw [zdv (by omega) (by omega)];omega
  have i1:zkm N ys ((k+1:Nat):Int)=some ys[k+1]:=ziC hl (by omega)
  have i2:zkm N ys (k:Int)=some ys[k]:=ziC hl (by omega)
  obtain ⟨z,hz⟩:=zoL ys[k+1] ys[k] ()
  unfold zal zaK
  rw [if_pos (by simp<;>omega),e1,i1,i2]
  simp only [zac]
  rw [hz]
  simp only [zac]
  unfold zaD
  by_cases hb:z<0
  ·rw [if_pos (by simpa using hb),e1,i1,i2]
   simp only [zac]
   have i3:zkm N (ys.set (Int.toNat ((k+1:Nat):Int)) ys[k]) (k:Int)=some ((ys.set (Int.toNat ((k+1:Nat):Int)) ys[k])[k]'(by simp;omega)):=ziC (by simp [hl]) (by simp;omega)
   rw [i3]
   simp only [zac,Int.toNat_natCast]
   obtain ⟨zs,hp,he⟩:=ih m ((ys.set (k+1) ys[k]).set k ys[k+1]) (by omega) (by omega) (by simp [hl])
   exact ⟨zs,hp.trans (List.set_set_perm (by omega) (by omega)),he⟩
  ·rw [if_neg (by simpa using hb)]
   exact ⟨ys,.refl _,rfl⟩
theorem ztS {N n:Nat} (hN:N<=100) (hn:200<=n):∀(d i m:Nat) (ys:List TrayPress),d=N-i->i<=N->d<m->ys.length=N ->
  ∃zs,zs.Perm ys/\zab n 0 (N:Int) ztQ N m (i:Int) ys ()=some ((),(zs,())):=by
 intro d
 induction d with
 | zero =>
  intro i m ys hd hi hm hl
  obtain ⟨m,rfl⟩:∃q,m=q+1:=⟨m-1,by omega⟩
  refine ⟨ys,.refl _,?_⟩
  unfold zab zaL
  rw [if_neg (by simp;omega)]
 | succ d ih =>
  intro i m ys hd hi hm hl
  obtain ⟨m,rfl⟩:∃q,m=q+1:=⟨m-1,by omega⟩
  unfold zab zaL
  rw [if_pos (by simp;omega)]
  obtain ⟨zs,hp,he⟩:=ztR hN (zab n 0 (N:Int) ztQ N m) (i:Int) i n ys (by omega) (by omega) hl
  rw [he,zdv (by omega) (by omega)]
  obtain ⟨us,hq,hf⟩:=ih (i+1) m zs (by omega) (by omega) (by omega) (by rw [hp.length_eq,hl])
  exact ⟨us,hq.trans hp,hf⟩
theorem zri {n:Nat} (hn:200<=n) (xs:List TrayPress) (h0:0<xs.length) (hl:xs.length<=19):∃zs,zs.Perm xs/\zbh n ztQ xs.length (xs,())=some ((),(zs,())):=by
 obtain ⟨n,rfl⟩:∃q,n=q+1:=⟨n-1,by omega⟩
 obtain ⟨zs,hp,he⟩:=ztS (N:=xs.length) (n:=n+1) (by omega) hn (xs.length-1) 1 (n+1) xs rfl (by omega) (by omega) rfl
 refine ⟨zs,hp,?_⟩
 unfold zbh zb6 zaV zbC
 rw [if_neg (by simp;omega)]
 unfold zba zaY
 rw [show w64 ((0:Int)+1)=((1:Nat):Int) from by decide +kernel,he]
 simp only [zac]
 unfold zak zbB
 rw [if_neg (by simp;omega)]
 rfl
theorem zpY {n:Nat} (hn:2<=n):zbb n=some ():=by
 obtain ⟨n,rfl⟩:∃q,n=q+1:=⟨n-1,by omega⟩
 unfold zbb zbU zaN zbs
 rw [if_neg (by decide)]
 unfold za3 zaW zad za1
 rw [show w64 ((0:Int)+1)=1 from by decide +kernel,if_neg (by decide)]
 simp only [zac]
 unfold zag zbr
 rw [if_neg (by decide)]
 rfl
def nxp (R:Nat) (p:Int×Int):Int×Int:=if 0<=p.1+p.2/\p.1+p.2<R then (p.1+p.2,p.2) else (p.1,-p.2)
def sdp (p:Int×Int):Int:=if p.2<0 then 2*p.1+1 else 2*p.1
def itp (R:Nat):Nat->Int×Int->Int×Int
 | 0,p=>p
 | k+1,p=>itp R k (nxp R p)
def okp (R:Nat) (p:Int×Int):Prop:=(0<=p.1/\p.1<R)/\(p.2=1\/p.2=-1)
theorem ztT {R:Nat} {p:Int×Int} (h:okp R p):okp R (nxp R p):=by
 obtain ⟨⟨h1,h2⟩,h3⟩:=h
 unfold nxp
 split
 ·exact ⟨by assumption,h3⟩
 ·exact ⟨⟨h1,h2⟩,by rcases h3 with h3 | h3<;>simp [h3]⟩
theorem zqB {R:Nat} {p:Int×Int} (h:okp R p):0<=sdp p/\sdp p<2*R:=by
 obtain ⟨⟨h1,h2⟩,h3⟩:=h
 unfold sdp
 split<;>omega
def zqC:Bool:=(List.range 7).all fun R=>(List.range R).all fun a=>[1,-1].all fun w=>(List.range (2*R)).all fun s=>(List.range (2*R)).any fun k=>sdp (itp R k ((a:Int),w))==(s:Int)
theorem zoM:zqC=true:=by decide +kernel
theorem zpZ {R:Nat} (hR:R<=6) {p:Int×Int} (h:okp R p) {s:Nat} (hs:s<2*R):∃k,k<2*R/\sdp (itp R k p)=(s:Int):=by
 obtain ⟨⟨h1,h2⟩,h3⟩:=h
 obtain ⟨a,w⟩:=p
 simp only at h1 h2 h3
 obtain ⟨a,rfl⟩:=Int.eq_ofNat_of_zero_le h1
 have hb:=zoM
 unfold zqC at hb
 have h4:=List.all_eq_true.1 (List.all_eq_true.1 (List.all_eq_true.1 (List.all_eq_true.1 hb R (List.mem_range.2 (by omega))) a (List.mem_range.2 (by omega))) w (by rcases h3 with rfl | rfl<;>simp)) s (List.mem_range.2 hs)
 obtain ⟨k,hk,e⟩:=List.any_eq_true.1 h4
 exact ⟨k,List.mem_range.1 hk,eq_of_beq e⟩
theorem mark_eq (s:Int) (st:Carriage_) (h:st.run.spells.length<1048576):zbI s st=some ((),(⟨st.t,st.queue,st.pins,st.now,⟨st.at_.At,st.at_.Way,s⟩,⟨st.run.spells++[⟨⟨st.at_.At,st.at_.Way,s⟩,st.now⟩],st.run.plays,st.run.steps,st.run.end_⟩⟩:Carriage_)):=by
 unfold zbI
 rw [zjL (by simp;omega)]
 rfl
def prs (now:Int):List TrayPress->List Bool->List TrayPress×List Bool
 | [],ps=>([],ps)
 | p::q,ps=>if p.Time<=now then prs now q (ps.set p.Side.toNat true) else (p::q,ps)
def zfI (R:Nat) (s:Int):Prop:=0<=s/\s<2*R
theorem zp0 {R:Nat} (st:Carriage_) (hR:st.t.Records.length=R):∀(q:List TrayPress) (m:Nat) (ps:List Bool),q.length<m->q.length<1048576->(∀p,p∈q->zfI R p.Side)->ps.length=2*R ->
  za4 st m q ps=some ((),(⟨st.t,(prs st.now q ps).1,(prs st.now q ps).2,st.now,st.at_,st.run⟩:Carriage_)):=by
 intro q
 induction q with
 | nil =>
  intro m ps hm _ _ _
  obtain ⟨m,rfl⟩:∃k,m=k+1:=⟨m-1,by omega⟩
  rfl
 | cons p q ih =>
  intro m ps hm hl hq hp
  obtain ⟨m,rfl⟩:∃k,m=k+1:=⟨m-1,by omega⟩
  simp only [List.length_cons] at hm hl
  unfold za4 zc9
  rw [if_pos (by simp),show idx (p::q) 0=some p from rfl]
  simp only [zac]
  unfold zch
  obtain ⟨s1,s2⟩:=hq p (List.mem_cons_self ..)
  by_cases h:p.Time<=st.now
  ·rw [if_pos (by simpa using h),show idx (p::q) 0=some p from rfl]
   simp only [zac]
   rw [hR,zmx hp s1 (by omega)]
   simp only [zac]
   have hc:cut (p::q) 1 ((p::q).length:Int)=some q:=by
    unfold cut
    rw [if_pos (by simp;omega)]
    simp
   rw [hc]
   simp only [zac]
   rw [ih m _ (by omega) (by omega) (fun x hx=>hq x (List.mem_cons_of_mem _ hx)) (by simpa using hp)]
   simp only [prs,if_pos h]
  ·rw [if_neg (by simpa using h)]
   simp only [prs,if_neg h]
theorem zp1 {R n:Nat} (st:Carriage_) (hR:st.t.Records.length=R) (hn:st.queue.length<n) (hl:st.queue.length<1048576) (hq:∀p,p∈st.queue->zfI R p.Side) (hp:st.pins.length=2*R) :
  zel n st=some ((),(⟨st.t,(prs st.now st.queue st.pins).1,(prs st.now st.queue st.pins).2,st.now,st.at_,st.run⟩:Carriage_)):=zp0 st hR _ _ _ hn hl hq hp
theorem zp2 {n:Nat} (l:List Bool) (hl:l.length<1048576) (hn:l.length<n):zc3 n l true=some (decide (true∈l)):=by
 have key:(zdZ n l true).map (fun r=>decide (r≥0))=some (decide (true∈l)):=by
  refine zik (F:=fun m i (_:Unit)=>(zbH l true m i).map fun r=>decide (r≥0)) (spec:=fun k _=>some (decide (true∈k))) hl hn () (fun m s=>?_) (fun m i x k s hx hi hi' hd hrec=>?_)
  ·simp [zbH,zcL,zc2]
  ·simp only [zbH,zcL]
   rw [if_pos (by simpa using hi),hx,zac]
   cases x with
   | true=>simp
   | false=>simpa using hrec ()
 unfold zc3
 cases h:zdZ n l true with
 | none=>rw [h] at key;cases key
 | some r=>rw [h] at key;simpa using key
theorem zoN {R:Nat} {t:Tray} (hR:t.Records.length=R) {s:Int} (hs:zfI R s) (hl:R<=6):∃d,zhN t s=some d:=by
 obtain ⟨h1,h2⟩:=hs
 unfold zhN
 rw [zqw h1 (by decide)]
 simp only [zac]
 have hq:quo s 2=some ((s / 2).toNat:Int):=by rw [zqv h1 (by decide) (by omega)];congr 1;omega
 rw [hq]
 have hi:idx t.Records ((s / 2).toNat:Int)=some t.Records[(s / 2).toNat]:=zh6 (by omega)
 split
 ·simp only [zac]
  rw [hi]
  exact ⟨_,rfl⟩
 ·simp only [zac]
  rw [hi]
  exact ⟨_,rfl⟩
structure Next (R:Nat) (st st':Carriage_):Prop where
 t:st'.t=st.t
 queue:st'.queue=st.queue
 pins:st'.pins=st.pins
 plays:st'.run.plays=st.run.plays
 pos:(st'.at_.At,st'.at_.Way)=nxp R (st.at_.At,st.at_.Way)
 spells:st'.run.spells.length=st.run.spells.length+1
theorem zoO {R:Nat} (st:Carriage_) (hR:st.t.Records.length=R) (hl:R<=6) (hp:okp R (st.at_.At,st.at_.Way)) (hs:st.run.spells.length<1048576):∃st',zdx st=some ((),st')/\Next R st st':=by
 obtain ⟨⟨h1,h2⟩,h3⟩:=hp
 simp only at h1 h2 h3
 have e1:w64 (st.at_.At+st.at_.Way)=st.at_.At+st.at_.Way:=zdv (by omega) (by omega)
 have e2:w64 (0-st.at_.Way)=-st.at_.Way:=by rw [zdv (by omega) (by omega)];omega
 have yes:0<=st.at_.At+st.at_.Way/\st.at_.At+st.at_.Way<R->∃st',zbd st true=some ((),st')/\Next R st st':=fun h=>by
  unfold zbd zbW
  rw [if_pos rfl,mark_eq _ _ (by exact hs)]
  refine ⟨_,rfl,⟨rfl,rfl,rfl,rfl,?_,by simp⟩⟩
  simp only [e1]
  unfold nxp
  rw [if_pos h]
 have no:¬(0<=st.at_.At+st.at_.Way/\st.at_.At+st.at_.Way<R)->∃st',zbd st false=some ((),st')/\Next R st st':=fun h=>by
  unfold zbd zbW
  rw [if_neg (by decide),mark_eq _ _ (by exact hs)]
  refine ⟨_,rfl,⟨rfl,rfl,rfl,rfl,?_,by simp⟩⟩
  simp only [e2]
  unfold nxp
  rw [if_neg h]
 unfold zdx
 rw [e1,hR]
 by_cases ha:0<=st.at_.At+st.at_.Way
 ·rw [if_pos (by simpa using ha)]
  by_cases hb:st.at_.At+st.at_.Way<R
  ·rw [show decide (st.at_.At+st.at_.Way<(R:Int))=true by simpa using hb]
   exact yes ⟨ha,hb⟩
  ·rw [show decide (st.at_.At+st.at_.Way<(R:Int))=false by simpa using hb]
   exact no fun h=>hb h.2
 ·rw [if_neg (by simpa using ha)]
  exact no fun h=>ha h.1
theorem ztU {R n:Nat} (st:Carriage_) (hR:st.t.Records.length=R) (hR0:0<R) (hl:R<=6) (hpos:okp R (st.at_.At,st.at_.Way)) (hn:100<=n) (hql:st.queue.length<50) (hq:∀p,p∈st.queue->zfI R p.Side) (hp:st.pins.length=2*R)
  (hs:st.run.spells.length<1000000) (hy:st.run.plays.length<1000000) {q':List TrayPress} {ps':List Bool} (he:prs st.now st.queue st.pins=(q',ps')) (hps:ps'.length=2*R) :
  ∃b st',zcj n st=some (b,st')/\st'.t=st.t/\st'.queue=q' /\
   ((true∉ps'/\q'=[]/\b=false/\st'.pins=ps'/\st'.run.plays=st.run.plays/\st'.at_=st.at_/\st'.run.spells=st.run.spells) \/
   (true∉ps'/\(∃p k,q'=p::k/\st'.now=p.Time)/\b=true/\st'.pins=ps'/\st'.run.plays=st.run.plays/\st'.at_=st.at_/\st'.run.spells=st.run.spells) \/
   (true∈ps'/\ps'[(sdp (st.at_.At,st.at_.Way)).toNat]?=some false/\b=true/\st'.pins=ps'/\st'.run.plays=st.run.plays/\(st'.at_.At,st'.at_.Way)=nxp R (st.at_.At,st.at_.Way)/\st'.run.spells.length=st.run.spells.length+1) \/
   (true∈ps'/\ps'[(sdp (st.at_.At,st.at_.Way)).toNat]?=some true/\b=true/\st'.pins=ps'.set (sdp (st.at_.At,st.at_.Way)).toNat false/\st'.run.plays=st.run.plays++[⟨sdp (st.at_.At,st.at_.Way),st.now⟩]/\(st'.at_.At,st'.at_.Way)=nxp R (st.at_.At,st.at_.Way)/\st'.run.spells.length=st.run.spells.length+3)):=by
 have hsd:=zqB hpos
 obtain ⟨⟨h1,h2⟩,h3⟩:=id hpos
 simp only at h1 h2 h3
 unfold zcj
 rw [zp1 st hR (by omega) (by omega) hq hp,he]
 simp only [zac]
 rw [hR,zoK hps (by omega),zac,zp2 ps' (by omega) (by omega),zac]
 by_cases hT:true∈ps'
 ·rw [if_neg (by simp [hT])]
  have hj:∀s:Int,s=sdp (st.at_.At,st.at_.Way)->∃b st',zca ((),(⟨st.t,q',ps',st.now,st.at_,st.run⟩:Carriage_)) s=some (b,st')/\st'.t=st.t/\st'.queue=q' /\
   ((true∈ps'/\ps'[(sdp (st.at_.At,st.at_.Way)).toNat]?=some false/\b=true/\st'.pins=ps'/\st'.run.plays=st.run.plays/\(st'.at_.At,st'.at_.Way)=nxp R (st.at_.At,st.at_.Way)/\st'.run.spells.length=st.run.spells.length+1) \/
   (true∈ps'/\ps'[(sdp (st.at_.At,st.at_.Way)).toNat]?=some true/\b=true/\st'.pins=ps'.set (sdp (st.at_.At,st.at_.Way)).toNat false/\st'.run.plays=st.run.plays++[⟨sdp (st.at_.At,st.at_.Way),st.now⟩]/\(st'.at_.At,st'.at_.Way)=nxp R (st.at_.At,st.at_.Way)/\st'.run.spells.length=st.run.spells.length+3)):=by
   rintro s rfl
   generalize hsg:sdp (st.at_.At,st.at_.Way)=s at hsd ⊢
   have hlt:s.toNat<ps'.length:=by omega
   unfold zca
   simp only [hR]
   rw [zmx hps hsd.1 hlt]
   simp only [zac]
   have hg:ps'[s.toNat]?=some ps'[s.toNat]:=List.getElem?_eq_getElem hlt
   by_cases hb:ps'[s.toNat]=true
   ·rw [if_pos hb,zjL (by simp;omega)]
    simp only [zac]
    rw [mark_eq _ _ (by show st.run.spells.length<1048576;omega)]
    simp only [zac]
    obtain ⟨d,hd⟩:=zoN hR hsd hl
    rw [hd]
    simp only [zac]
    rw [mark_eq _ _ (by simp;omega)]
    simp only [zac]
    unfold zb9
    obtain ⟨st',e,hx⟩:=zoO (R:=R) (⟨⟨st.t.Records,st.t.At,st.t.Way,st.t.Step,st.t.Presses⟩,q',ps'.set s.toNat false,w64 (st.now+d),⟨st.at_.At,st.at_.Way,-1⟩,⟨(st.run.spells++[⟨⟨st.at_.At,st.at_.Way,s⟩,st.now⟩])++[⟨⟨st.at_.At,st.at_.Way,-1⟩,w64 (st.now+d)⟩],st.run.plays++[⟨s,st.now⟩],st.run.steps,w64 (st.now+d)⟩⟩:Carriage_) hR hl hpos (by simp;omega)
    rw [e]
    refine ⟨true,st',rfl,hx.t,hx.queue,.inr ⟨hT,by rw [hg,hb],rfl,hx.pins,hx.plays,hx.pos,?_⟩⟩
    rw [hx.spells]
    simp
   ·rw [if_neg hb]
    unfold zb9
    obtain ⟨st',e,hx⟩:=zoO (R:=R) (⟨⟨st.t.Records,st.t.At,st.t.Way,st.t.Step,st.t.Presses⟩,q',ps',st.now,⟨st.at_.At,st.at_.Way,st.at_.Side⟩,⟨st.run.spells,st.run.plays,st.run.steps,st.run.end_⟩⟩:Carriage_) hR hl hpos (by show st.run.spells.length<1048576;omega)
    rw [e]
    exact ⟨true,st',rfl,hx.t,hx.queue,.inl ⟨hT,by rw [hg,Bool.eq_false_iff.2 hb],rfl,hx.pins,hx.plays,hx.pos,hx.spells⟩⟩
  by_cases hw:st.at_.Way<0
  ·rw [if_pos (by simpa using hw)]
   obtain ⟨b,st',e,a1,a2,a3⟩:=hj (w64 ((w64 (2*st.at_.At))+1)) (by
    rw [zdv (x:=2*st.at_.At) (by omega) (by omega),zdv (by omega) (by omega)]
    unfold sdp
    rw [if_pos hw])
   exact ⟨b,st',e,a1,a2,.inr (.inr a3)⟩
  ·rw [if_neg (by simpa using hw)]
   obtain ⟨b,st',e,a1,a2,a3⟩:=hj (w64 (2*st.at_.At)) (by
    rw [zdv (x:=2*st.at_.At) (by omega) (by omega)]
    unfold sdp
    rw [if_neg hw])
   exact ⟨b,st',e,a1,a2,.inr (.inr a3)⟩
 ·rw [if_pos (by simp [hT])]
  cases q' with
  | nil =>
   rw [if_pos (by decide)]
   exact ⟨_,_,rfl,rfl,rfl,.inl ⟨hT,rfl,rfl,rfl,rfl,rfl,rfl⟩⟩
  | cons p k =>
   rw [if_neg (by simp;omega),show idx (p::k) 0=some p from rfl]
   exact ⟨_,_,rfl,rfl,rfl,.inr (.inl ⟨hT,⟨p,k,rfl,rfl⟩,rfl,rfl,rfl,rfl,rfl⟩)⟩
theorem zlg (l:List Bool) (i:Nat):(l.set i true).count true<=l.count true+1:=by
 induction l generalizing i with
 | nil=>simp
 | cons b l ih =>
  cases i with
  | zero=>cases b<;>simp
  | succ i =>
   have:=ih i
   simp only [List.set_cons_succ,List.count_cons]
   omega
theorem zjf (l:List Bool) (i:Nat) (h:l[i]?=some true):(l.set i false).count true+1=l.count true:=by
 induction l generalizing i with
 | nil=>simp at h
 | cons b l ih =>
  cases i with
  | zero=>simp at h;subst h;simp
  | succ i =>
   have:=ih i (by simpa using h)
   simp only [List.set_cons_succ,List.count_cons]
   omega
def zmy (ps:List Bool) (s:Int):Prop:=∃i:Nat,s=(i:Int)/\ps[i]?=some true
def quT (q:List TrayPress) (s:Int):Prop:=∃p,p∈q/\p.Side=s
theorem zp3 {R:Nat} {ps:List Bool} {a s:Int} (hl:ps.length=2*R) (ha:zfI R a):zmy (ps.set a.toNat true) s↔s=a\/zmy ps s:=by
 obtain ⟨h1,h2⟩:=ha
 constructor
 ·rintro ⟨i,rfl,hi⟩
  by_cases e:i=a.toNat
  ·exact .inl (by omega)
  ·rw [List.getElem?_set_ne (by omega)] at hi
   exact .inr ⟨i,rfl,hi⟩
 ·intro h
  by_cases e:s=a
  ·subst e
   exact ⟨s.toNat,by omega,by rw [List.getElem?_set_self (by omega)]⟩
  ·rcases h with h | ⟨i,rfl,hi⟩
   ·exact absurd h e
   ·exact ⟨i,rfl,by rw [List.getElem?_set_ne (by omega)];exact hi⟩
theorem zjU {ps:List Bool} {a s:Int} (h0:0<=a):zmy (ps.set a.toNat false) s->s≠a/\zmy ps s:=by
 rintro ⟨i,rfl,hi⟩
 by_cases e:i=a.toNat
 ·subst e
  rw [List.getElem?_set] at hi
  simp at hi
 ·rw [List.getElem?_set_ne (by omega)] at hi
  exact ⟨by omega,i,rfl,hi⟩
theorem zoP {ps:List Bool} {a s:Int} (h:zmy ps s) (hne:s≠a) (h0:0<=a):zmy (ps.set a.toNat false) s:=by
 obtain ⟨i,rfl,hi⟩:=h
 exact ⟨i,rfl,by rw [List.getElem?_set_ne (by omega)];exact hi⟩
structure Prs (R:Nat) (now:Int) (q:List TrayPress) (ps:List Bool) (q':List TrayPress) (ps':List Bool):Prop where
 len:ps'.length=ps.length
 mem:∀p,p∈q'->p∈q
 cnt:q'.length+ps'.count true<=q.length+ps.count true
 shorter:q'.length<q.length\/(q'=q/\ps'=ps)
 union:∀s,(zmy ps' s\/quT q' s)↔(zmy ps s\/quT q s)
 past:(∀p,p∈q->p.Time<=now)->q'=[]
 head:∀p k,q'=p::k->¬p.Time<=now
theorem zmz {R:Nat} (now:Int):∀(q:List TrayPress) (ps:List Bool),(∀p,p∈q->zfI R p.Side)->ps.length=2*R->Prs R now q ps (prs now q ps).1 (prs now q ps).2
 | [],ps,_,_=>⟨rfl,fun _ h=>h,Nat.le_refl _,.inr ⟨rfl,rfl⟩,fun _=>Iff.rfl,fun _=>rfl,fun p k h=>by cases h⟩
 | p::q,ps,hq,hl=>by
  unfold prs
  by_cases h:p.Time<=now
  ·rw [if_pos h]
   have hp:=hq p (List.mem_cons_self ..)
   have ih:=zmz (R:=R) now q (ps.set p.Side.toNat true) (fun x hx=>hq x (List.mem_cons_of_mem _ hx)) (by simpa using hl)
   have hc:=zlg ps p.Side.toNat
   refine ⟨by rw [ih.len];simp,fun x hx=>List.mem_cons_of_mem _ (ih.mem x hx),?_,?_,fun s=>?_,fun ha=>ih.past fun x hx=>ha x (List.mem_cons_of_mem _ hx),ih.head⟩
   ·have:=ih.cnt
    simp only [List.length_cons]
    omega
   ·refine .inl ?_
    rcases ih.shorter with h1 | ⟨h1,_⟩
    ·simp only [List.length_cons];omega
    ·rw [h1];simp
   ·rw [ih.union s,zp3 hl hp]
    constructor
    ·rintro ((rfl | h1) | ⟨x,hx,rfl⟩)
     ·exact .inr ⟨p,List.mem_cons_self ..,rfl⟩
     ·exact .inl h1
     ·exact .inr ⟨x,List.mem_cons_of_mem _ hx,rfl⟩
    ·rintro (h1 | ⟨x,hx,rfl⟩)
     ·exact .inl (.inr h1)
     ·rcases List.mem_cons.1 hx with rfl | hx
      ·exact .inl (.inl rfl)
      ·exact .inr ⟨x,hx,rfl⟩
  ·rw [if_neg h]
   exact ⟨rfl,fun _ h=>h,Nat.le_refl _,.inr ⟨rfl,rfl⟩,fun _=>Iff.rfl,fun ha=>absurd (ha p (List.mem_cons_self ..)) h,fun x k e=>by injection e with e1 e2;subst e1;exact h⟩
def plT (l:List TrayPlay) (s:Int):Prop:=∃y,y∈l/\y.Side=s
structure Inv (R N:Nat) (L:Int->Prop) (z:Prop) (st:Carriage_):Prop where
 hR:st.t.Records.length=R
 pos:okp R (st.at_.At,st.at_.Way)
 q:∀p,p∈st.queue->zfI R p.Side
 pins:st.pins.length=2*R
 cnt:st.run.plays.length+(st.queue.length+st.pins.count true)<=N
 side:∀y,y∈st.run.plays->zfI R y.Side
 all:∀s,L s↔plT st.run.plays s\/(zmy st.pins s\/quT st.queue s)
 one:z->(∀p,p∈st.queue->p.Time<=st.now)/\(st.queue=[]\/st.run.plays=[])/\(st.run.plays.map (·.Side)).Nodup/\∀y,y∈st.run.plays->¬zmy st.pins y.Side
structure Dst (R:Nat) (st:Carriage_) (d:Nat):Prop where
 le:d<=2*R+1
 some:true∈st.pins->st.pins[(sdp (itp R d (st.at_.At,st.at_.Way))).toNat]?=some true
 none:true∉st.pins->∀p k,st.queue=p::k->¬p.Time<=st.now->1<=d
theorem zmA {R:Nat} (st:Carriage_) (hR:R<=6) (hp:okp R (st.at_.At,st.at_.Way)) (hl:st.pins.length=2*R):∃d,Dst R st d:=by
 by_cases h:true∈st.pins
 ·obtain ⟨i,hi,e⟩:=List.mem_iff_getElem.1 h
  obtain ⟨k,hk,e2⟩:=zpZ hR hp (s:=i) (by omega)
  exact ⟨k,by omega,fun _=>by rw [e2,Int.toNat_natCast,List.getElem?_eq_getElem hi,e],fun h'=>absurd h h'⟩
 ·exact ⟨1,by omega,fun h'=>absurd h' h,fun _ _ _ _ _=>Nat.le_refl _⟩
def wgt (st:Carriage_):Nat:=2*st.queue.length+st.pins.count true
theorem zkF {a b d d' K:Nat} (h:a<b) (hd:d'<K):a*K+d'<b*K+d:=by
 have:=Nat.mul_le_mul_right K (show a+1<=b from h)
 rw [Nat.succ_mul] at this
 omega
theorem zmB {R N n:Nat} {L:Int->Prop} {z:Prop} {st:Carriage_} {d:Nat} (hR0:0<R) (hl:R<=6) (hN:N<50) (hn:100<=n) (I:Inv R N L z st) (D:Dst R st d) (hs:st.run.spells.length<1000000) :
  ∃b st',zcj n st=some (b,st')/\Inv R N L z st'/\(b=false->st'.queue=[]/\true∉st'.pins)/\(b=true->∃d',Dst R st' d'/\wgt st'*(2*R+2)+d'<wgt st*(2*R+2)+d)/\st'.run.spells.length<=st.run.spells.length+3:=by
 have hc:=I.cnt
 have P:=zmz (R:=R) st.now st.queue st.pins I.q I.pins
 obtain ⟨q',ps',hpq⟩:∃q' ps',prs st.now st.queue st.pins=(q',ps'):=⟨_,_,rfl⟩
 rw [hpq] at P
 have hps:ps'.length=2*R:=by rw [P.len];exact I.pins
 obtain ⟨b,st',e,ht,hqu,hcase⟩:=ztU (n:=n) st I.hR hR0 hl I.pos hn (by omega) I.q I.pins hs (by omega) hpq hps
 have hsd:=zqB I.pos
 have hnx:=ztT I.pos
 have hc2:st.run.plays.length+(q'.length+ps'.count true)<=N:=by have:=P.cnt;simp only at this;omega
 have hall:∀s,L s↔plT st.run.plays s\/(zmy ps' s\/quT q' s):=fun s=>by rw [I.all s];exact or_congr Iff.rfl (P.union s).symm
 have hq':∀p,p∈q'->zfI R p.Side:=fun p hp=>I.q p (P.mem p hp)
 have hone:z->q'=[]/\(st.run.plays.map (·.Side)).Nodup/\∀y,y∈st.run.plays->¬zmy ps' y.Side:=fun hz=>by
  obtain ⟨o1,o2,o3,o4⟩:=I.one hz
  refine ⟨P.past o1,o3,fun y hy hpin=>?_⟩
  rcases o2 with o2 | o2
  ·rcases (P.union y.Side).1 (.inl hpin) with h | ⟨p,hp,_⟩
   ·exact o4 y hy h
   ·rw [o2] at hp;cases hp
  ·rw [o2] at hy;cases hy
 have hw:q'.length<st.queue.length/\2*q'.length+ps'.count true<wgt st\/q'=st.queue/\ps'=st.pins:=by
  have:=P.cnt
  simp only at this
  rcases P.shorter with h | h
  ·simp only at h;exact .inl ⟨h,by unfold wgt;omega⟩
  ·exact .inr h
 refine ⟨b,st',e,?_⟩
 have hcnt:2*q'.length+ps'.count true<=wgt st:=by
  rcases hw with h | ⟨h1,h2⟩
  ·omega
  ·rw [h1,h2];exact Nat.le_refl _
 rcases hcase with ⟨h1,h2,rfl,h4,h5,h6,h7⟩ | ⟨h1,⟨p,k,h2,h3⟩,rfl,h4,h5,h6,h7⟩ | ⟨h1,h2,rfl,h4,h5,h6,h7⟩ | ⟨h1,h2,rfl,h4,h5,h6,h7⟩
 ·-- the end
  refine ⟨⟨by rw [ht];exact I.hR,by rw [h6];exact I.pos,by rw [hqu];exact hq',by rw [h4];exact hps,by rw [h4,h5,hqu];exact hc2,by rw [h5];exact I.side,fun s=>by rw [h4,h5,hqu];exact hall s,fun hz=>?_⟩,fun _=>⟨by rw [hqu,h2],by rw [h4];exact h1⟩,(fun h=>by cases h),by rw [h7];omega⟩
  rw [h4,h5,hqu,h2]
  obtain ⟨_,o2,o3⟩:=hone hz
  exact ⟨(fun _ h=>by cases h),.inl rfl,o2,o3⟩
 ·-- on to the next press
  have I':Inv R N L z st':=⟨by rw [ht];exact I.hR,by rw [h6];exact I.pos,by rw [hqu];exact hq',by rw [h4];exact hps,by rw [h4,h5,hqu];exact hc2,by rw [h5];exact I.side,fun s=>by rw [h4,h5,hqu];exact hall s,fun hz=>by
   have:=(hone hz).1
   rw [h2] at this
   cases this⟩
  refine ⟨I',(fun h=>by cases h),fun _=>?_,by rw [h7];omega⟩
  rcases hw with ⟨_,hw⟩ | ⟨hw1,hw2⟩
  ·obtain ⟨d',D'⟩:=zmA st' hl I'.pos I'.pins
   exact ⟨d',D',zkF (by unfold wgt;rw [hqu,h4];exact hw) (by have:=D'.le;omega)⟩
  ·have h8:1<=d:=D.none (by rw [←hw2];exact h1) p k (by rw [←hw1];exact h2) (P.head p k h2)
   refine ⟨0,⟨by omega,fun h=>absurd h (by rw [h4];exact h1),fun _ p2 k2 e2 hno=>?_⟩,?_⟩
   ·rw [hqu,h2] at e2
    injection e2 with e3 e4
    exact absurd (by rw [h3,e3];exact Int.le_refl _) hno
   ·have:wgt st'=wgt st:=by unfold wgt;rw [hqu,h4,hw1,hw2]
    rw [this]
    omega
 ·-- on to the next position
  have I':Inv R N L z st':=⟨by rw [ht];exact I.hR,by rw [h6];exact hnx,by rw [hqu];exact hq',by rw [h4];exact hps,by rw [h4,h5,hqu];exact hc2,by rw [h5];exact I.side,fun s=>by rw [h4,h5,hqu];exact hall s,fun hz=>by
   obtain ⟨o1,o2,o3⟩:=hone hz
   rw [h4,h5,hqu,o1]
   exact ⟨(fun _ h=>by cases h),.inl rfl,o2,o3⟩⟩
  refine ⟨I',(fun h=>by cases h),fun _=>?_,by rw [h7];omega⟩
  rcases hw with ⟨_,hw⟩ | ⟨hw1,hw2⟩
  ·obtain ⟨d',D'⟩:=zmA st' hl I'.pos I'.pins
   exact ⟨d',D',zkF (by unfold wgt;rw [hqu,h4];exact hw) (by have:=D'.le;omega)⟩
  ·have h8:=D.some (by rw [←hw2];exact h1)
   cases d with
   | zero =>
    rw [hw2] at h2
    rw [show itp R 0 (st.at_.At,st.at_.Way)=(st.at_.At,st.at_.Way) from rfl,h2] at h8
    cases h8
   | succ d =>
    refine ⟨d,⟨by have:=D.le;omega,fun _=>?_,fun h=>absurd h1 (by rw [←h4];exact h)⟩,?_⟩
    ·rw [h4,h6,hw2]
     exact h8
    ·have:wgt st'=wgt st:=by unfold wgt;rw [hqu,h4,hw1,hw2]
     rw [this]
     omega
 ·-- a side is played
  generalize hsg:sdp (st.at_.At,st.at_.Way)=s at *
  have hcf:=zjf ps' s.toNat h2
  have hpin:zmy ps' s:=⟨s.toNat,by omega,h2⟩
  have I':Inv R N L z st':=⟨by rw [ht];exact I.hR,by rw [h6];exact hnx,by rw [hqu];exact hq',by rw [h4];simpa using hps,by rw [h4,h5,hqu,List.length_append];simp only [List.length_cons,List.length_nil];omega,fun y hy=>by
   rw [h5] at hy
   rcases List.mem_append.1 hy with hy | hy
   ·exact I.side y hy
   ·rw [List.mem_singleton.1 hy];exact hsd,fun x=>by
   rw [h4,h5,hqu,hall x]
   constructor
   ·rintro (⟨y,hy,e⟩ | h | h)
    ·exact .inl ⟨y,List.mem_append.2 (.inl hy),e⟩
    ·by_cases e:x=s
     ·exact .inl ⟨⟨s,st.now⟩,List.mem_append.2 (.inr (List.mem_singleton.2 rfl)),e.symm⟩
     ·exact .inr (.inl (zoP h e hsd.1))
    ·exact .inr (.inr h)
   ·rintro (⟨y,hy,e⟩ | h | h)
    ·rcases List.mem_append.1 hy with hy | hy
     ·exact .inl ⟨y,hy,e⟩
     ·rw [List.mem_singleton.1 hy] at e
      exact .inr (.inl (by rw [←e];exact hpin))
    ·exact .inr (.inl (zjU hsd.1 h).2)
    ·exact .inr (.inr h),fun hz=>by
   obtain ⟨o1,o2,o3⟩:=hone hz
   rw [h4,h5,hqu,o1]
   refine ⟨(fun _ h=>by cases h),.inl rfl,?_,fun y hy hyp=>?_⟩
   ·rw [List.map_append,List.nodup_append]
    refine ⟨o2,by simp,fun a ha b hb=>?_⟩
    obtain ⟨y,hy,rfl⟩:=List.mem_map.1 ha
    simp only [List.map_cons,List.map_nil,List.mem_singleton] at hb
    subst hb
    intro e
    exact o3 y hy (by rw [e];exact hpin)
   ·obtain ⟨e1,e2⟩:=zjU hsd.1 hyp
    rcases List.mem_append.1 hy with hy | hy
    ·exact o3 y hy e2
    ·rw [List.mem_singleton.1 hy] at e1
     exact e1 rfl⟩
  refine ⟨I',(fun h=>by cases h),fun _=>?_,by rw [h7];omega⟩
  obtain ⟨d',D'⟩:=zmA st' hl I'.pos I'.pins
  exact ⟨d',D',zkF (by unfold wgt;rw [hqu,h4];unfold wgt at hcnt;omega) (by have:=D'.le;omega)⟩
abbrev goF (n m:Nat) (st:Carriage_):Option Run_:=zdM n m st.t.Records st.t.At st.t.Way st.t.Step st.t.Presses st.queue st.now st.at_.At st.at_.Way st.at_.Side st.run.spells st.run.plays st.run.steps st.run.end_ st.pins
theorem zmC (n m:Nat) (st:Carriage_):goF n (m+1) st=Option.bind (zcj n st) fun r=>if r.1=true then goF n m r.2 else some r.2.run:=rfl
theorem zjV (n:Nat):∀m,zep n m=zdM n m
 | 0=>rfl
 | m+1=>by
  funext a b c d e f g h i j k l o p q
  show zfU n (zep n m) a b c d e f g h i j k l o p q=zfT n (zdM n m) a b c d e f g h i j k l o p q
  rw [zjV n m]
  rfl
theorem zrj {R N n:Nat} {L:Int->Prop} {z:Prop} (hR0:0<R) (hl:R<=6) (hN:N<50) (hn:100<=n):∀(M:Nat) (st:Carriage_) (d m:Nat),Inv R N L z st->Dst R st d->wgt st*(2*R+2)+d<=M->M<m->st.run.spells.length+3*M<900000 ->
  ∃st',goF n m st=some st'.run/\Inv R N L z st'/\st'.queue=[]/\true∉st'.pins:=by
 intro M
 induction M with
 | zero =>
  intro st d m I D hM hm hs
  obtain ⟨m,rfl⟩:∃k,m=k+1:=⟨m-1,by omega⟩
  obtain ⟨b,st',e,I',hf,ht,hs'⟩:=zmB hR0 hl hN hn I D (by omega)
  rw [zmC,e,zac]
  cases b with
  | false=>exact ⟨st',rfl,I',hf rfl⟩
  | true=>obtain ⟨d',_,h⟩:=ht rfl;omega
 | succ M ih =>
  intro st d m I D hM hm hs
  obtain ⟨m,rfl⟩:∃k,m=k+1:=⟨m-1,by omega⟩
  obtain ⟨b,st',e,I',hf,ht,hs'⟩:=zmB hR0 hl hN hn I D (by omega)
  rw [zmC,e,zac]
  cases b with
  | false=>exact ⟨st',rfl,I',hf rfl⟩
  | true =>
   obtain ⟨d',D',h⟩:=ht rfl
   exact ih st' d' m I' D' (by omega) (by omega) (by omega)
theorem zeS (a b c:Int):zcb a b c=some (inR a b c):=by
 unfold zcb zdL inR
 by_cases h:b<=a<;>simp [h]
def okR (r:TrayRecord):Bool:=inR r.Front 1 999&&inR r.Back 1 999
def znr (R:Nat) (p:TrayPress):Bool:=inR p.Side 0 (2*R-1)&&inR p.Time 0 9999
def okT (t:Tray):Bool:=inR t.Records.length 1 6&&(inR t.At 0 (t.Records.length-1)&&((t.Way==1 || t.Way==-1)&&(inR t.Step 0 60&&(t.Records.all okR&&(decide (t.Presses.length<=12)&&t.Presses.all (znr t.Records.length))))))
theorem zlX (t:Tray) (h:t.Records.length<1048576):w64 (2*(t.Records.length:Int))=2*(t.Records.length:Int):=zdv (by omega) (by omega)
theorem zlh (t:Tray) (h:t.Records.length<1048576) (s:Int):ze0 t s=some (inR s 0 (2*t.Records.length-1)):=by
 unfold ze0
 rw [zlX t h,zdv (by omega) (by omega),zeS]
 rfl
theorem zoQ (s:Int):zfP s=some (inR s 0 9999):=by
 unfold zfP
 rw [zeS]
 rfl
theorem zns {n:Nat} (t:Tray) (h:t.Records.length<1048576) (hp:t.Presses.length<=40) (hn:100<=n):zff n t 12=some (cond (decide (t.Presses.length<=12)&&t.Presses.all (znr t.Records.length)) 0 20):=by
 unfold zff
 by_cases hl:t.Presses.length<=12
 ·rw [if_neg (by simp;omega)]
  have key:=zik (F:=fun m i (_:Unit)=>zbR t m i) (xs:=t.Presses) (spec:=fun k _=>some (cond (k.all (znr t.Records.length)) 0 20)) (by omega) (n:=n) (by omega) () (fun m s=>by
    simp [zbR,zdw,zef]) (fun m i x k s hx hi hi' hd hrec=>by
    have hr:=hrec ()
    simp only [zbR,zdw]
    rw [if_pos (by simpa using hi),hx]
    simp only [zac]
    rw [zlh t h]
    simp only [zac]
    rw [List.all_cons,show znr t.Records.length x=(inR x.Side 0 (2*t.Records.length-1)&&inR x.Time 0 9999) from rfl]
    by_cases h1:inR x.Side 0 (2*(t.Records.length:Int)-1)=true
    ·rw [if_neg (by simp [h1]),zoQ]
     simp only [zac]
     unfold zcO
     by_cases h2:inR x.Time 0 9999=true
     ·rw [if_neg (by simp [h2])]
      simp only [h1,h2,Bool.and_self,Bool.true_and]
      exact hr
     ·rw [if_pos (by simp [h2])]
      simp [h1,h2]
    ·rw [if_pos (by simp [h1])]
     unfold zcO
     simp [h1])
  rw [key]
  simp [hl]
 ·rw [if_pos (by simp;omega)]
  simp [hl]
theorem zrk {n:Nat} (t:Tray) (h:t.Records.length<=40) (hp:t.Presses.length<=40) (hn:100<=n):zf8 n t=some (cond (okT t) 0 20):=by
 have key:zb3 n t n 0=some (cond (t.Records.all okR&&(decide (t.Presses.length<=12)&&t.Presses.all (znr t.Records.length))) 0 20):=by
  refine zik (F:=fun m i (_:Unit)=>zb3 n t m i) (xs:=t.Records) (spec:=fun k _=>some (cond (k.all okR&&(decide (t.Presses.length<=12)&&t.Presses.all (znr t.Records.length))) 0 20)) (by omega) (n:=n) (by omega) () (fun m s=>?_) (fun m i x k s hx hi hi' hd hrec=>?_)
  ·simp only [zb3,zeg]
   rw [if_neg (by simp)]
   unfold zeT
   rw [zns t (by omega) hp hn]
   rfl
  ·have hr:=hrec ()
   simp only [zb3,zeg]
   rw [if_pos (by simpa using hi),hx]
   simp only [zac]
   rw [zeS]
   simp only [zac]
   rw [List.all_cons]
   by_cases h1:inR x.Front 1 999=true
   ·rw [if_neg (by simp [h1]),zeS]
    simp only [zac]
    unfold zdr
    by_cases h2:inR x.Back 1 999=true
    ·rw [if_neg (by simp [h2]),show okR x=true by simp [okR,h1,h2],Bool.true_and]
     exact hr
    ·rw [if_pos (by simp [h2])]
     simp [okR,h1,h2]
   ·rw [if_pos (by simp [h1])]
    unfold zdr
    simp [okR,h1]
 have j1t:zb4 n t true=some 20:=rfl
 have j1f:zb4 n t false=some (cond (t.Records.all okR&&(decide (t.Presses.length<=12)&&t.Presses.all (znr t.Records.length))) 0 20):=key
 unfold zf8 okT
 rw [zeS]
 simp only [zac]
 by_cases h1:inR t.Records.length 1 6=true
 ·rw [if_neg (by simp [h1]),zdv (by omega) (by omega),zeS]
  simp only [zac]
  by_cases h2:inR t.At 0 (t.Records.length-1)=true
  ·rw [if_neg (by simp [h2])]
   have step:(Option.bind (zcb t.Step 0 60) fun r=>zb4 n t (!r))=some (cond (inR t.Step 0 60&&(t.Records.all okR&&(decide (t.Presses.length<=12)&&t.Presses.all (znr t.Records.length)))) 0 20):=by
    rw [zeS]
    simp only [zac]
    by_cases h4:inR t.Step 0 60=true
    ·rw [h4,show (!true)=false from rfl,j1f,Bool.true_and]
    ·rw [Bool.not_eq_true] at h4;rw [h4,show (!false)=true from rfl,j1t];rfl
   by_cases h3:t.Way=1
   ·rw [if_neg (by simp [h3]),step]
    simp [h1,h2,h3]
   ·rw [if_pos (by simp [h3])]
    by_cases h4:t.Way=-1
    ·rw [if_neg (by simp [h4]),step]
     simp [h1,h2,h4]
    ·rw [if_pos (by simp [h4]),j1t,show (t.Way==1)=false by simpa using h3,show (t.Way==-1)=false by simpa using h4]
     simp [h1,h2]
  ·rw [if_pos (by simp [h2]),j1t]
   simp [h2]
 ·rw [if_pos (by simp [h1]),j1t]
  simp [h1]
structure ValidT (t:Tray):Prop where
 len:1<=t.Records.length/\t.Records.length<=6
 at_:0<=t.At/\t.At<t.Records.length
 way:t.Way=1\/t.Way=-1
 step:0<=t.Step/\t.Step<=60
 recs:∀r,r∈t.Records->okR r=true
 few:t.Presses.length<=12
 press:∀p,p∈t.Presses->znr t.Records.length p=true
theorem zrl {t:Tray}:okT t=true↔ValidT t:=by
 constructor
 ·intro h
  simp only [okT,Bool.and_eq_true,Bool.or_eq_true,zeN,decide_eq_true_eq,List.all_eq_true,beq_iff_eq] at h
  obtain ⟨h1,h2,h3,h4,h5,h6,h7⟩:=h
  exact ⟨by omega,by omega,h3,h4,h5,h6,h7⟩
 ·rintro ⟨h1,h2,h3,h4,h5,h6,h7⟩
  simp only [okT,Bool.and_eq_true,Bool.or_eq_true,zeN,decide_eq_true_eq,List.all_eq_true,beq_iff_eq]
  exact ⟨by omega,by omega,h3,h4,h5,h6,h7⟩
theorem zoR {n:Nat} {t:Tray} (V:ValidT t) (hn:100<=n):zgV n t=some 0:=by
 have l1:zcn t n true 0=some 0:=by
  refine zpW (fun m i s=>zcn t m s i) t.Presses (fun _ _=>some 0) (fun k s=>s=true/\∀p,p∈k->znr t.Records.length p=true) (by have:=V.few;omega) (fun m s I=>?_) (fun m i x k s I hx hi hi' hd hrec=>?_) t.Presses 0 n true (by omega) rfl (by have:=V.few;omega) ⟨rfl,V.press⟩
  ·obtain ⟨rfl,_⟩:=I
   simp [zcn,zeu,zfg]
  ·obtain ⟨rfl,I⟩:=I
   have hp:=I x (List.mem_cons_self ..)
   simp only [znr,Bool.and_eq_true,zeN] at hp
   obtain ⟨⟨a1,a2⟩,a3,a4⟩:=hp
   have:=V.len
   simp only [zcn,zeu]
   rw [if_pos (by simpa using hi),hx]
   simp only [zac]
   rw [if_pos trivial]
   unfold zhr zd9
   rw [if_pos (by simpa using a1),zlX t (by omega)]
   simp only [zac]
   rw [if_pos (by simp;omega)]
   unfold zhs zea
   rw [if_pos (by simpa using a3)]
   simp only [zac]
   unfold zdY
   rw [show decide (x.Time<=9999)=true by simpa using a4]
   exact hrec true ⟨rfl,fun p hp=>I p (List.mem_cons_of_mem _ hp)⟩
 have l2:zco n t n true 0=some 0:=by
  refine zpW (fun m i s=>zco n t m s i) t.Records (fun _ _=>some 0) (fun k s=>s=true/\∀p,p∈k->okR p=true) (by have:=V.len;omega) (fun m s I=>?_) (fun m i x k s I hx hi hi' hd hrec=>?_) t.Records 0 n true (by omega) rfl (by have:=V.len;omega) ⟨rfl,V.recs⟩
  ·obtain ⟨rfl,_⟩:=I
   simp only [zco,zev]
   rw [if_neg (by simp)]
   exact l1
  ·obtain ⟨rfl,I⟩:=I
   have hp:=I x (List.mem_cons_self ..)
   simp only [okR,Bool.and_eq_true,zeN] at hp
   obtain ⟨⟨a1,a2⟩,a3,a4⟩:=hp
   simp only [zco,zev]
   rw [if_pos (by simpa using hi),hx]
   simp only [zac]
   rw [if_pos trivial,if_pos (by simpa using a1),if_pos (by simpa using a2),if_pos (by simpa using a3)]
   unfold zcQ
   rw [show decide (x.Back<=999)=true by simpa using a4]
   exact hrec true ⟨rfl,fun p hp=>I p (List.mem_cons_of_mem _ hp)⟩
 have h1:=V.len
 have h2:=V.at_
 have h3:=V.step
 have h4:=V.few
 have j1:zbn n t (decide ((t.Presses.length:Int)<=12))=some 0:=by
  rw [show decide ((t.Presses.length:Int)<=12)=true by simp;omega]
  exact l2
 unfold zgV
 rw [if_pos (by simp;omega),if_pos (by simp;omega),if_pos (by simp;omega),if_pos (by simp;omega)]
 rcases V.way with h | h
 ·rw [if_pos (by simp [h]),if_pos (by simp;omega),if_pos (by simp;omega)]
  exact j1
 ·rw [if_neg (by simp [h]),if_pos (by simp [h]),if_pos (by simp;omega),if_pos (by simp;omega)]
  exact j1
structure PlaysOk (t:Tray) (l:List TrayPlay):Prop where
 few:l.length<=t.Presses.length
 side:∀y,y∈l->zfI t.Records.length y.Side
 all:∀s,quT t.Presses s↔plT l s
 one:(∀p,p∈t.Presses->p.Time<=0)->(l.map (·.Side)).Nodup
theorem zp4 (l:List TrayPress) (h:l.length<=40):zbL l=some l:=by
 unfold zbL
 rw [zjL (by simp;omega)]
 rfl
theorem zoS {n:Nat} {t:Tray} (V:ValidT t) (hn:10000<=n) {zs:List TrayPress} (hz:zs.Perm t.Presses) {sp:List Spell_} (hsp:sp.length<=10) {sd:Int} :
  ∃r,goF n n (⟨t,zs,List.replicate (2*t.Records.length) false,0,⟨t.At,t.Way,sd⟩,⟨sp,[],0,0⟩⟩:Carriage_)=some r/\PlaysOk t r.plays:=by
 have hl:=hz.length_eq
 have hrep:∀s,¬zmy (List.replicate (2*t.Records.length) false) s:=by
  rintro s ⟨i,_,hi⟩
  rw [List.getElem?_replicate] at hi
  split at hi
  ·cases hi
  ·cases hi
 have hcount:(List.replicate (2*t.Records.length) false).count true=0:=by
  rw [List.count_eq_zero]
  intro h
  have:=(List.mem_replicate.1 h).2
  cases this
 have hV1:=V.len
 have hV2:=V.few
 have I:Inv t.Records.length t.Presses.length (quT t.Presses) (∀p,p∈t.Presses->p.Time<=0) (⟨t,zs,List.replicate (2*t.Records.length) false,0,⟨t.At,t.Way,sd⟩,⟨sp,[],0,0⟩⟩:Carriage_):=by
  refine ⟨rfl,⟨V.at_,V.way⟩,fun p hp=>?_,by simp,?_,(fun y hy=>by cases hy),fun s=>?_,fun hz0=>⟨fun p hp=>hz0 p (hz.mem_iff.1 hp),.inr rfl,by simp,fun y hy=>by cases hy⟩⟩
  ·have:=V.press p (hz.mem_iff.1 hp)
   simp only [znr,Bool.and_eq_true,zeN] at this
   exact ⟨by omega,by omega⟩
  ·show 0+(zs.length+_)<=_
   rw [hcount,hl]
   omega
  ·constructor
   ·rintro ⟨p,hp,e⟩
    exact .inr (.inr ⟨p,hz.mem_iff.2 hp,e⟩)
   ·rintro (⟨y,hy,_⟩ | h | ⟨p,hp,e⟩)
    ·cases hy
    ·exact absurd h (hrep s)
    ·exact ⟨p,hz.mem_iff.1 hp,e⟩
 obtain ⟨d,D⟩:=zmA _ hV1.2 I.pos I.pins
 have hle:=D.le
 have hw:wgt (⟨t,zs,List.replicate (2*t.Records.length) false,0,⟨t.At,t.Way,sd⟩,⟨sp,[],0,0⟩⟩:Carriage_)*(2*t.Records.length+2)+d<=400:=by
  have e1:wgt (⟨t,zs,List.replicate (2*t.Records.length) false,0,⟨t.At,t.Way,sd⟩,⟨sp,[],0,0⟩⟩:Carriage_)=2*zs.length:=by
   show 2*zs.length+_=_
   rw [hcount]
   rfl
  rw [e1,hl]
  have h1:2*t.Presses.length*(2*t.Records.length+2)<=24*14:=Nat.mul_le_mul (by omega) (by omega)
  omega
 obtain ⟨st',e,I',h1,h2⟩:=zrj (n:=n) (by omega) hV1.2 (by omega) (by omega) 400 _ d n I D hw (by omega) (by show sp.length+_<_;omega)
 refine ⟨_,e,⟨?_,I'.side,fun s=>?_,fun hz0=>(I'.one hz0).2.2.1⟩⟩
 ·have:=I'.cnt
  omega
 ·rw [I'.all s,h1]
  constructor
  ·rintro (h | ⟨i,_,hi⟩ | ⟨p,hp,_⟩)
   ·exact h
   ·exact absurd (List.mem_of_getElem? hi) h2
   ·cases hp
  ·exact .inl
theorem zrm {n:Nat} {t:Tray} (V:ValidT t) (hn:10000<=n):∃r,zhO n t=some r/\PlaysOk t r.plays:=by
 have h1:=V.len
 have h2:=V.few
 unfold zhO
 rw [zp4 _ (by omega)]
 simp only [zac]
 have hm:mkN (2*t.Records.length) (w64 (2*(t.Records.length:Int))) false=some (List.replicate (2*t.Records.length) false):=by
  rw [zlX t (by omega)]
  unfold mkN
  rw [if_pos (by omega)]
 by_cases hl:t.Presses.length=0
 ·rw [if_pos (by simp [hl]),hm]
  simp only [zac]
  rw [zpY (by omega)]
  simp only [zac]
  rw [mark_eq _ _ (by show 0<1048576;decide)]
  simp only [zac]
  have he:t.Presses=[]:=List.eq_nil_of_length_eq_zero hl
  exact zoS V hn (zs:=[]) (by rw [he]) (by simp)
 ·rw [if_neg (by simpa using hl),hm]
  simp only [zac]
  obtain ⟨zs,hz,e⟩:=zri (n:=n) (by omega) t.Presses (by omega) (by omega)
  rw [e]
  simp only [zac]
  rw [zoK hz.length_eq (by omega)]
  simp only [zac]
  rw [mark_eq _ _ (by show 0<1048576;decide)]
  simp only [zac]
  rw [zjV]
  exact zoS V hn hz (by simp)
theorem zp5 {n:Nat} {t:Tray} (V:ValidT t) (hn:10000<=n):∃l,zfZ n t=some (l,0)/\PlaysOk t l:=by
 obtain ⟨r,e,h⟩:=zrm V hn
 refine ⟨r.plays,?_,h⟩
 unfold zfZ
 rw [zoR V (by omega)]
 simp only [zac]
 rw [if_neg (by decide),e]
 rfl
theorem zrn (t:Tray):zhM t=some (decide (t.Records.length>40) || decide (t.Presses.length>40)):=by
 unfold zhM zeZ
 by_cases h:t.Records.length>40
 ·rw [if_pos (by simp;omega)]
  simp [h]
 ·rw [if_neg (by simp;omega)]
  have:decide ((t.Presses.length:Int)>40)=decide (t.Presses.length>40):=by
   by_cases h2:t.Presses.length>40
   ·rw [show decide (t.Presses.length>40)=true by simpa using h2,show decide ((t.Presses.length:Int)>40)=true by simp;omega]
   ·rw [show decide (t.Presses.length>40)=false by simpa using h2,show decide ((t.Presses.length:Int)>40)=false by simp;omega]
  rw [this]
  simp [h]
theorem zp6 (t:Tray) (h1:t.Records.length<=40) (h2:t.Presses.length<=40):zgU t=some t:=by
 unfold zgU
 rw [zjL (by simp;omega)]
 simp only [zac]
 rw [zjL (by simp;omega)]
 rfl
theorem zju {n:Nat} (l:List TrayPlay) (h:l.length<=100) (hn:200<=n):zeH n l l=some true:=by
 unfold zeH
 rw [if_neg (by simp)]
 refine zik (F:=fun m i (_:Unit)=>zb8 l l m i) (xs:=l) (spec:=fun _ _=>some true) (by omega) (n:=n) (by omega) () (fun m s=>?_) (fun m i x k s hx hi hi' hd hrec=>?_)
 ·simp [zb8,zc4,zdE]
 ·simp only [zb8,zc4]
  rw [if_pos (by simpa using hi),hx]
  simp only [zac]
  rw [if_neg (by simp)]
  exact hrec ()
def zp7 (kd:Int) (m:Nat):List WireFault:=(List.range m).map fun a=>(⟨kd,(a:Nat),0⟩:WireFault)
def zmD (kd:Int) (m:Nat):List WireFault:=((List.range m).map fun a=>(List.range' (a+1) (m-(a+1))).map fun b=>(⟨kd,(a:Nat),(b:Nat)⟩:WireFault)).flatten
def zhd (w:Wire):List WireFault:=zp7 1 w.Letters.toNat++(zp7 2 w.Numbers.toNat++(zmD 3 w.Letters.toNat++zmD 4 w.Numbers.toNat))
set_option maxRecDepth 100000 in
theorem zro {w:Wire} (h:zd7 w):zh7 20000 w=some (some ⟨w,zhd w⟩):=by
 obtain ⟨L,N,p,f⟩:=w
 obtain ⟨⟨h1,h2⟩,h3,h4⟩:=h
 simp only at h1 h2 h3 h4
 have hL:L=1\/L=2\/L=3\/L=4\/L=5:=by omega
 have hN:N=1\/N=2\/N=3\/N=4\/N=5:=by omega
 rcases hL with rfl | rfl | rfl | rfl | rfl<;>rcases hN with rfl | rfl | rfl | rfl | rfl<;>(show _=_;kernel_rfl)
set_option maxRecDepth 100000 in
theorem zli {w:Wire} (h:zd7 w):zfC 20000 w=some (zhd w):=by
 obtain ⟨L,N,p,f⟩:=w
 obtain ⟨⟨h1,h2⟩,h3,h4⟩:=h
 simp only at h1 h2 h3 h4
 have hL:L=1\/L=2\/L=3\/L=4\/L=5:=by omega
 have hN:N=1\/N=2\/N=3\/N=4\/N=5:=by omega
 rcases hL with rfl | rfl | rfl | rfl | rfl<;>rcases hN with rfl | rfl | rfl | rfl | rfl<;>(show _=_;kernel_rfl)
def okF (w:Wire) (f:WireFault):Prop:=(f.Kind=1/\(0<=f.A/\f.A<w.Letters)/\f.B=0)\/(f.Kind=2/\(0<=f.A/\f.A<w.Numbers)/\f.B=0)\/(f.Kind=3/\0<=f.A/\f.A<f.B/\f.B<w.Letters)\/(f.Kind=4/\0<=f.A/\f.A<f.B/\f.B<w.Numbers)
theorem zp8 {kd:Int} {m:Nat} {f:WireFault}:f∈zp7 kd m↔f.Kind=kd/\(0<=f.A/\f.A<m)/\f.B=0:=by
 unfold zp7
 rw [List.mem_map]
 constructor
 ·rintro ⟨a,ha,rfl⟩
  have:=List.mem_range.1 ha
  exact ⟨rfl,⟨by simp,by simp;omega⟩,rfl⟩
 ·rintro ⟨h1,⟨h2,h3⟩,h4⟩
  refine ⟨f.A.toNat,List.mem_range.2 (by omega),?_⟩
  obtain ⟨k,a,b⟩:=f
  simp only at *
  subst h1 h4
  congr 1
  omega
theorem zoT {kd:Int} {m:Nat} {f:WireFault}:f∈zmD kd m↔f.Kind=kd/\0<=f.A/\f.A<f.B/\f.B<m:=by
 unfold zmD
 rw [List.mem_flatten]
 constructor
 ·rintro ⟨l,hl,hf⟩
  obtain ⟨a,ha,rfl⟩:=List.mem_map.1 hl
  obtain ⟨b,hb,rfl⟩:=List.mem_map.1 hf
  have h1:=List.mem_range.1 ha
  have h2:=List.mem_range'_1.1 hb
  exact ⟨rfl,by simp,by simp;omega,by simp;omega⟩
 ·rintro ⟨h1,h2,h3,h4⟩
  refine ⟨_,List.mem_map.2 ⟨f.A.toNat,List.mem_range.2 (by omega),rfl⟩,List.mem_map.2 ⟨f.B.toNat,List.mem_range'_1.2 (by omega),?_⟩⟩
  obtain ⟨k,a,b⟩:=f
  simp only at *
  subst h1
  congr 1
  ·omega
  ·omega
theorem zrp {w:Wire} (hw:zd7 w) {f:WireFault}:f∈zhd w↔okF w f:=by
 obtain ⟨h1,h2⟩:=hw
 unfold zhd okF
 simp only [List.mem_append,zp8,zoT]
 rw [show ((w.Letters.toNat:Nat):Int)=w.Letters by omega,show ((w.Numbers.toNat:Nat):Int)=w.Numbers by omega]
theorem zoU {w:Wire} (h:zd7 w):(zhd w).length<=30:=by
 obtain ⟨L,N,p,f⟩:=w
 obtain ⟨⟨h1,h2⟩,h3,h4⟩:=h
 simp only at h1 h2 h3 h4
 have hL:L=1\/L=2\/L=3\/L=4\/L=5:=by omega
 have hN:N=1\/N=2\/N=3\/N=4\/N=5:=by omega
 rcases hL with rfl | rfl | rfl | rfl | rfl<;>rcases hN with rfl | rfl | rfl | rfl | rfl<;>exact of_decide_eq_true (by kernel_rfl)
def clash (f g:WireFault):Bool:=f.Kind==g.Kind&&(decide (f.Kind≥3)&&(f.A==g.A || (f.A==g.B || (f.B==g.A || f.B==g.B))))
theorem zic (f g:WireFault):clash f g=clash g f:=by
 rw [Bool.eq_iff_iff]
 simp only [clash,Bool.and_eq_true,Bool.or_eq_true,beq_iff_eq,decide_eq_true_eq]
 omega
theorem zmE (f g:WireFault):zge f g=some (clash f g):=by
 unfold zge zcp clash
 by_cases h1:f.Kind=g.Kind
 ·rw [if_pos (by simpa using h1)]
  by_cases h2:f.Kind≥3
  ·rw [if_pos (by simpa using h2)]
   by_cases h3:f.A=g.A
   ·simp [h1,h3];omega
   ·by_cases h4:f.A=g.B
    ·simp [h1,h4];omega
    ·by_cases h5:f.B=g.A
     ·simp [h1,h5,h3,h4];omega
     ·have h3':g.Kind≥3:=by omega
      simp [h1,h5,h3',show (f.A==g.A)=false by simpa using h3,show (f.A==g.B)=false by simpa using h4,show (f.B==g.A)=false by simpa using h5]
  ·rw [if_neg (by simpa using h2)]
   simp [h2]
 ·rw [if_neg (by simpa using h1)]
  simp [h1]
theorem zoV (f g:WireFault):zht f g=some (clash f g):=by
 rw [←zmE]
 rfl
theorem zoW {n:Nat} (f:WireFault->Option Bool) (g:WireFault->Bool) (xs:List WireFault) (hf:∀x,x∈xs->f x=some (g x)) (hl:xs.length<1048576) (hn:xs.length<n) :
  zaP n (fun x (_:Unit)=>(f x).map fun y=>(y,())) xs ()=some (xs.any g,()):=by
 have key:∀(l:List WireFault) (i m:Nat) (s:Unit),i<=xs.length->xs.drop i=l->l.length<m->(zax xs (fun x (_:Unit)=>(f x).map fun y=>(y,())) m (i:Int) s).map (fun r=>decide (r.1≥0))=some (l.any g):=by
  intro l i m s h1 h2 h3
  refine zrh (fun m i s=>(zax xs (fun x (_:Unit)=>(f x).map fun y=>(y,())) m i s).map (fun r=>decide (r.1≥0))) xs (fun l _=>some (l.any g)) hl (fun m s=>?_) (fun m i x l s hx hi hi' hd hrec=>?_) l i m s h1 h2 h3
  ·simp [zax,zbj,zbv]
  ·have hmem:x∈xs:=by
    unfold idx at hx
    rw [if_pos (by omega)] at hx
    exact List.mem_of_getElem? hx
   simp only [zax,zbj]
   rw [if_pos (by simpa using hi),hx,zac,hf x hmem]
   simp only [Option.map_some,zac]
   by_cases hg:g x=true
   ·rw [if_pos hg]
    simp [hg]
   ·rw [if_neg hg]
    have:=hrec ()
    rw [this]
    simp [hg]
 have h:=key xs 0 n () (by omega) rfl hn
 unfold zaP zcx
 change Option.map _ (zax xs _ n 0 ())=_ at h
 cases hq:zax xs (fun x (_:Unit)=>(f x).map fun y=>(y,())) n 0 () with
 | none=>rw [hq] at h;cases h
 | some r =>
  rw [hq] at h
  simp only [Option.map_some,Option.some.injEq] at h
  simp only [zac]
  rw [←h]
def zvP (G:List WireFault->List WireFault->List (List WireFault)) (first:List WireFault):List WireFault->List (List WireFault)
 | []=>[]
 | x::r=>(if first.any (clash x) then [] else G (first++[x]) r)++zvP G first r
def gs:Nat->List WireFault->List WireFault->List (List WireFault)
 | 0,first,_=>[first]
 | k+1,first,rest=>first::zvP (gs k) first rest
def xf (f:WireFault) (k:Int->Int):Int->Int:=fun i=>if i=f.B then f.A else if i=f.A then f.B else k i
def crs (kd:Int):List WireFault->(Int->Int)->Int->Int
 | [],k=>k
 | f::l,k=>crs kd l (if f.Kind=kd then xf f k else k)
def df (f:WireFault) (k:Int->Int):Int->Int:=fun i=>if i=f.A then -1 else k i
def ded (kd:Int):List WireFault->(Int->Int)->Int->Int
 | [],k=>k
 | f::l,k=>ded kd l (if f.Kind=kd then df f k else k)
def inF (f:WireFault):Prop:=(0<=f.A/\f.A<5)/\(0<=f.B/\f.B<5)
theorem zqD {w:Wire} (hw:zd7 w) {f:WireFault} (h:okF w f):inF f:=by
 obtain ⟨h1,h2⟩:=hw
 unfold okF at h
 unfold inF
 omega
theorem zrT {a:Int} (h:0<=a/\a<5):a=0\/a=1\/a=2\/a=3\/a=4:=by omega
theorem zkG (k:Int->Int) {a:Int} (h:0<=a/\a<5):idx [k 0,k 1,k 2,k 3,k 4] a=some (k a):=by
 rcases zrT h with rfl | rfl | rfl | rfl | rfl<;>rfl
theorem zoX (k:Int->Int) {a:Int} (v:Int) (h:0<=a/\a<5):∃l,zqU [k 0,k 1,k 2,k 3,k 4] a v=some l/\∀j:Nat,j<5->l.getD j 0=if (j:Int)=a then v else k j:=by
 rcases zrT h with rfl | rfl | rfl | rfl | rfl<;>refine ⟨_,rfl,fun j hj=>?_⟩<;>(have:j=0\/j=1\/j=2\/j=3\/j=4:=by omega)<;>rcases this with rfl | rfl | rfl | rfl | rfl<;>rfl
theorem zvJ (k m:Int->Int) (f:WireFault) (h:inF f):∃l,zcT [k 0,k 1,k 2,k 3,k 4,m 0,m 1,m 2,m 3,m 4] 0 f=some l/\(∀j:Nat,j<5->l.getD j 0=xf f k j)/\∀j:Nat,j<5->l.getD (5+j) 0=m j:=by
 obtain ⟨kd,a,b⟩:=f
 obtain ⟨ha,hb⟩:=h
 simp only at ha hb
 unfold zcT
 rw [if_pos ⟨ha,hb,by simp⟩]
 refine ⟨_,rfl,fun j hj=>?_,fun j hj=>?_⟩<;>(have hj':j=0\/j=1\/j=2\/j=3\/j=4:=by omega)<;>rcases zrT ha with rfl | rfl | rfl | rfl | rfl<;>rcases zrT hb with rfl | rfl | rfl | rfl | rfl<;>rcases hj' with rfl | rfl | rfl | rfl | rfl<;>rfl
theorem zvK (k m:Int->Int) (f:WireFault) (h:inF f):∃l,zcT [k 0,k 1,k 2,k 3,k 4,m 0,m 1,m 2,m 3,m 4] 5 f=some l/\(∀j:Nat,j<5->l.getD j 0=k j)/\∀j:Nat,j<5->l.getD (5+j) 0=xf f m j:=by
 obtain ⟨kd,a,b⟩:=f
 obtain ⟨ha,hb⟩:=h
 simp only at ha hb
 unfold zcT
 rw [if_pos ⟨ha,hb,by simp⟩]
 refine ⟨_,rfl,fun j hj=>?_,fun j hj=>?_⟩<;>(have hj':j=0\/j=1\/j=2\/j=3\/j=4:=by omega)<;>rcases zrT ha with rfl | rfl | rfl | rfl | rfl<;>rcases zrT hb with rfl | rfl | rfl | rfl | rfl<;>rcases hj' with rfl | rfl | rfl | rfl | rfl<;>rfl
def mkP (k m:Int->Int):Panel_:=⟨⟨k 0,k 1,k 2,k 3,k 4⟩,⟨m 0,m 1,m 2,m 3,m 4⟩⟩
theorem zoY {α:Type} {xs:List α} {i:Nat} {x:α} (h:idx xs (i:Int)=some x):x∈xs:=by
 unfold idx at h
 rw [if_pos (by omega)] at h
 exact List.mem_of_getElem? h
theorem zrq {n:Nat} (l:List WireFault) (hl:∀f,f∈l->inF f) (hs:l.length<1048576) (hn:l.length<n) (k m:Int->Int) :
  zez n l (k 0) (k 1) (k 2) (k 3) (k 4) (m 0) (m 1) (m 2) (m 3) (m 4)=some (mkP (ded 1 l k) (ded 2 l m)):=by
 unfold zez
 refine zik (F:=fun q i (s:(Int->Int)×(Int->Int))=>zcC l q i (s.1 0) (s.1 1) (s.1 2) (s.1 3) (s.1 4) (s.2 0) (s.2 1) (s.2 2) (s.2 3) (s.2 4)) (xs:=l) (spec:=fun l s=>some (mkP (ded 1 l s.1) (ded 2 l s.2))) hs hn (k,m) (fun q s=>?_) (fun q i f t s hx hi hi' hd hrec=>?_)
 ·simp [zcC,zey,zfn,mkP,ded]
 ·have hf:=hl f (zoY hx)
  simp only [zcC,zey]
  rw [if_pos (by simpa using hi),hx,zac]
  by_cases h1:f.Kind=1
  ·rw [if_pos (by simpa using h1),zkG s.1 hf.1,zac]
   obtain ⟨u,hu,hg⟩:=zoX s.1 (-1) hf.1
   rw [hu,zac]
   simp only [zcU]
   rw [hg 0 (by omega),hg 1 (by omega),hg 2 (by omega),hg 3 (by omega),hg 4 (by omega)]
   have:=hrec (df f s.1,s.2)
   simp only [ded,if_pos h1,if_neg (show ¬f.Kind=2 by omega)]
   exact this
  ·rw [if_neg (by simpa using h1)]
   by_cases h2:f.Kind=2
   ·rw [if_pos (by simpa using h2),zkG s.2 hf.1,zac]
    obtain ⟨u,hu,hg⟩:=zoX s.2 (-1) hf.1
    rw [hu,zac]
    simp only [zcU]
    rw [hg 0 (by omega),hg 1 (by omega),hg 2 (by omega),hg 3 (by omega),hg 4 (by omega)]
    have:=hrec (s.1,df f s.2)
    simp only [ded,if_pos h2,if_neg h1]
    exact this
   ·rw [if_neg (by simpa using h2)]
    simp only [zcU,ded,if_neg h1,if_neg h2]
    exact hrec s
theorem zp9 {n:Nat} (l:List WireFault) (hl:∀f,f∈l->inF f) (hs:l.length<1048576) (hn:l.length<n) (k m:Int->Int) :
  zd0 n l (k 0) (k 1) (k 2) (k 3) (k 4) (m 0) (m 1) (m 2) (m 3) (m 4)=some (mkP (ded 1 l (crs 3 l k)) (ded 2 l (crs 4 l m))):=by
 unfold zd0
 refine zik (F:=fun q i (s:(Int->Int)×(Int->Int))=>zcD n l q i (s.1 0) (s.1 1) (s.1 2) (s.1 3) (s.1 4) (s.2 0) (s.2 1) (s.2 2) (s.2 3) (s.2 4)) (xs:=l) (spec:=fun t s=>some (mkP (ded 1 l (crs 3 t s.1)) (ded 2 l (crs 4 t s.2)))) hs hn (k,m) (fun q s=>?_) (fun q i f t s hx hi hi' hd hrec=>?_)
 ·simp only [zcD,zeA]
  rw [if_neg (by simp)]
  exact zrq l hl hs hn s.1 s.2
 ·have hf:=hl f (zoY hx)
  simp only [zcD,zeA]
  rw [if_pos (by simpa using hi),hx,zac]
  by_cases h1:f.Kind=3
  ·obtain ⟨u,hu,hg,hg'⟩:=zvJ s.1 s.2 f hf
   rw [if_pos (by simpa using h1),hu,zac]
   simp only [zcV]
   rw [hg 0 (by omega),hg 1 (by omega),hg 2 (by omega),hg 3 (by omega),hg 4 (by omega),show u.getD 5 0=s.2 0 from hg' 0 (by omega),show u.getD 6 0=s.2 1 from hg' 1 (by omega),show u.getD 7 0=s.2 2 from hg' 2 (by omega),show u.getD 8 0=s.2 3 from hg' 3 (by omega),show u.getD 9 0=s.2 4 from hg' 4 (by omega)]
   have:=hrec (xf f s.1,s.2)
   simp only [crs,if_pos h1,if_neg (show ¬f.Kind=4 by omega)]
   exact this
  ·rw [if_neg (by simpa using h1)]
   by_cases h2:f.Kind=4
   ·obtain ⟨u,hu,hg,hg'⟩:=zvK s.1 s.2 f hf
    rw [if_pos (by simpa using h2),hu,zac]
    simp only [zcV]
    rw [hg 0 (by omega),hg 1 (by omega),hg 2 (by omega),hg 3 (by omega),hg 4 (by omega),show u.getD 5 0=xf f s.2 0 from hg' 0 (by omega),show u.getD 6 0=xf f s.2 1 from hg' 1 (by omega),show u.getD 7 0=xf f s.2 2 from hg' 2 (by omega),show u.getD 8 0=xf f s.2 3 from hg' 3 (by omega),show u.getD 9 0=xf f s.2 4 from hg' 4 (by omega)]
    have:=hrec (s.1,xf f s.2)
    simp only [crs,if_pos h2,if_neg h1]
    exact this
   ·rw [if_neg (by simpa using h2)]
    simp only [zcV,crs,if_neg h1,if_neg h2]
    exact hrec s
theorem zoZ (l:List WireFault):zgX 20000 l=zd0 20000 l 0 1 2 3 4 0 1 2 3 4:=by
 show _=_
 kernel_rfl
theorem zrr (l:List WireFault) (hl:∀f,f∈l->inF f) (hs:l.length<20000):zgX 20000 l=some (mkP (ded 1 l (crs 3 l fun i=>i)) (ded 2 l (crs 4 l fun i=>i))):=by
 rw [zoZ]
 exact zp9 l hl (by omega) hs (fun i=>i) (fun i=>i)
def zqa (w:Wire) (l:List WireFault) (a b:Int):Int :=
 if ded 1 l (crs 3 l fun i=>i) a<0\/ded 2 l (crs 4 l fun i=>i) b<0 then -1 else ded 1 l (crs 3 l fun i=>i) a*w.Numbers+ded 2 l (crs 4 l fun i=>i) b
theorem zo0 (kd:Int):∀(l:List WireFault) (k:Int->Int),(∀f,f∈l->inF f)->(∀i,0<=i/\i<5->0<=k i/\k i<5)->∀i,0<=i/\i<5->0<=crs kd l k i/\crs kd l k i<5
 | [],k,_,hk,i,hi=>hk i hi
 | f::l,k,hl,hk,i,hi=>by
  refine zo0 kd l _ (fun g hg=>hl g (by simp [hg])) (fun j hj=>?_) i hi
  have hf:=hl f (by simp)
  obtain ⟨h1,h2⟩:=hf
  split
  ·unfold xf
   split
   ·exact h1
   ·split
    ·exact h2
    ·exact hk j hj
  ·exact hk j hj
theorem zo1 (kd:Int):∀(l:List WireFault) (k:Int->Int) (i:Int),ded kd l k i=-1\/ded kd l k i=k i
 | [],k,i=>.inr rfl
 | f::l,k,i=>by
  simp only [ded]
  rcases zo1 kd l (if f.Kind=kd then df f k else k) i with h | h
  ·exact .inl h
  ·rw [h]
   split
   ·unfold df
    split
    ·exact .inl rfl
    ·exact .inr rfl
   ·exact .inr rfl
theorem zqb {w:Wire} {all:List WireFault} (hw:zd7 w) (l:List WireFault) (hl:∀f,f∈l->inF f) {a b:Int} (ha:0<=a/\a<5) (hb:0<=b/\b<5) :
  zdz (some ⟨w,all⟩) (mkP (ded 1 l (crs 3 l fun i=>i)) (ded 2 l (crs 4 l fun i=>i))) a b=some (zqa w l a b):=by
 obtain ⟨hw1,hw2⟩:=hw
 unfold zdz mkP
 simp only
 rw [zkG _ ha,zac,zkG _ hb,zac]
 unfold zqa zcr
 have ba:=zo1 1 l (crs 3 l fun i=>i) a
 have bb:=zo1 2 l (crs 4 l fun i=>i) b
 have ca:=zo0 3 l (fun i=>i) hl (fun i h=>h) a ha
 have cb:=zo0 4 l (fun i=>i) hl (fun i h=>h) b hb
 generalize ded 1 l (crs 3 l fun i=>i) a=x at *
 generalize ded 2 l (crs 4 l fun i=>i) b=y at *
 by_cases h1:x<0
 ·rw [if_pos (by simpa using h1),if_pos rfl,if_pos (.inl h1)]
 ·rw [if_neg (by simpa using h1)]
  by_cases h2:y<0
  ·rw [if_pos (by simpa using h2),if_pos (.inr h2)]
  ·rw [if_neg (by simpa using h2),if_neg (by omega),zac]
   have hx:0<=x/\x<5:=by omega
   have hm:0<=x*w.Numbers/\x*w.Numbers<=25:=by
    refine ⟨Int.mul_nonneg (by omega) (by omega),?_⟩
    have:=Int.mul_le_mul (show x<=5 by omega) hw2.2 (by omega) (by omega)
    simpa using this
   rw [zdv (x:=x*w.Numbers) (by omega) (by omega),zdv (by omega) (by omega)]
def other (kd:Int):List WireFault->Int->Int
 | [],b=>b
 | f::l,b=>if f.Kind=kd then (if f.A=b then f.B else if f.B=b then f.A else other kd l b) else other kd l b
def zo2 (w:Wire) (l:List WireFault) (a b:Int):Int :=
 if (⟨1,a,0⟩:WireFault)∈l\/(⟨2,b,0⟩:WireFault)∈l then -1 else other 3 l a*w.Numbers+other 4 l b
theorem zkH (kd:Int):∀(l:List WireFault) (b:Int),(∀f,f∈l->inF f)->0<=b/\b<5->0<=other kd l b/\other kd l b<5
 | [],b,_,hb=>hb
 | f::l,b,hl,hb=>by
  obtain ⟨h1,h2⟩:=hl f (by simp)
  have:=zkH kd l b (fun g hg=>hl g (by simp [hg])) hb
  simp only [other]
  split
  ·split
   ·exact h2
   ·split
    ·exact h1
    ·exact this
  ·exact this
def zgg (l:List WireFault):Prop:=l.Pairwise fun f g=>clash f g=false
theorem zjg {f g:WireFault} (hk:f.Kind=g.Kind) (h3:f.Kind≥3) (h:clash f g=false):f.A≠g.A/\f.A≠g.B/\f.B≠g.A/\f.B≠g.B:=by
 have h':¬clash f g=true:=by simp [h]
 simp only [clash,Bool.and_eq_true,Bool.or_eq_true,beq_iff_eq,decide_eq_true_eq] at h'
 omega
def touch (kd:Int) (l:List WireFault) (i:Int):Prop:=∃f,f∈l/\f.Kind=kd/\(f.A=i\/f.B=i)
theorem zgN {kd:Int} (h3:kd≥3):∀(l:List WireFault) (k:Int->Int) (i:Int),zgg l->(∀f,f∈l->f.Kind=kd->f.A<f.B)->(touch kd l i->crs kd l k i=other kd l i)/\(¬touch kd l i->crs kd l k i=k i/\other kd l i=i)
 | [],k,i,_,_=>⟨fun ⟨f,hf,_⟩=>by simp at hf,fun _=>⟨rfl,rfl⟩⟩
 | f::l,k,i,hc,hlt=>by
  obtain ⟨hc1,hc2⟩:=List.pairwise_cons.1 hc
  by_cases hk:f.Kind=kd
  ·obtain ⟨q1,q2⟩:=zgN h3 l (xf f k) i hc2 fun g hg=>hlt g (by simp [hg])
   simp only [crs,other,if_pos hk]
   by_cases hi:f.A=i\/f.B=i
   ·have hne:¬touch kd l i:=by
     rintro ⟨g,hg,hgk,h⟩
     have:=zjg (hk.trans hgk.symm) (by omega) (hc1 g hg)
     omega
    refine ⟨fun _=>?_,fun h=>(h ⟨f,by simp,hk,hi⟩).elim⟩
    have hlt':=hlt f (by simp) hk
    rw [(q2 hne).1]
    unfold xf
    rcases hi with hA | hB
    ·rw [if_neg (by omega),if_pos hA.symm,if_pos hA]
    ·rw [if_pos hB.symm,if_neg (by omega),if_pos hB]
   ·have hi1:f.A≠i:=fun e=>hi (.inl e)
    have hi2:f.B≠i:=fun e=>hi (.inr e)
    rw [if_neg hi1,if_neg hi2]
    refine ⟨fun ⟨g,hg,hgk,h⟩=>?_,fun hn=>?_⟩
    ·rcases List.mem_cons.1 hg with e | hg
     ·subst e;exact (hi h).elim
     ·exact q1 ⟨g,hg,hgk,h⟩
    ·obtain ⟨e1,e2⟩:=q2 fun ⟨g,hg,hgk,h⟩=>hn ⟨g,by simp [hg],hgk,h⟩
     refine ⟨e1.trans ?_,e2⟩
     unfold xf
     rw [if_neg (fun e=>hi2 e.symm),if_neg (fun e=>hi1 e.symm)]
  ·obtain ⟨q1,q2⟩:=zgN h3 l k i hc2 fun g hg=>hlt g (by simp [hg])
   simp only [crs,other,if_neg hk]
   refine ⟨fun ⟨g,hg,hgk,h⟩=>?_,fun hn=>?_⟩
   ·rcases List.mem_cons.1 hg with e | hg
    ·subst e;exact (hk hgk).elim
    ·exact q1 ⟨g,hg,hgk,h⟩
   ·exact q2 fun ⟨g,hg,hgk,h⟩=>hn ⟨g,by simp [hg],hgk,h⟩
theorem zqE {kd:Int} (h3:kd≥3) (l:List WireFault) (i:Int) (hc:zgg l) (hlt:∀f,f∈l->f.Kind=kd->f.A<f.B):crs kd l (fun i=>i) i=other kd l i:=by
 obtain ⟨h1,h2⟩:=zgN h3 l (fun i=>i) i hc hlt
 by_cases h:touch kd l i
 ·exact h1 h
 ·exact (h2 h).1.trans (h2 h).2.symm
theorem zlY (kd:Int):∀(l:List WireFault) (k:Int->Int) (i:Int),(∀f,f∈l->f.Kind=kd->f.B=0)->ded kd l k i=if (⟨kd,i,0⟩:WireFault)∈l then -1 else k i
 | [],k,i,_=>by simp [ded]
 | f::l,k,i,h=>by
  simp only [ded]
  rw [zlY kd l _ i fun g hg=>h g (by simp [hg])]
  by_cases hm:(⟨kd,i,0⟩:WireFault)∈l
  ·rw [if_pos hm,if_pos (by simp [hm])]
  ·rw [if_neg hm]
   by_cases hf:f=⟨kd,i,0⟩
   ·have e:(if f.Kind=kd then df f k else k) i=-1:=by
     subst hf
     simp [df]
    rw [e,if_pos (by simp [hf])]
   ·have e:(if f.Kind=kd then df f k else k) i=k i:=by
     by_cases hk:f.Kind=kd
     ·rw [if_pos hk]
      unfold df
      refine if_neg fun hi=>hf ?_
      have hB:=h f (by simp) hk
      obtain ⟨u1,u2,u3⟩:=f
      subst hk hB hi
      rfl
     ·rw [if_neg hk]
    rw [e,if_neg (by simp only [List.mem_cons,not_or];exact ⟨fun e=>hf e.symm,hm⟩)]
def zqc (w:Wire) (l:List WireFault):Prop:=(∀f,f∈l->okF w f)/\zgg l
theorem zo3 {w:Wire} (hw:zd7 w) {l:List WireFault} (hg:zqc w l) {a b:Int} (ha:0<=a/\a<5) (hb:0<=b/\b<5):zqa w l a b=zo2 w l a b:=by
 have hin:∀f,f∈l->inF f:=fun f hf=>zqD hw (hg.1 f hf)
 have k3:∀f,f∈l->f.Kind=3->f.A<f.B:=fun f hf hk=>by have:=hg.1 f hf;unfold okF at this;omega
 have k4:∀f,f∈l->f.Kind=4->f.A<f.B:=fun f hf hk=>by have:=hg.1 f hf;unfold okF at this;omega
 have k1:∀f,f∈l->f.Kind=1->f.B=0:=fun f hf hk=>by have:=hg.1 f hf;unfold okF at this;omega
 have k2:∀f,f∈l->f.Kind=2->f.B=0:=fun f hf hk=>by have:=hg.1 f hf;unfold okF at this;omega
 unfold zqa zo2
 rw [zlY 1 l _ a k1,zlY 2 l _ b k2,zqE (by omega) l a hg.2 k3,zqE (by omega) l b hg.2 k4]
 have hx:=zkH 3 l a hin ha
 have hy:=zkH 4 l b hin hb
 by_cases h1:(⟨1,a,0⟩:WireFault)∈l
 ·simp [h1]
 ·by_cases h2:(⟨2,b,0⟩:WireFault)∈l
  ·simp [h2]
  ·simp only [if_neg h1,if_neg h2]
   rw [if_neg (by omega),if_neg (by simp [h1,h2])]
def zv1 (w:Wire) (ps:List WirePress) (l:List WireFault):Bool:=ps.all fun p=>zo2 w l p.Letter p.Number==p.Got
theorem zlj {first:List WireFault} {x:WireFault} (h:zgg first):zgg (first++[x])↔first.any (clash x)=false:=by
 unfold zgg
 rw [List.pairwise_append]
 simp only [List.any_eq_false]
 constructor
 ·rintro ⟨_,_,h3⟩ f hf
  have:=h3 f hf x (by simp)
  rw [zic]
  simp [this]
 ·intro h3
  refine ⟨h,List.pairwise_singleton _ _,fun f hf y hy=>?_⟩
  simp at hy
  subst hy
  have:=h3 f hf
  rw [zic]
  simpa using this
def zvL (w:Wire) (k:Nat):List (List WireFault):=gs k [] (zhd w)
def T (w:Wire) (ps:List WirePress) (k:Nat):List (List WireFault):=(zvL w k).filter (zv1 w ps)
theorem zo4 {w:Wire} (h:okW w=true):zd7 w:=(zoH.1 h).1
def flt (a b:WireFault):Bool:=decide (a.Kind<b.Kind) || (decide (a.Kind=b.Kind)&&(decide (a.A<b.A) || (decide (a.A=b.A)&&decide (a.B<b.B))))
theorem zlZ {a b:WireFault}:flt a b=true↔a.Kind<b.Kind\/(a.Kind=b.Kind/\(a.A<b.A\/(a.A=b.A/\a.B<b.B))):=by simp [flt]
theorem zo5 (a b:Int):cmp_Compare_int a b=some (if a<b then -1 else if a>b then 1 else 0):=by
 unfold cmp_Compare_int cmp_isNaN_int
 simp only [zac]
 rw [if_neg (by simp),if_neg (by simp)]
 by_cases h:a<b
 ·rw [if_pos (by simpa using h),if_pos h]
 ·rw [if_neg (by simpa using h),if_neg h]
  by_cases h2:a>b
  ·rw [if_pos (by simpa using h2),if_pos h2]
  ·rw [if_neg (by simpa using h2),if_neg h2]
def orV:List Int->Int
 | []=>0
 | x::l=>if x=0 then orV l else x
theorem zvM (l:List Int) (hl:l.length<20000):zgW 20000 l=some (orV l):=by
 unfold zgW
 refine zik (F:=fun m i (_:Unit)=>zdj l m i) (xs:=l) (spec:=fun t _=>some (orV t)) (by omega) hl () (fun m s=>by simp [zdj,zex,zfm,orV]) (fun m i x t s hx hi hi' hd hrec=>?_)
 simp only [zdj,zex]
 rw [if_pos (by simpa using hi),hx,zac]
 by_cases h:x=0
 ·rw [if_neg (by simp [h]),hrec ()]
  simp [orV,h]
 ·rw [if_pos (by simp [h])]
  simp [orV,h]
theorem zqd (a b:WireFault):∃r,zgd 20000 a b=some r/\decide (r≥0)=!flt a b:=by
 unfold zgd
 rw [zo5,zac,zo5,zac,zo5,zac,zvM _ (by simp),zac]
 refine ⟨_,rfl,?_⟩
 rw [Bool.eq_iff_iff]
 simp only [decide_eq_true_eq,Bool.not_eq_true',orV]
 rw [show (flt a b=false)↔¬(flt a b=true) by simp,zlZ]
 by_cases h1:a.Kind<b.Kind
 ·simp [h1]
 ·by_cases h2:a.Kind>b.Kind
  ·simp [h1,h2,show ¬a.Kind=b.Kind by omega]
  ·have h3:a.Kind=b.Kind:=by omega
   by_cases h4:a.A<b.A
   ·simp [h3,h4]
   ·by_cases h5:a.A>b.A
    ·simp [h3,h4,h5,show ¬a.A=b.A by omega]
    ·have h6:a.A=b.A:=by omega
     by_cases h7:a.B<b.B
     ·simp [h3,h6,h7]
     ·by_cases h8:a.B>b.B
      ·simp [h3,h6,h7,h8]
      ·have h9:a.B=b.B:=by omega
       simp [h3,h6,h9]
theorem zl0 (l:List WireFault) (f:WireFault) (hs:l.length<20000):zbY 20000 l f=some (decide (f∈l)):=by
 have h1:(zbP 20000 l f).map (fun r=>decide (r≥0))=some (decide (f∈l)):=by
  unfold zbP
  refine zik (F:=fun q i (_:Unit)=>(zaR l f q i).map (fun r=>decide (r≥0))) (xs:=l) (spec:=fun t _=>some (decide (f∈t))) (by omega) hs () (fun q s=>?_) (fun q i g t s hx hi hi' hd hrec=>?_)
  ·simp [zaR,zbJ,zbX]
  ·simp only [zaR,zbJ]
   rw [if_pos (by simpa using hi),hx,zac]
   by_cases hg:g=f
   ·subst hg
    simp
   ·rw [if_neg (by
     obtain ⟨u1,u2,u3⟩:=g
     obtain ⟨v1,v2,v3⟩:=f
     have:¬(v1=u1/\v2=u2/\v3=u3):=fun ⟨a,b,c⟩=>hg (by subst a b c;rfl)
     simpa using this),hrec ()]
    have:f≠g:=fun e=>hg e.symm
    simp [this]
 unfold zbY
 cases h:zbP 20000 l f with
 | none=>rw [h] at h1;cases h1
 | some r=>rw [h] at h1;simpa using h1
def zjm (f:WireFault):List WireFault->Int->Int
 | [],_=>-1
 | g::l,i=>if g=f then i else zjm f l (i+1)
theorem zqe (l:List WireFault) (f:WireFault) (hs:l.length<20000):zgf 20000 l f=some (zjm f l 0):=by
 unfold zgf
 have key:∀(t:List WireFault) (i m:Nat),i<=l.length->l.drop i=t->t.length<m->zcZ l f m (i:Int)=some (zjm f t i):=by
  intro t
  induction t with
  | nil =>
   intro i m hi hd hm
   obtain ⟨m,rfl⟩:∃k,m=k+1:=⟨m-1,by omega⟩
   have:=List.drop_eq_nil_iff.1 hd
   have:i=l.length:=by omega
   subst this
   simp [zcZ,zeh,zeV,zjm]
  | cons g t ih =>
   intro i m hi hd hm
   obtain ⟨m,rfl⟩:∃k,m=k+1:=⟨m-1,by omega⟩
   simp only [List.length_cons] at hm
   have hlt:i<l.length:=by
    rcases Nat.lt_or_ge i l.length with h | h
    ·exact h
    ·rw [List.drop_eq_nil_of_le h] at hd;cases hd
   rw [List.drop_eq_getElem_cons hlt] at hd
   injection hd with h5 h6
   simp only [zcZ,zeh,zjm]
   rw [if_pos (by simpa using hlt),zh6 hlt,zac,h5]
   by_cases hg:g=f
   ·rw [if_pos (by subst hg;simp),if_pos hg]
   ·rw [if_neg (by
     obtain ⟨u1,u2,u3⟩:=g
     obtain ⟨v1,v2,v3⟩:=f
     have:¬(u1=v1/\u2=v2/\u3=v3):=fun ⟨a,b,c⟩=>hg (by subst a b c;rfl)
     simpa using this),if_neg hg,zdv (by omega) (by omega),show (i:Int)+1=((i+1:Nat):Int) by omega]
    exact ih (i+1) m (by omega) h6 (by omega)
 exact key l 0 20000 (by omega) rfl hs
theorem zjh (f:WireFault):∀(l:List WireFault) (i:Int),0<=i->(f∈l->i<=zjm f l i)/\(f∉l->zjm f l i=-1)
 | [],i,_=>⟨fun h=>by simp at h,fun _=>rfl⟩
 | g::l,i,hi=>by
  obtain ⟨h1,h2⟩:=zjh f l (i+1) (by omega)
  simp only [zjm]
  by_cases hg:g=f
  ·rw [if_pos hg]
   exact ⟨fun _=>Int.le_refl _,fun h=>absurd (by simp [hg]) h⟩
  ·rw [if_neg hg]
   have hg':f≠g:=fun e=>hg e.symm
   exact ⟨fun h=>by have:=h1 (by simpa [hg'] using h);omega,fun h=>h2 fun h'=>h (by simp [h'])⟩
theorem zo6 {R:WireFault->WireFault->Prop} (hirr:∀a,¬R a a) (hasy:∀a b,R a b->¬R b a) {f g:WireFault}:∀(l:List WireFault) (i:Int),0<=i->l.Pairwise R->f∈l->g∈l->(zjm g l i<zjm f l i↔R g f)
 | [],_,_,_,h,_=>by simp at h
 | x::l,i,hi,hp,hf,hg=>by
  obtain ⟨h1,h2⟩:=List.pairwise_cons.1 hp
  simp only [zjm]
  by_cases hxf:x=f
  ·subst hxf
   rw [if_pos rfl]
   by_cases hxg:x=g
   ·subst hxg
    rw [if_pos rfl]
    exact ⟨fun h=>by omega,fun h=>absurd h (hirr _)⟩
   ·rw [if_neg hxg]
    have hg':g∈l:=by
     rcases List.mem_cons.1 hg with e | h
     ·exact absurd e.symm hxg
     ·exact h
    have:=(zjh g l (i+1) (by omega)).1 hg'
    exact ⟨fun h=>by omega,fun h=>absurd h (hasy _ _ (h1 g hg'))⟩
  ·rw [if_neg hxf]
   have hf':f∈l:=by
    rcases List.mem_cons.1 hf with e | h
    ·exact absurd e.symm hxf
    ·exact h
   by_cases hxg:x=g
   ·subst hxg
    rw [if_pos rfl]
    have:=(zjh f l (i+1) (by omega)).1 hf'
    exact ⟨fun _=>h1 f hf',fun _=>by omega⟩
   ·rw [if_neg hxg]
    have hg':g∈l:=by
     rcases List.mem_cons.1 hg with e | h
     ·exact absurd e.symm hxg
     ·exact h
    exact zo6 hirr hasy l (i+1) (by omega) h2 hf' hg'
set_option maxRecDepth 100000 in
theorem znt {w:Wire} (h:zd7 w):(zhd w).Pairwise fun a b=>flt a b=true:=by
 obtain ⟨L,N,p,f⟩:=w
 obtain ⟨⟨h1,h2⟩,h3,h4⟩:=h
 simp only at h1 h2 h3 h4
 have hL:L=1\/L=2\/L=3\/L=4\/L=5:=by omega
 have hN:N=1\/N=2\/N=3\/N=4\/N=5:=by omega
 rcases hL with rfl | rfl | rfl | rfl | rfl<;>rcases hN with rfl | rfl | rfl | rfl | rfl<;>exact of_decide_eq_true (by kernel_rfl)
theorem zrs {w:Wire} (h:zd7 w) {f g:WireFault} (hf:f∈zhd w) (hg:g∈zhd w):zjm g (zhd w) 0<zjm f (zhd w) 0↔flt g f=true :=
 zo6 (R:=fun a b=>flt a b=true) (fun a h=>by rw [zlZ] at h;omega) (fun a b h1 h2=>by rw [zlZ] at h1 h2;omega) (zhd w) 0 (by omega) (znt h) hf hg
def zpb (w:Wire):List WireFault->List WireFault->Bool
 | _,[]=>true
 | pre,f::l=>decide (f∈zhd w)&&((match pre.getLast? with | none=>true | some g=>flt g f)&&(!pre.any (clash f)&&zpb w (pre++[f]) l))
def zo7 (w:Wire) (l:List WireFault):Bool:=zpb w [] l
theorem zhx {α:Type} (pre:List α):pre=[]\/∃q y,pre=q++[y]:=by
 rcases List.eq_nil_or_concat pre with h | ⟨q,y,h⟩
 ·exact .inl h
 ·exact .inr ⟨q,y,by simpa using h⟩
theorem zqf {w:Wire} (hw:zd7 w) (l:List WireFault) (hs:l.length<20000):zdy 20000 (some ⟨w,zhd w⟩) l=some (zo7 w l):=by
 have ha:=zoU hw
 unfold zdy zo7
 have key:∀(t pre:List WireFault) (m:Nat),l=pre++t->t.length<m->za0 20000 (some ⟨w,zhd w⟩) l m (pre.length:Int)=some (zpb w pre t):=by
  intro t
  induction t with
  | nil =>
   intro pre m he hm
   obtain ⟨m,rfl⟩:∃k,m=k+1:=⟨m-1,by omega⟩
   simp [za0,zcB,zcS,he,zpb]
  | cons f t ih =>
   intro pre m he hm
   obtain ⟨m,rfl⟩:∃k,m=k+1:=⟨m-1,by omega⟩
   simp only [List.length_cons] at hm
   have hl:l.length=pre.length+(t.length+1):=by rw [he];simp
   have hcut:cut l 0 (pre.length:Int)=some pre:=by
    unfold cut
    rw [if_pos (by omega),he]
    simp
   have hc:zaP 20000 (fun x0 (_:Unit)=>(zbe x0 f).map fun y=>(y,())) pre ()=some (pre.any (clash f),()) :=
    zoW (fun x0=>zbe x0 f) (clash f) pre (fun y _=>by unfold zbe;rw [zmE];rfl) (by omega) (by omega)
   have hrec:=ih (pre++[f]) m (by simp [he]) (by omega)
   rw [show (((pre++[f]).length:Nat):Int)=(pre.length:Int)+1 by simp] at hrec
   simp only [za0,zcB,zac]
   rw [if_pos (by simp;omega),show idx l (pre.length:Int)=some f by rw [he,zki],zac,zl0 _ _ (by omega),zac]
   simp only [zpb,zby]
   rw [zdv (x:=(pre.length:Int)+1) (by omega) (by omega)]
   by_cases hm1:f∈zhd w
   ·rw [if_neg (by simp [hm1])]
    simp only [hm1,decide_true,Bool.true_and]
    rcases zhx pre with rfl | ⟨q,y,rfl⟩
    ·rw [if_neg (by simp),hcut,zac,hc,zac]
     simp only [List.any_nil,Bool.false_eq_true,if_false]
     simpa using hrec
    ·have hql:(q++[y]).length=q.length+1:=by simp
     rw [if_pos (by simp<;>omega),zdv (x:=(((q++[y]).length:Nat):Int)-1) (by omega) (by omega),show (((q++[y]).length:Nat):Int)-1=(q.length:Int) by simp,show idx l (q.length:Int)=some y by rw [he,show q++[y]++f::t=q++y::(f::t) by simp,zki],zac]
     obtain ⟨r,hr1,hr2⟩:=zqd y f
     rw [hr1,zac,hr2,hcut,zac,hc,zac]
     simp only [List.getLast?_concat]
     cases hfl:flt y f with
     | false=>simp
     | true =>
      simp only [Bool.not_true,Bool.false_eq_true,if_false,Bool.true_and]
      by_cases hcl:(q++[y]).any (clash f)=true
      ·rw [if_pos hcl]
       simp only [hcl,Bool.not_true,Bool.false_and]
      ·rw [if_neg hcl,hrec]
       simp only [show (q++[y]).any (clash f)=false by simpa using hcl,Bool.not_false,Bool.true_and]
   ·rw [if_pos (by simp [hm1])]
    simp [hm1]
 exact key l [] 20000 rfl hs
theorem zo8 {w:Wire} (hw:zd7 w) (l:List WireFault) (hs:l.length<20000):zfD 20000 w l=some (zo7 w l):=by
 have ha:=zoU hw
 unfold zfD zo7
 rw [zli hw,zac]
 have key:∀(t pre:List WireFault) (m:Nat) (last:Int),l=pre++t->t.length<m->(∀g,g∈pre->g∈zhd w)->(match pre.getLast? with | none=>last=-1 | some g=>last=zjm g (zhd w) 0)->zbc 20000 l (zhd w) m last (pre.length:Int)=some (zpb w pre t):=by
  intro t
  induction t with
  | nil =>
   intro pre m last he hm hpre hla
   obtain ⟨m,rfl⟩:∃k,m=k+1:=⟨m-1,by omega⟩
   simp [zbc,zej,zeW,he,zpb]
  | cons f t ih =>
   intro pre m last he hm hpre hla
   obtain ⟨m,rfl⟩:∃k,m=k+1:=⟨m-1,by omega⟩
   simp only [List.length_cons] at hm
   have hl:l.length=pre.length+(t.length+1):=by rw [he];simp
   simp only [zbc,zej]
   rw [if_pos (by simp;omega),show idx l (pre.length:Int)=some f by rw [he,zki],zac,zqe _ _ (by omega),zac]
   simp only [zpb]
   have hin:=zjh f (zhd w) 0 (by omega)
   by_cases hm1:f∈zhd w
   ·simp only [hm1,decide_true,Bool.true_and]
    have hlt:(zjm f (zhd w) 0<=last)↔(match pre.getLast? with | none=>true | some g=>flt g f)=false:=by
     rcases zhx pre with rfl | ⟨q,y,rfl⟩
     ·simp only [List.getLast?_nil] at hla ⊢
      have:=hin.1 hm1
      subst hla
      simp;omega
     ·simp only [List.getLast?_concat] at hla ⊢
      subst hla
      have:=zrs hw hm1 (hpre y (by simp))
      constructor
      ·intro h
       by_cases hx:flt y f=true
       ·have:=this.2 hx;omega
       ·simpa using hx
      ·intro h
       by_cases h2:zjm y (zhd w) 0<zjm f (zhd w) 0
       ·rw [this.1 h2] at h;cases h
       ·omega
    have hfree:=zvH (fun q j (_:Unit)=>zc0 (zbc 20000 l (zhd w) m) l (pre.length:Int) (zjm f (zhd w) 0) q j) pre.length (fun j _=>if (pre.drop j).any (fun g=>clash g f)=true then some false else zeb (zbc 20000 l (zhd w) m) (pre.length:Int) (zjm f (zhd w) 0)) (by omega) (fun q s=>by
      simp [zc0,zei]) (fun q j s hj hrec=>by
      simp only [zc0,zei]
      have hix:idx l (j:Int)=some pre[j]:=by
       rw [zh6 (by omega)]
       congr 1
       subst he
       exact List.getElem_append_left hj
      rw [if_pos (by simpa using hj),hix,zac,show idx l (pre.length:Int)=some f by rw [he,zki],zac,zoV,zac,List.drop_eq_getElem_cons hj,List.any_cons]
      by_cases hc:clash pre[j] f=true
      ·rw [if_pos hc,if_pos (by simp [hc])]
      ·rw [if_neg hc,hrec ()]
       simp [show clash pre[j] f=false by simpa using hc])
    have h3:=hfree pre.length 0 20000 () (by omega) (by omega) (by omega)
    by_cases hle:zjm f (zhd w) 0<=last
    ·rw [if_pos (by simpa using hle),hlt.1 hle]
     simp
    ·rw [if_neg (by simpa using hle)]
     have hT:(match pre.getLast? with | none=>true | some g=>flt g f)=true:=by
      cases hx:(match pre.getLast? with | none=>true | some g=>flt g f) with
      | true=>rfl
      | false=>exact absurd (hlt.2 hx) hle
     rw [hT,Bool.true_and]
     refine Eq.trans h3 ?_
     rw [List.drop_zero]
     have hany:(pre.any fun g=>clash g f)=pre.any (clash f):=by
      congr 1
      funext g
      exact zic g f
     rw [hany]
     by_cases hcl:pre.any (clash f)=true
     ·rw [if_pos hcl]
      simp [hcl]
     ·rw [if_neg hcl]
      unfold zeb
      have hrec:=ih (pre++[f]) m (zjm f (zhd w) 0) (by simp [he]) (by omega) (fun g hg=>by
       rcases List.mem_append.1 hg with h | h
       ·exact hpre g h
       ·simp at h;subst h;exact hm1) (by simp)
      rw [show (((pre++[f]).length:Nat):Int)=(pre.length:Int)+1 by simp] at hrec
      rw [zdv (by omega) (by omega),hrec]
      simp [show pre.any (clash f)=false by simpa using hcl]
   ·have hle:zjm f (zhd w) 0<=last:=by
     rw [hin.2 hm1]
     rcases zhx pre with rfl | ⟨q,y,rfl⟩
     ·simp at hla;omega
     ·simp only [List.getLast?_concat] at hla
      have:=(zjh y (zhd w) 0 (by omega)).1 (hpre y (by simp))
      omega
    rw [if_pos (by simpa using hle)]
    simp [hm1]
 have:=key l [] 20000 (-1) rfl hs (fun g hg=>by simp at hg) rfl
 exact this
theorem zlk {w:Wire} (hw:zd7 w):∀(t pre:List WireFault),zqc w pre->zpb w pre t=true->zqc w (pre++t)
 | [],pre,h,_=>by simpa using h
 | f::t,pre,h,hs=>by
  simp only [zpb,Bool.and_eq_true,Bool.not_eq_true',decide_eq_true_eq] at hs
  obtain ⟨h1,_,h3,h4⟩:=hs
  have:=zlk hw t (pre++[f]) ⟨fun g hg=>by
   rcases List.mem_append.1 hg with hg | hg
   ·exact h.1 g hg
   ·simp at hg;subst hg;exact (zrp hw).1 h1,(zlj h.2).2 h3⟩ h4
  simpa using this
theorem zll {w:Wire} (hw:zd7 w) {l:List WireFault} (h:zo7 w l=true):zqc w l:=by
 have:=zlk hw l [] ⟨fun g hg=>by simp at hg,.nil⟩ h
 simpa using this
def zmF (w:Wire) (l:List WireFault) (a b:Int):Int×Int:=if okW w=true then (if zo7 w l=true/\okB w a b=true then (zo2 w l a b,0) else (0,1)) else (0,110)
theorem zkI (w:Wire) (l:List WireFault) (hs:l.length<20000) (a b:Int):zcY 20000 w l a b=some (zmF w l a b):=by
 unfold zcY zmF
 rw [zpX w (by omega),zac]
 by_cases h:okW w=true
 ·have hw:=zo4 h
  rw [if_pos h,if_neg (by simp [h]),zro hw,zac,zqf hw l hs,zac]
  by_cases h1:zo7 w l=true
  ·rw [if_neg (by simp [h1]),zjT hw,zac]
   unfold zdt
   by_cases h2:okB w a b=true
   ·have hg:=zll hw h1
    have hin:∀f,f∈l->inF f:=fun f hf=>zqD hw (hg.1 f hf)
    have hab:(0<=a/\a<5)/\(0<=b/\b<5):=by
     simp only [okB,Bool.and_eq_true,zeN] at h2
     unfold zd7 at hw
     omega
    rw [if_neg (by simp [h2]),if_pos ⟨h1,h2⟩,zrr l hin hs,zac,zqb hw l hin hab.1 hab.2,zac,zo3 hw hg hab.1 hab.2]
   ·rw [if_pos (by simp [h2]),if_neg (by simp [h2])]
  ·rw [if_pos (by simp [h1]),if_neg (by simp [h1])]
   simp [zdt]
 ·have h':okW w=false:=by simpa using h
  rw [if_neg h,if_pos (by simp [h'])]
  simp [h']
theorem zeo {kd:Int} (h3:kd≥3):∀(l:List WireFault) (b:Int) (f:WireFault),zgg l->(∀g,g∈l->g.Kind=kd->g.A<g.B)->f∈l->f.Kind=kd->(f.A=b->other kd l b=f.B)/\(f.B=b->other kd l b=f.A)
 | [],b,f,_,_,hf,_=>by simp at hf
 | g::l,b,f,hc,hlt,hf,hk=>by
  obtain ⟨hc1,hc2⟩:=List.pairwise_cons.1 hc
  simp only [other]
  rcases List.mem_cons.1 hf with rfl | hf
  ·rw [if_pos hk]
   have:=hlt f (by simp) hk
   refine ⟨fun h=>if_pos h,fun h=>?_⟩
   rw [if_neg (by omega),if_pos h]
  ·have ih:=zeo h3 l b f hc2 (fun g hg=>hlt g (by simp [hg])) hf hk
   by_cases hgk:g.Kind=kd
   ·have hcl:=zjg (hgk.trans hk.symm) (by omega) (hc1 f hf)
    rw [if_pos hgk]
    refine ⟨fun h=>?_,fun h=>?_⟩
    ·rw [if_neg (by omega),if_neg (by omega)]
     exact ih.1 h
    ·rw [if_neg (by omega),if_neg (by omega)]
     exact ih.2 h
   ·rw [if_neg hgk]
    exact ih
theorem zji {kd:Int} (h3:kd≥3) {l:List WireFault} (hc:zgg l) (hlt:∀g,g∈l->g.Kind=kd->g.A<g.B) (b:Int):other kd l (other kd l b)=b:=by
 by_cases h:touch kd l b
 ·obtain ⟨f,hf,hk,h⟩:=h
  rcases h with h | h
  ·rw [(zeo h3 l b f hc hlt hf hk).1 h,(zeo h3 l f.B f hc hlt hf hk).2 rfl,h]
  ·rw [(zeo h3 l b f hc hlt hf hk).2 h,(zeo h3 l f.A f hc hlt hf hk).1 rfl,h]
 ·have:=((zgN h3 l (fun i=>i) b hc hlt).2 h).2
  rw [this,this]
theorem zjj {kd M:Int} (h3:kd≥3) {l:List WireFault} (hc:zgg l) (hlt:∀g,g∈l->g.Kind=kd->0<=g.A/\g.A<g.B/\g.B<M) {b:Int} (hb:0<=b/\b<M):0<=other kd l b/\other kd l b<M:=by
 have hlt':∀g,g∈l->g.Kind=kd->g.A<g.B:=fun g hg hk=>(hlt g hg hk).2.1
 by_cases h:touch kd l b
 ·obtain ⟨f,hf,hk,h⟩:=h
  have:=hlt f hf hk
  rcases h with h | h
  ·rw [(zeo h3 l b f hc hlt' hf hk).1 h];omega
  ·rw [(zeo h3 l b f hc hlt' hf hk).2 h];omega
 ·have:=((zgN h3 l (fun i=>i) b hc hlt').2 h).2
  rw [this]
  exact hb
theorem zg1:zeO 20000=some true:=by decide +kernel
abbrev wT (t:Tray):Wire:=⟨(t.Records.length:Int),2,[],0⟩
theorem zkJ {t:Tray} (V:ValidT t) (h5:t.Records.length<=5):zd7 (wT t):=⟨⟨by have:=V.len;show (1:Int)<=(t.Records.length:Int);omega,by show (t.Records.length:Int)<=5;omega⟩,by show (1:Int)<=2;decide,by show (2:Int)<=5;decide⟩
theorem zvN {t:Tray} (V:ValidT t) (h5:t.Records.length<=5):okW (wT t)=true:=zoH.2 ⟨zkJ V h5,⟨by show (0:Int)<=0;decide,by show (0:Int)<=3;decide⟩,by show 0<=8;decide,fun p hp=>by cases hp⟩
theorem half {s:Int} {R:Nat} (h:zfI R s) (hR:R<=40):quo s 2=some (s / 2)/\rem s 2=some (s % 2):=by
 obtain ⟨h1,h2⟩:=h
 exact ⟨zqv h1 (by decide) (by omega),zqw h1 (by decide)⟩
def zdS (l:List WireFault) (s:Int):Int:=other 3 l (s / 2)*2+other 4 l (s % 2)
theorem zrt {t:Tray} (V:ValidT t) (h5:t.Records.length<=5) {l:List WireFault} (hs:zo7 (wT t) l=true) (h3:∀f,f∈l->¬f.Kind<3) {s:Int} (h:zfI t.Records.length s) :
  zmF (wT t) l (s / 2) (s % 2)=(zdS l s,0):=by
 obtain ⟨h1,h2⟩:=h
 unfold zmF
 rw [if_pos (zvN V h5),if_pos ⟨hs,by
  unfold okB
  rw [Bool.and_eq_true,zeN,zeN]
  show (0<=s / 2/\s / 2<=(t.Records.length:Int)-1)/\(0<=s % 2/\s % 2<=2-1)
  omega⟩]
 unfold zo2
 rw [if_neg (fun h=>by
  rcases h with h | h
  ·exact h3 _ h (by show (1:Int)<3;decide)
  ·exact h3 _ h (by show (2:Int)<3;decide))]
 rfl
theorem zl1 {t:Tray} (V:ValidT t) (h5:t.Records.length<=5) {l:List WireFault} (hs:zo7 (wT t) l=true) {s:Int} (h:zfI t.Records.length s):zfI t.Records.length (zdS l s)/\zdS l (zdS l s)=s:=by
 obtain ⟨h1,h2⟩:=h
 have hg:=zll (zkJ V h5) hs
 have k3:∀f,f∈l->f.Kind=3->0<=f.A/\f.A<f.B/\f.B<(t.Records.length:Int):=fun f hf hk=>by
  have:=hg.1 f hf
  unfold okF at this
  simp only at this
  omega
 have k4:∀f,f∈l->f.Kind=4->0<=f.A/\f.A<f.B/\f.B<2:=fun f hf hk=>by
  have:=hg.1 f hf
  unfold okF at this
  simp only at this
  omega
 have r3:=zjj (kd:=3) (by decide) hg.2 k3 (b:=s / 2) (by omega)
 have r4:=zjj (kd:=4) (by decide) hg.2 k4 (b:=s % 2) (by omega)
 have t3:=zji (kd:=3) (by decide) hg.2 (fun g hg hk=>(k3 g hg hk).2.1) (s / 2)
 have t4:=zji (kd:=4) (by decide) hg.2 (fun g hg hk=>(k4 g hg hk).2.1) (s % 2)
 refine ⟨⟨by unfold zdS;omega,by unfold zdS;omega⟩,?_⟩
 have e1:zdS l s / 2=other 3 l (s / 2):=by unfold zdS;omega
 have e2:zdS l s % 2=other 4 l (s % 2):=by unfold zdS;omega
 rw [show zdS l (zdS l s)=other 3 l (zdS l s / 2)*2+other 4 l (zdS l s % 2) from rfl,e1,e2,t3,t4]
 omega
theorem znu (s:Int):zdS [] s=s:=by
 unfold zdS other
 omega
theorem set_same {α:Type} {xs:List α} {i:Nat} {x:α} (h:xs[i]?=some x):xs.set i x=xs:=by
 apply List.ext_getElem?
 intro j
 by_cases e:j=i
 ·subst e
  rw [List.getElem?_set_self (List.getElem?_eq_some_iff.1 h).1,h]
 ·rw [List.getElem?_set_ne (by omega)]
theorem zjv (t:Tray) (l:List WireFault):zfV 20000 t l=some true:=by
 have jt:zbF 20000 t l true=some true:=by
  unfold zbF
  rw [if_pos rfl,zg1]
  rfl
 unfold zfV
 rw [zrn]
 simp only [zac]
 by_cases hf:(decide (t.Records.length>40) || decide (t.Presses.length>40))=true
 ·rw [if_pos hf];exact jt
 rw [if_neg hf]
 have hf1:t.Records.length<=40/\t.Presses.length<=40:=by
  simp only [Bool.or_eq_true,decide_eq_true_eq,not_or] at hf
  omega
 rw [zrk t hf1.1 hf1.2 (by decide)]
 simp only [zac]
 by_cases hk:okT t=true
 case neg =>
  rw [Bool.not_eq_true] at hk
  rw [hk,if_pos (by decide)]
  exact jt
 have V:=zrl.1 hk
 rw [hk,if_neg (by decide)]
 by_cases h5:t.Records.length<=5
 case neg =>
  rw [if_pos (by simp;omega)]
  exact jt
 rw [if_neg (by simp;omega)]
 by_cases h40:l.length<=40
 case neg =>
  rw [show decide ((l.length:Int)>40)=true by simp;omega]
  exact jt
 rw [show decide ((l.length:Int)>40)=false by simp;omega]
 have hw:=zkJ V h5
 unfold zbF
 rw [if_neg (by decide),show zfD 20000 (⟨(t.Records.length:Int),2,([]:List WirePress),0⟩:Wire) l=some (zo7 (wT t) l) from zo8 hw l (by omega)]
 simp only [zac]
 by_cases hs:zo7 (wT t) l=true
 case neg =>
  rw [if_pos (by simp [hs]),zg1]
  rfl
 rw [if_neg (by simp [hs])]
 have main:(∀f,f∈l->¬f.Kind<3)->zdd 20000 t l=some true:=fun h3=>by
  unfold zdd
  rw [zp6 t hf1.1 hf1.2]
  simp only [zac]
  have j3:zdb 20000 t t t.Presses=some true:=by
   obtain ⟨ps,e,P⟩:=zp5 (n:=20000) V (by decide)
   unfold zdb
   rw [e]
   simp only [zac]
   rw [if_pos (by decide),if_pos (by decide),zju ps (by have:=P.few;have:=V.few;omega) (by decide)]
   simp only [zac]
   rw [if_pos trivial,zg1]
   rfl
  refine zpW (fun m i s=>za7 20000 t l t m i s) t.Presses (fun _ _=>some true) (fun k s=>s=t.Presses/\∀p,p∈k->zfI t.Records.length p.Side) (by omega) (fun m s I=>?_) (fun m i x k s I hx hi hi' hd hrec=>?_) t.Presses 0 20000 t.Presses (by omega) rfl (by omega) ⟨rfl,fun p hp=>?_⟩
  ·obtain ⟨rfl,_⟩:=I
   simp only [za7,zdk]
   rw [if_neg (by simp)]
   exact j3
  ·obtain ⟨rfl,I⟩:=I
   have hsd:=I x (List.mem_cons_self ..)
   obtain ⟨hq,hr⟩:=half hsd (by omega)
   obtain ⟨hc1,hc2⟩:=zl1 V h5 hs hsd
   obtain ⟨hq2,hr2⟩:=half hc1 (by omega)
   simp only [za7,zdk]
   rw [if_pos (by simpa using hi),hx]
   simp only [zac]
   rw [hq,hr]
   simp only [zac]
   have happ:app ([]:List WireFault) l=some l:=by rw [zjL (by simp;omega)];rfl
   rw [happ]
   simp only [zac]
   rw [show zcY 20000 (⟨(t.Records.length:Int),2,([]:List WirePress),0⟩:Wire) ([]:List WireFault) (x.Side / 2) (x.Side % 2)=some (zdS [] x.Side,0) from (zkI (wT t) [] (by decide) _ _).trans (by rw [zrt V h5 (l:=[]) rfl (fun f hf=>by cases hf) hsd])]
   simp only [zac]
   rw [show zcY 20000 (⟨(t.Records.length:Int),2,([]:List WirePress),0⟩:Wire) l (x.Side / 2) (x.Side % 2)=some (zdS l x.Side,0) from (zkI (wT t) l (by omega) _ _).trans (by rw [zrt V h5 hs h3 hsd])]
   simp only [zac]
   rw [if_neg (by decide),if_neg (by decide),znu,if_neg (by simp),zlh t (by omega)]
   simp only [zac]
   have hin:inR (zdS l x.Side) 0 (2*t.Records.length-1)=true:=zeN.2 ⟨hc1.1,by have:=hc1.2;omega⟩
   rw [hin]
   unfold zck
   rw [if_neg (by decide),happ]
   simp only [zac]
   rw [hq2,hr2]
   simp only [zac]
   rw [show zcY 20000 (⟨(t.Records.length:Int),2,([]:List WirePress),0⟩:Wire) l (zdS l x.Side / 2) (zdS l x.Side % 2)=some (zdS l (zdS l x.Side),0) from (zkI (wT t) l (by omega) _ _).trans (by rw [zrt V h5 hs h3 hc1]),hc2]
   simp only [zac]
   rw [if_neg (by decide)]
   unfold zdc
   rw [if_neg (by simp),hx]
   simp only [zac]
   have hg:t.Presses[i]?=some x:=by
    unfold idx at hx
    rw [if_pos (by omega),Int.toNat_natCast] at hx
    exact hx
   rw [Int.toNat_natCast,show (⟨x.Side,x.Time⟩:TrayPress)=x from rfl,set_same hg]
   exact hrec _ ⟨rfl,fun p hp=>I p (List.mem_cons_of_mem _ hp)⟩
  ·have:=V.press p hp
   simp only [znr,Bool.and_eq_true,zeN] at this
   exact ⟨by omega,by omega⟩
 refine zpW (fun m i (_:Unit)=>zcl 20000 t l m i) l (fun _ _=>some true) (fun k _=>(∀f,f∈k->¬f.Kind<3)->∀f,f∈l->¬f.Kind<3) (by omega) (fun m s I=>?_) (fun m i x k s I hx hi hi' hd hrec=>?_) l 0 20000 () (by omega) rfl (by omega) (fun h=>h)
 ·simp only [zcl,zdl]
  rw [if_neg (by simp)]
  exact main (I fun f hf=>by cases hf)
 ·simp only [zcl,zdl]
  rw [if_pos (by simpa using hi),hx]
  simp only [zac]
  by_cases hx3:x.Kind<3
  ·rw [if_pos (by simpa using hx3),zg1]
   rfl
  ·rw [if_neg (by simpa using hx3)]
   exact hrec () fun h=>I fun f hf=>by
    rcases List.mem_cons.1 hf with rfl | hf
    ·exact hx3
    ·exact h f hf
end Go.Law
