/-
  Plain laws.
  Conditions: none.
-/
import Derived.Test.YtebfppngmmdfkaaGreatMd
import Derived.Test.YtebfppngmmdfkaaGreatPlA
import Derived.Test.YtebfppngmmdfkaaGreatAmSd
set_option linter.all false
namespace Go.Law
open Go Go.AM
theorem zte {α S R:Type} (F:Nat->Int->S->Option R) (xs:List α) (spec:List α->S->Option R) (hl:xs.length<1048576) (h0:∀m s,F (m+1) (xs.length:Int) s=spec [] s)
  (hs:∀m (i:Nat) x l s,idx xs (i:Int)=some x->(i:Int)<(xs.length:Int)->i<1048576->xs.drop (i+1)=l->(∀s',F m (w64 ((i:Int)+1)) s'=spec l s')->F (m+1) (i:Int) s=spec (x::l) s) :
  ∀(l:List α) (i m:Nat) (s:S),i<=xs.length->xs.drop i=l->l.length<m->F m (i:Int) s=spec l s:=by
 intro l
 induction l with
 | nil =>
  intro i m s hi hd hm
  obtain ⟨m,rfl⟩:∃k,m=k+1:=⟨m-1,by omega⟩
  have:i=xs.length:=by have:=List.drop_eq_nil_iff.1 hd;omega
  subst this
  exact h0 m s
 | cons x l ih =>
  intro i m s hi hd hm
  obtain ⟨m,rfl⟩:∃k,m=k+1:=⟨m-1,by omega⟩
  simp only [List.length_cons] at hm
  have hlt:i<xs.length:=by
   rcases Nat.lt_or_ge i xs.length with h | h
   ·exact h
   ·rw [List.drop_eq_nil_of_le h] at hd;cases hd
  rw [List.drop_eq_getElem_cons hlt] at hd
  injection hd with h1 h2
  refine hs m i x l s (by rw [zoE hlt,h1]) (by omega) (by omega) h2 fun s'=>?_
  rw [zaP (by omega) (by omega)]
  exact ih (i+1) m s' (by omega) h2 (by omega)
theorem zjJ {α S R:Type} {F:Nat->Int->S->Option R} {xs:List α} {spec:List α->S->Option R} (hl:xs.length<1048576) {n:Nat} (hn:xs.length<n) (s:S) (h0:∀m s,F (m+1) (xs.length:Int) s=spec [] s)
  (hs:∀m (i:Nat) x l s,idx xs (i:Int)=some x->(i:Int)<(xs.length:Int)->i<1048576->xs.drop (i+1)=l->(∀s',F m (w64 ((i:Int)+1)) s'=spec l s')->F (m+1) (i:Int) s=spec (x::l) s) :
  F n 0 s=spec xs s:=zte F xs spec hl h0 hs xs 0 n s (by omega) rfl hn
theorem zxP {S R:Type} (F:Nat->Int->S->Option R) (b:Nat) (spec:Nat->S->Option R) (hb:b<1048576) (h0:∀m s,F (m+1) (b:Int) s=spec b s)
  (hs:∀m (i:Nat) s,i<b->(∀s',F m (w64 ((i:Int)+1)) s'=spec (i+1) s')->F (m+1) (i:Int) s=spec i s) :
  ∀(d i m:Nat) (s:S),d=b-i->i<=b->d<m->F m (i:Int) s=spec i s:=by
 intro d
 induction d with
 | zero =>
  intro i m s hd hi hm
  obtain ⟨m,rfl⟩:∃k,m=k+1:=⟨m-1,by omega⟩
  have:i=b:=by omega
  subst this
  exact h0 m s
 | succ d ih =>
  intro i m s hd hi hm
  obtain ⟨m,rfl⟩:∃k,m=k+1:=⟨m-1,by omega⟩
  refine hs m i s (by omega) fun s'=>?_
  rw [zaP (by omega) (by omega)]
  exact ih (i+1) m s' (by omega) (by omega) (by omega)
theorem zaf {α β:Type} (a:α) (f:α->Option β):Option.bind (some a) f=f a:=rfl
theorem within_eq (a b c:Int):zdh a b c=some (inR a b c):=by
 unfold zdh zer inR
 by_cases h:b<=a<;>simp [h]
theorem Within_eq (a b c:Int):zdL a b c=some (inR a b c):=by
 unfold zdL zdA inR
 by_cases h:b<=a<;>simp [h]
theorem rwithin_eq (a b c:Int):zde a b c=some (inR a b c):=by simp [zde,Within_eq]
def okB (w:Wire) (a b:Int):Bool:=inR a 0 (w.Letters-1)&&inR b 0 (w.Numbers-1)
def zcn (w:Wire):Prop:=(1<=w.Letters/\w.Letters<=5)/\(1<=w.Numbers/\w.Numbers<=5)
theorem zl7 {w:Wire} (h:zcn w) (a b:Int):zdi w a b=some (okB w a b):=by
 obtain ⟨h1,h2⟩:=h
 unfold zdi zda okB
 rw [zaP (by omega) (by omega),zaP (by omega) (by omega)]
 simp only [within_eq,zaf]
 by_cases h:inR a 0 (w.Letters-1)=true<;>simp [h]
theorem zoN {w:Wire} (h:zcn w) (a b:Int):zfR w a b=some (okB w a b):=by
 obtain ⟨h1,h2⟩:=h
 unfold zfR zdB okB
 rw [zaP (by omega) (by omega),zaP (by omega) (by omega)]
 simp only [rwithin_eq,zaf]
 by_cases h:inR a 0 (w.Letters-1)=true<;>simp [h]
def okP (w:Wire) (p:WirePress):Bool:=okB w p.Letter p.Number&&inR p.Got (-1) (w.Letters*w.Numbers-1)
def okW (w:Wire):Bool:=inR w.Letters 1 5&&inR w.Numbers 1 5&&inR w.Faults 0 3&&decide (w.Presses.length<=8)&&w.Presses.all (okP w)
theorem zht {w:Wire}:okW w=true↔zcn w/\(0<=w.Faults/\w.Faults<=3)/\w.Presses.length<=8/\∀p,p∈w.Presses->okP w p=true:=by
 simp only [okW,zcn,Bool.and_eq_true,zbQ,decide_eq_true_eq,List.all_eq_true]
 constructor
 ·rintro ⟨⟨⟨⟨a,b⟩,c⟩,d⟩,e⟩;exact ⟨⟨a,b⟩,c,d,e⟩
 ·rintro ⟨⟨a,b⟩,c,d,e⟩;exact ⟨⟨⟨⟨a,b⟩,c⟩,d⟩,e⟩
theorem zjK {w:Wire} (h:zcn w):0<=w.Letters*w.Numbers/\w.Letters*w.Numbers<=25:=by
 obtain ⟨h1,h2⟩:=h
 refine ⟨Int.mul_nonneg (by omega) (by omega),?_⟩
 have:=Int.mul_le_mul h1.2 h2.2 (by omega) (by omega)
 simpa using this
theorem c1_eq {w:Wire} (h:zcn w) (p:WirePress):zdZ p w=some (!okP w p):=by
 have hm:=zjK h
 unfold zdZ zdG okP
 rw [zl7 h,zaf,zaP (x:=w.Letters*w.Numbers) (by omega) (by omega),zaP (by omega) (by omega),within_eq,zaf]
 by_cases hb:okB w p.Letter p.Number=true<;>simp [hb]
theorem znI {n:Nat} (f:WirePress->Option Bool) (g:WirePress->Bool) (xs:List WirePress) (hf:∀x,x∈xs->f x=some (g x)) (hl:xs.length<1048576) (hn:xs.length<n) :
  za6 n (fun x (_:Unit)=>(f x).map fun y=>(y,())) xs ()=some (xs.any g,()):=by
 have key:∀(l:List WirePress) (i m:Nat) (s:Unit),i<=xs.length->xs.drop i=l->l.length<m->(zay xs (fun x (_:Unit)=>(f x).map fun y=>(y,())) m (i:Int) s).map (fun r=>decide (r.1≥0))=some (l.any g):=by
  intro l i m s h1 h2 h3
  refine zte (fun m i s=>(zay xs (fun x (_:Unit)=>(f x).map fun y=>(y,())) m i s).map (fun r=>decide (r.1≥0))) xs (fun l _=>some (l.any g)) hl (fun m s=>?_) (fun m i x l s hx hi hi' hd hrec=>?_) l i m s h1 h2 h3
  ·simp [zay,zbl,zbu]
  ·have hmem:x∈xs:=by
    unfold idx at hx
    rw [if_pos (by omega)] at hx
    exact List.mem_of_getElem? hx
   simp only [zay,zbl]
   rw [if_pos (by simpa using hi),hx,zaf,hf x hmem]
   simp only [Option.map_some,zaf]
   by_cases hg:g x=true
   ·rw [if_pos hg]
    simp [hg]
   ·rw [if_neg hg]
    have:=hrec ()
    rw [this]
    simp [hg]
 have h:=key xs 0 n () (by omega) rfl hn
 unfold za6 zcJ
 change Option.map _ (zay xs _ n 0 ())=_ at h
 cases hq:zay xs (fun x (_:Unit)=>(f x).map fun y=>(y,())) n 0 () with
 | none=>rw [hq] at h;cases h
 | some r =>
  rw [hq] at h
  simp only [Option.map_some,Option.some.injEq] at h
  simp only [zaf]
  rw [←h]
theorem Check_eq {n:Nat} (w:Wire) (hn:100<=n):zfJ n w=some (cond (okW w) 0 110):=by
 unfold zfJ
 simp only [within_eq,zaf]
 by_cases h1:inR w.Letters 1 5=true
 ·rw [if_neg (by simp [h1])]
  by_cases h2:inR w.Numbers 1 5=true
  ·rw [if_neg (by simp [h2])]
   by_cases h3:inR w.Faults 0 3=true
   ·rw [if_neg (by simp [h3])]
    by_cases h4:w.Presses.length<=8
    ·rw [if_neg (by simp;omega)]
     have hs:zcn w:=⟨zbQ.1 h1,zbQ.1 h2⟩
     rw [znI (fun x=>zdZ x w) (fun p=>!okP w p) w.Presses (fun x _=>c1_eq hs x) (by omega) (by omega),zaf]
     unfold zbA okW
     simp only [h1,h2,h3,h4,decide_true,Bool.true_and]
     by_cases h5:w.Presses.all (okP w)=true
     ·rw [if_neg]
      ·simp [h5]
      ·simp only [List.any_eq_true,not_exists,not_and]
       intro x hx
       have:=List.all_eq_true.1 h5 x hx
       simp [this]
     ·rw [if_pos]
      ·simp [h5]
      ·simp only [List.any_eq_true]
       simp only [List.all_eq_true,Classical.not_forall] at h5
       obtain ⟨x,hx,h⟩:=h5
       exact ⟨x,hx,by simpa using h⟩
    ·rw [if_pos (by simp;omega)]
     simp [zbA,okW,h4]
   ·rw [if_pos (by simpa using h3)]
    simp [zbA,okW,h3]
  ·rw [if_pos (by simpa using h2)]
   simp [zbA,okW,h2]
 ·rw [if_pos (by simpa using h1)]
  simp [zbA,okW,h1]
theorem rCheck_eq {n:Nat} (w:Wire) (hn:100<=n):zgK n w=some (cond (okW w) 0 110):=by
 unfold zgK
 simp only [rwithin_eq,zaf]
 by_cases h1:inR w.Letters 1 5=true
 ·rw [if_neg (by simp [h1])]
  by_cases h2:inR w.Numbers 1 5=true
  ·rw [if_neg (by simp [h2])]
   by_cases h4:w.Presses.length<=8
   ·rw [if_neg (by simp;omega)]
    by_cases h3:inR w.Faults 0 3=true
    ·have hs:zcn w:=⟨zbQ.1 h1,zbQ.1 h2⟩
     have hm:=zjK hs
     unfold zbR
     rw [if_neg (by simp [h3])]
     have:=zjJ (F:=fun m i (_:Unit)=>zb4 w m i) (xs:=w.Presses) (spec:=fun l _=>some (cond (l.all (okP w)) 0 110)) (n:=n) (by omega) (by omega) () (fun m s=>by simp [zb4,zeW,zfS]) (fun m i x l s hx hi hi' hd hrec=>by
      simp only [zb4,zeW]
      rw [if_pos (by simpa using hi),hx,zaf,zoN hs,zaf]
      by_cases hb:okB w x.Letter x.Number=true
      ·rw [if_neg (by simp [hb]),zaP (x:=w.Letters*w.Numbers) (by omega) (by omega),zaP (x:=w.Letters*w.Numbers-1) (by omega) (by omega),rwithin_eq,zaf]
       unfold zdY
       by_cases hg:inR x.Got (-1) (w.Letters*w.Numbers-1)=true
       ·rw [if_neg (by simp [hg])]
        rw [hrec ()]
        simp [okP,hb,hg]
       ·rw [if_pos (by simpa using hg)]
        simp [okP,hb,hg]
      ·rw [if_pos (by simpa using hb)]
       simp [zdY,okP,hb])
     rw [show zb4 w n 0=_ from this]
     simp [okW,h1,h2,h3,h4]
    ·unfold zbR
     rw [if_pos (by simpa using h3)]
     simp [okW,h3]
   ·rw [if_pos (by simp;omega)]
    simp [zbR,okW,h4]
  ·rw [if_pos (by simpa using h2)]
   simp [zbR,okW,h2]
 ·rw [if_pos (by simpa using h1)]
  simp [zbR,okW,h1]
def far (w:Wire):Bool:=decide (w.Presses.length>40) || okW w&&(decide (max w.Letters w.Numbers>4) || decide (w.Faults>2))
theorem zwf {n:Nat} (w:Wire) (hn:100<=n):zjp n w=some (far w):=by
 unfold zjp far zek
 by_cases h1:w.Presses.length>40
 ·rw [if_pos (by simp;omega)]
  simp [h1]
 ·rw [if_neg (by simp;omega),rCheck_eq w hn,zaf]
  cases okW w with
  | true =>
   simp only [cond_true,beq_self_eq_true,if_true]
   by_cases h2:max w.Letters w.Numbers>4
   ·rw [if_pos (by simpa using h2)]
    simp [h1,h2]
   ·rw [if_neg (by simpa using h2)]
    simp [h1,h2]
  | false=>simp [h1]
def ztf (kd:Int) (m:Nat):List WireFault:=(List.range m).map fun a=>(⟨kd,(a:Nat),0⟩:WireFault)
def zpz (kd:Int) (m:Nat):List WireFault:=((List.range m).map fun a=>(List.range' (a+1) (m-(a+1))).map fun b=>(⟨kd,(a:Nat),(b:Nat)⟩:WireFault)).flatten
def zfY (w:Wire):List WireFault:=ztf 1 w.Letters.toNat++(ztf 2 w.Numbers.toNat++(zpz 3 w.Letters.toNat++zpz 4 w.Numbers.toNat))
set_option maxRecDepth 100000 in
theorem open_eq {w:Wire} (h:zcn w):zhC 20000 w=some (some ⟨w,zfY w⟩):=by
 obtain ⟨L,N,p,f⟩:=w
 obtain ⟨⟨h1,h2⟩,h3,h4⟩:=h
 simp only at h1 h2 h3 h4
 have hL:L=1\/L=2\/L=3\/L=4\/L=5:=by omega
 have hN:N=1\/N=2\/N=3\/N=4\/N=5:=by omega
 rcases hL with rfl | rfl | rfl | rfl | rfl<;>rcases hN with rfl | rfl | rfl | rfl | rfl<;>(show _=_;kernel_rfl)
set_option maxRecDepth 100000 in
theorem znJ {w:Wire} (h:zcn w):zgL 20000 w=some (zfY w):=by
 obtain ⟨L,N,p,f⟩:=w
 obtain ⟨⟨h1,h2⟩,h3,h4⟩:=h
 simp only at h1 h2 h3 h4
 have hL:L=1\/L=2\/L=3\/L=4\/L=5:=by omega
 have hN:N=1\/N=2\/N=3\/N=4\/N=5:=by omega
 rcases hL with rfl | rfl | rfl | rfl | rfl<;>rcases hN with rfl | rfl | rfl | rfl | rfl<;>(show _=_;kernel_rfl)
def okF (w:Wire) (f:WireFault):Prop:=(f.Kind=1/\(0<=f.A/\f.A<w.Letters)/\f.B=0)\/(f.Kind=2/\(0<=f.A/\f.A<w.Numbers)/\f.B=0)\/(f.Kind=3/\0<=f.A/\f.A<f.B/\f.B<w.Letters)\/(f.Kind=4/\0<=f.A/\f.A<f.B/\f.B<w.Numbers)
theorem ztg {kd:Int} {m:Nat} {f:WireFault}:f∈ztf kd m↔f.Kind=kd/\(0<=f.A/\f.A<m)/\f.B=0:=by
 unfold ztf
 rw [List.mem_map]
 constructor
 ·rintro ⟨a,ha,rfl⟩
  have:=List.mem_range.1 ha
  exact ⟨rfl,⟨by simp,by simp;omega⟩,rfl⟩
 ·rintro ⟨h1,⟨h2,h3⟩,h4⟩
  refine ⟨f.A.toNat,List.mem_range.2 (by omega),?_⟩
  obtain ⟨k,a,b⟩:=f
  simp only at *
  subst h1 h4
  congr 1
  omega
theorem zrO {kd:Int} {m:Nat} {f:WireFault}:f∈zpz kd m↔f.Kind=kd/\0<=f.A/\f.A<f.B/\f.B<m:=by
 unfold zpz
 rw [List.mem_flatten]
 constructor
 ·rintro ⟨l,hl,hf⟩
  obtain ⟨a,ha,rfl⟩:=List.mem_map.1 hl
  obtain ⟨b,hb,rfl⟩:=List.mem_map.1 hf
  have h1:=List.mem_range.1 ha
  have h2:=List.mem_range'_1.1 hb
  exact ⟨rfl,by simp,by simp;omega,by simp;omega⟩
 ·rintro ⟨h1,h2,h3,h4⟩
  refine ⟨_,List.mem_map.2 ⟨f.A.toNat,List.mem_range.2 (by omega),rfl⟩,List.mem_map.2 ⟨f.B.toNat,List.mem_range'_1.2 (by omega),?_⟩⟩
  obtain ⟨k,a,b⟩:=f
  simp only at *
  subst h1
  congr 1
  ·omega
  ·omega
theorem zrP {w:Wire} (hw:zcn w) {f:WireFault}:f∈zfY w↔okF w f:=by
 obtain ⟨h1,h2⟩:=hw
 unfold zfY okF
 simp only [List.mem_append,ztg,zrO]
 rw [show ((w.Letters.toNat:Nat):Int)=w.Letters by omega,show ((w.Numbers.toNat:Nat):Int)=w.Numbers by omega]
theorem zmQ {w:Wire} (h:zcn w):(zfY w).length<=30:=by
 obtain ⟨L,N,p,f⟩:=w
 obtain ⟨⟨h1,h2⟩,h3,h4⟩:=h
 simp only at h1 h2 h3 h4
 have hL:L=1\/L=2\/L=3\/L=4\/L=5:=by omega
 have hN:N=1\/N=2\/N=3\/N=4\/N=5:=by omega
 rcases hL with rfl | rfl | rfl | rfl | rfl<;>rcases hN with rfl | rfl | rfl | rfl | rfl<;>exact of_decide_eq_true (by kernel_rfl)
def clash (f g:WireFault):Bool:=f.Kind==g.Kind&&(decide (f.Kind≥3)&&(f.A==g.A || (f.A==g.B || (f.B==g.A || f.B==g.B))))
theorem zj7 (f g:WireFault):clash f g=clash g f:=by
 rw [Bool.eq_iff_iff]
 simp only [clash,Bool.and_eq_true,Bool.or_eq_true,beq_iff_eq,decide_eq_true_eq]
 omega
theorem zmR (f g:WireFault):zgT f g=some (clash f g):=by
 unfold zgT zct clash
 by_cases h1:f.Kind=g.Kind
 ·rw [if_pos (by simpa using h1)]
  by_cases h2:f.Kind≥3
  ·rw [if_pos (by simpa using h2)]
   by_cases h3:f.A=g.A
   ·simp [h1,h3];omega
   ·by_cases h4:f.A=g.B
    ·simp [h1,h4];omega
    ·by_cases h5:f.B=g.A
     ·simp [h1,h5,h3,h4];omega
     ·have h3':g.Kind≥3:=by omega
      simp [h1,h5,h3',show (f.A==g.A)=false by simpa using h3,show (f.A==g.B)=false by simpa using h4,show (f.B==g.A)=false by simpa using h5]
  ·rw [if_neg (by simpa using h2)]
   simp [h2]
 ·rw [if_neg (by simpa using h1)]
  simp [h1]
theorem zrQ (f g:WireFault):zi5 f g=some (clash f g):=by
 rw [←zmR]
 rfl
theorem znK {n:Nat} (f:WireFault->Option Bool) (g:WireFault->Bool) (xs:List WireFault) (hf:∀x,x∈xs->f x=some (g x)) (hl:xs.length<1048576) (hn:xs.length<n) :
  zaN n (fun x (_:Unit)=>(f x).map fun y=>(y,())) xs ()=some (xs.any g,()):=by
 have key:∀(l:List WireFault) (i m:Nat) (s:Unit),i<=xs.length->xs.drop i=l->l.length<m->(zaz xs (fun x (_:Unit)=>(f x).map fun y=>(y,())) m (i:Int) s).map (fun r=>decide (r.1≥0))=some (l.any g):=by
  intro l i m s h1 h2 h3
  refine zte (fun m i s=>(zaz xs (fun x (_:Unit)=>(f x).map fun y=>(y,())) m i s).map (fun r=>decide (r.1≥0))) xs (fun l _=>some (l.any g)) hl (fun m s=>?_) (fun m i x l s hx hi hi' hd hrec=>?_) l i m s h1 h2 h3
  ·simp [zaz,zbm,zbv]
  ·have hmem:x∈xs:=by
    unfold idx at hx
    rw [if_pos (by omega)] at hx
    exact List.mem_of_getElem? hx
   simp only [zaz,zbm]
   rw [if_pos (by simpa using hi),hx,zaf,hf x hmem]
   simp only [Option.map_some,zaf]
   by_cases hg:g x=true
   ·rw [if_pos hg]
    simp [hg]
   ·rw [if_neg hg]
    have:=hrec ()
    rw [this]
    simp [hg]
 have h:=key xs 0 n () (by omega) rfl hn
 unfold zaN zcK
 change Option.map _ (zaz xs _ n 0 ())=_ at h
 cases hq:zaz xs (fun x (_:Unit)=>(f x).map fun y=>(y,())) n 0 () with
 | none=>rw [hq] at h;cases h
 | some r =>
  rw [hq] at h
  simp only [Option.map_some,Option.some.injEq] at h
  simp only [zaf]
  rw [←h]
def zqy (G:List WireFault->List WireFault->List (List WireFault)) (first:List WireFault):List WireFault->List (List WireFault)
 | []=>[]
 | x::r=>(if first.any (clash x) then [] else G (first++[x]) r)++zqy G first r
def gs:Nat->List WireFault->List WireFault->List (List WireFault)
 | 0,first,_=>[first]
 | k+1,first,rest=>first::zqy (gs k) first rest
def yieldAll {α S:Type} (aF:α->S->Option (Bool×S)):List α->S->Option (Bool×S)
 | [],s=>some (true,s)
 | x::l,s=>(aF x s).bind fun r=>if r.1=true then yieldAll aF l r.2 else some (false,r.2)
theorem yieldAll_append {α S:Type} (aF:α->S->Option (Bool×S)):∀(l k:List α) (s:S),yieldAll aF (l++k) s=(yieldAll aF l s).bind fun r=>if r.1=true then yieldAll aF k r.2 else some (false,r.2)
 | [],k,s=>by simp [yieldAll]
 | x::l,k,s=>by
  simp only [List.cons_append,yieldAll]
  cases h:aF x s with
  | none=>rfl
  | some r =>
   simp only [Option.bind_some]
   cases hr:r.1 with
   | true=>simp only [if_true];exact yieldAll_append aF l k r.2
   | false=>simp
theorem zuy {α:Type} (xs:List α):cut xs 0 (xs.length:Int)=some xs:=by
 unfold cut
 rw [if_pos (by omega)]
 simp
theorem sets_eq {S:Type} (aF:List WireFault->S->Option (Bool×S)) (o:Wiring_) (hl:o.all.length<=100):∀(k n:Nat) (first:List WireFault) (i:Nat) (s:S),k+1000<=n->first.length+k<=100->i<=o.all.length->k<=100 ->
  zbE n aF (some o) first (i:Int) (k:Int) s=yieldAll aF (gs k first (o.all.drop i)) s:=by
 intro k
 induction k with
 | zero =>
  intro n first i s hn hf hi hk
  obtain ⟨n,rfl⟩:∃j,n=j+1:=⟨n-1,by omega⟩
  simp only [zbE,zdR]
  simp only [gs,yieldAll,show (((0:Nat):Int)==0)=true from rfl,if_true]
  cases h:aF first s with
  | none=>rfl
  | some r =>
   simp only [Option.bind_some]
   rcases r with ⟨b,s'⟩
   cases b<;>rfl
 | succ k ih =>
  intro n first i s hn hf hi hk
  obtain ⟨n,rfl⟩:∃j,n=j+1:=⟨n-1,by omega⟩
  simp only [zbE,zdR]
  rw [show (((k+1:Nat):Int)==0)=false by simp;omega]
  simp only [Bool.false_eq_true,if_false]
  have key:∀s,za0 n (zbE n aF) (some o) first ((k+1:Nat):Int) n (i:Int) s=yieldAll aF (zqy (gs k) first (o.all.drop i)) s:=fun s=>by
   refine zte (fun m i s=>za0 n (zbE n aF) (some o) first ((k+1:Nat):Int) m i s) o.all (fun l s=>yieldAll aF (zqy (gs k) first l) s) (by omega) (fun m s=>?_) (fun m i x l s hx hi hi' hd hrec=>?_) _ i n s hi rfl (by simp;omega)
   ·simp [za0,zc5,zdx,zqy,yieldAll]
   ·simp only [za0,zc5,zaf]
    rw [if_pos (by simpa using hi),hx,zaf]
    rw [znK (fun x0=>zcN x0 x) (clash x) first (fun y _=>by unfold zcN;rw [zmR];rfl) (by omega) (by omega),zaf]
    simp only [zqy]
    by_cases hc:first.any (clash x)=true
    ·rw [if_pos hc,if_pos hc]
     simp only [zcg,List.nil_append]
     exact hrec s
    ·rw [if_neg hc,if_neg hc,zuy,zaf,zif (by simp;omega),zaf,yieldAll_append]
     have:=ih n (first++[x]) (i+1) s (by omega) (by simp;omega) (by omega) (by omega)
     rw [hd] at this
     rw [zaP (by omega) (by omega),zaP (by omega) (by omega),show (i:Int)+1=((i+1:Nat):Int) by omega,show ((k+1:Nat):Int)-1=(k:Int) by omega,this]
     cases h:yieldAll aF (gs k (first++[x]) l) s with
     | none=>rfl
     | some r =>
      simp only [Option.bind_some]
      rcases r with ⟨b,s'⟩
      cases b with
      | false=>rfl
      | true =>
       simp only [Bool.not_true,Bool.false_eq_true,if_false,if_true,zcg]
       have:=hrec s'
       rw [zaP (by omega) (by omega)] at this
       rw [zaP (by omega) (by omega)]
       exact this
  simp only [gs,yieldAll]
  cases h:aF first s with
  | none=>rfl
  | some r =>
   simp only [Option.bind_some]
   rcases r with ⟨b,s'⟩
   cases b with
   | false=>rfl
   | true =>
    simp only [Bool.not_true,Bool.false_eq_true,if_false,if_true]
    exact key s'
def chs:Nat->Nat->Nat
 | 0,_=>1
 | _+1,0=>1
 | k+1,m+1=>chs (k+1) m+chs k m
theorem zrR {k:Nat} {first:List WireFault} (hG:∀f r,(gs k f r).length<=chs k r.length):∀rest:List WireFault,(zqy (gs k) first rest).length+1<=chs (k+1) rest.length
 | []=>by simp [zqy,chs]
 | x::r=>by
  have:=zrR (first:=first) hG r
  simp only [zqy,List.length_append,List.length_cons,chs]
  have h1:(if first.any (clash x)=true then [] else gs k (first++[x]) r).length<=chs k r.length:=by
   split
   ·simp
   ·exact hG _ _
  omega
theorem zwg (k:Nat):∀first rest:List WireFault,(gs k first rest).length<=chs k rest.length:=by
 induction k with
 | zero=>intro f r;simp [gs,chs]
 | succ k ih =>
  intro f r
  have:=zrR (first:=f) ih r
  simp only [gs,List.length_cons]
  exact this
theorem zrS:∀m,m<31->∀k,k<4->chs k m<=4526/\(k<3->chs k m<=961):=by decide
def xf (f:WireFault) (k:Int->Int):Int->Int:=fun i=>if i=f.B then f.A else if i=f.A then f.B else k i
def crs (kd:Int):List WireFault->(Int->Int)->Int->Int
 | [],k=>k
 | f::l,k=>crs kd l (if f.Kind=kd then xf f k else k)
def df (f:WireFault) (k:Int->Int):Int->Int:=fun i=>if i=f.A then -1 else k i
def ded (kd:Int):List WireFault->(Int->Int)->Int->Int
 | [],k=>k
 | f::l,k=>ded kd l (if f.Kind=kd then df f k else k)
def inF (f:WireFault):Prop:=(0<=f.A/\f.A<5)/\(0<=f.B/\f.B<5)
theorem znL {w:Wire} (hw:zcn w) {f:WireFault} (h:okF w f):inF f:=by
 obtain ⟨h1,h2⟩:=hw
 unfold okF at h
 unfold inF
 omega
theorem zu3 {a:Int} (h:0<=a/\a<5):a=0\/a=1\/a=2\/a=3\/a=4:=by omega
theorem zmS (k:Int->Int) {a:Int} (h:0<=a/\a<5):idx [k 0,k 1,k 2,k 3,k 4] a=some (k a):=by
 rcases zu3 h with rfl | rfl | rfl | rfl | rfl<;>rfl
theorem zrT (k:Int->Int) {a:Int} (v:Int) (h:0<=a/\a<5):∃l,zt7 [k 0,k 1,k 2,k 3,k 4] a v=some l/\∀j:Nat,j<5->l.getD j 0=if (j:Int)=a then v else k j:=by
 rcases zu3 h with rfl | rfl | rfl | rfl | rfl<;>refine ⟨_,rfl,fun j hj=>?_⟩<;>(have:j=0\/j=1\/j=2\/j=3\/j=4:=by omega)<;>rcases this with rfl | rfl | rfl | rfl | rfl<;>rfl
theorem zxQ (k m:Int->Int) (f:WireFault) (h:inF f):∃l,zdl [k 0,k 1,k 2,k 3,k 4,m 0,m 1,m 2,m 3,m 4] 0 f=some l/\(∀j:Nat,j<5->l.getD j 0=xf f k j)/\∀j:Nat,j<5->l.getD (5+j) 0=m j:=by
 obtain ⟨kd,a,b⟩:=f
 obtain ⟨ha,hb⟩:=h
 simp only at ha hb
 unfold zdl
 rw [if_pos ⟨ha,hb,by simp⟩]
 refine ⟨_,rfl,fun j hj=>?_,fun j hj=>?_⟩<;>(have hj':j=0\/j=1\/j=2\/j=3\/j=4:=by omega)<;>rcases zu3 ha with rfl | rfl | rfl | rfl | rfl<;>rcases zu3 hb with rfl | rfl | rfl | rfl | rfl<;>rcases hj' with rfl | rfl | rfl | rfl | rfl<;>rfl
theorem zxR (k m:Int->Int) (f:WireFault) (h:inF f):∃l,zdl [k 0,k 1,k 2,k 3,k 4,m 0,m 1,m 2,m 3,m 4] 5 f=some l/\(∀j:Nat,j<5->l.getD j 0=k j)/\∀j:Nat,j<5->l.getD (5+j) 0=xf f m j:=by
 obtain ⟨kd,a,b⟩:=f
 obtain ⟨ha,hb⟩:=h
 simp only at ha hb
 unfold zdl
 rw [if_pos ⟨ha,hb,by simp⟩]
 refine ⟨_,rfl,fun j hj=>?_,fun j hj=>?_⟩<;>(have hj':j=0\/j=1\/j=2\/j=3\/j=4:=by omega)<;>rcases zu3 ha with rfl | rfl | rfl | rfl | rfl<;>rcases zu3 hb with rfl | rfl | rfl | rfl | rfl<;>rcases hj' with rfl | rfl | rfl | rfl | rfl<;>rfl
def mkP (k m:Int->Int):Panel_:=⟨⟨k 0,k 1,k 2,k 3,k 4⟩,⟨m 0,m 1,m 2,m 3,m 4⟩⟩
theorem zoO {α:Type} {xs:List α} {i:Nat} {x:α} (h:idx xs (i:Int)=some x):x∈xs:=by
 unfold idx at h
 rw [if_pos (by omega)] at h
 exact List.mem_of_getElem? h
theorem zuz {n:Nat} (l:List WireFault) (hl:∀f,f∈l->inF f) (hs:l.length<1048576) (hn:l.length<n) (k m:Int->Int) :
  zfp n l (k 0) (k 1) (k 2) (k 3) (k 4) (m 0) (m 1) (m 2) (m 3) (m 4)=some (mkP (ded 1 l k) (ded 2 l m)):=by
 unfold zfp
 refine zjJ (F:=fun q i (s:(Int->Int)×(Int->Int))=>zcS l q i (s.1 0) (s.1 1) (s.1 2) (s.1 3) (s.1 4) (s.2 0) (s.2 1) (s.2 2) (s.2 3) (s.2 4)) (xs:=l) (spec:=fun l s=>some (mkP (ded 1 l s.1) (ded 2 l s.2))) hs hn (k,m) (fun q s=>?_) (fun q i f t s hx hi hi' hd hrec=>?_)
 ·simp [zcS,zfo,zgw,mkP,ded]
 ·have hf:=hl f (zoO hx)
  simp only [zcS,zfo]
  rw [if_pos (by simpa using hi),hx,zaf]
  by_cases h1:f.Kind=1
  ·rw [if_pos (by simpa using h1),zmS s.1 hf.1,zaf]
   obtain ⟨u,hu,hg⟩:=zrT s.1 (-1) hf.1
   rw [hu,zaf]
   simp only [zdm]
   rw [hg 0 (by omega),hg 1 (by omega),hg 2 (by omega),hg 3 (by omega),hg 4 (by omega)]
   have:=hrec (df f s.1,s.2)
   simp only [ded,if_pos h1,if_neg (show ¬f.Kind=2 by omega)]
   exact this
  ·rw [if_neg (by simpa using h1)]
   by_cases h2:f.Kind=2
   ·rw [if_pos (by simpa using h2),zmS s.2 hf.1,zaf]
    obtain ⟨u,hu,hg⟩:=zrT s.2 (-1) hf.1
    rw [hu,zaf]
    simp only [zdm]
    rw [hg 0 (by omega),hg 1 (by omega),hg 2 (by omega),hg 3 (by omega),hg 4 (by omega)]
    have:=hrec (s.1,df f s.2)
    simp only [ded,if_pos h2,if_neg h1]
    exact this
   ·rw [if_neg (by simpa using h2)]
    simp only [zdm,ded,if_neg h1,if_neg h2]
    exact hrec s
theorem zth {n:Nat} (l:List WireFault) (hl:∀f,f∈l->inF f) (hs:l.length<1048576) (hn:l.length<n) (k m:Int->Int) :
  zeI n l (k 0) (k 1) (k 2) (k 3) (k 4) (m 0) (m 1) (m 2) (m 3) (m 4)=some (mkP (ded 1 l (crs 3 l k)) (ded 2 l (crs 4 l m))):=by
 unfold zeI
 refine zjJ (F:=fun q i (s:(Int->Int)×(Int->Int))=>zcT n l q i (s.1 0) (s.1 1) (s.1 2) (s.1 3) (s.1 4) (s.2 0) (s.2 1) (s.2 2) (s.2 3) (s.2 4)) (xs:=l) (spec:=fun t s=>some (mkP (ded 1 l (crs 3 t s.1)) (ded 2 l (crs 4 t s.2)))) hs hn (k,m) (fun q s=>?_) (fun q i f t s hx hi hi' hd hrec=>?_)
 ·simp only [zcT,zfq]
  rw [if_neg (by simp)]
  exact zuz l hl hs hn s.1 s.2
 ·have hf:=hl f (zoO hx)
  simp only [zcT,zfq]
  rw [if_pos (by simpa using hi),hx,zaf]
  by_cases h1:f.Kind=3
  ·obtain ⟨u,hu,hg,hg'⟩:=zxQ s.1 s.2 f hf
   rw [if_pos (by simpa using h1),hu,zaf]
   simp only [zdn]
   rw [hg 0 (by omega),hg 1 (by omega),hg 2 (by omega),hg 3 (by omega),hg 4 (by omega),show u.getD 5 0=s.2 0 from hg' 0 (by omega),show u.getD 6 0=s.2 1 from hg' 1 (by omega),show u.getD 7 0=s.2 2 from hg' 2 (by omega),show u.getD 8 0=s.2 3 from hg' 3 (by omega),show u.getD 9 0=s.2 4 from hg' 4 (by omega)]
   have:=hrec (xf f s.1,s.2)
   simp only [crs,if_pos h1,if_neg (show ¬f.Kind=4 by omega)]
   exact this
  ·rw [if_neg (by simpa using h1)]
   by_cases h2:f.Kind=4
   ·obtain ⟨u,hu,hg,hg'⟩:=zxR s.1 s.2 f hf
    rw [if_pos (by simpa using h2),hu,zaf]
    simp only [zdn]
    rw [hg 0 (by omega),hg 1 (by omega),hg 2 (by omega),hg 3 (by omega),hg 4 (by omega),show u.getD 5 0=xf f s.2 0 from hg' 0 (by omega),show u.getD 6 0=xf f s.2 1 from hg' 1 (by omega),show u.getD 7 0=xf f s.2 2 from hg' 2 (by omega),show u.getD 8 0=xf f s.2 3 from hg' 3 (by omega),show u.getD 9 0=xf f s.2 4 from hg' 4 (by omega)]
    have:=hrec (s.1,xf f s.2)
    simp only [crs,if_pos h2,if_neg h1]
    exact this
   ·rw [if_neg (by simpa using h2)]
    simp only [zdn,crs,if_neg h1,if_neg h2]
    exact hrec s
theorem zrU (l:List WireFault):zgB 20000 l=zeI 20000 l 0 1 2 3 4 0 1 2 3 4:=by
 show _=_
 kernel_rfl
theorem zoP (l:List WireFault) (hl:∀f,f∈l->inF f) (hs:l.length<20000):zgB 20000 l=some (mkP (ded 1 l (crs 3 l fun i=>i)) (ded 2 l (crs 4 l fun i=>i))):=by
 rw [zrU]
 exact zth l hl (by omega) hs (fun i=>i) (fun i=>i)
def zti (w:Wire) (l:List WireFault) (a b:Int):Int :=
 if ded 1 l (crs 3 l fun i=>i) a<0\/ded 2 l (crs 4 l fun i=>i) b<0 then -1 else ded 1 l (crs 3 l fun i=>i) a*w.Numbers+ded 2 l (crs 4 l fun i=>i) b
theorem zrV (kd:Int):∀(l:List WireFault) (k:Int->Int),(∀f,f∈l->inF f)->(∀i,0<=i/\i<5->0<=k i/\k i<5)->∀i,0<=i/\i<5->0<=crs kd l k i/\crs kd l k i<5
 | [],k,_,hk,i,hi=>hk i hi
 | f::l,k,hl,hk,i,hi=>by
  refine zrV kd l _ (fun g hg=>hl g (by simp [hg])) (fun j hj=>?_) i hi
  have hf:=hl f (by simp)
  obtain ⟨h1,h2⟩:=hf
  split
  ·unfold xf
   split
   ·exact h1
   ·split
    ·exact h2
    ·exact hk j hj
  ·exact hk j hj
theorem zrW (kd:Int):∀(l:List WireFault) (k:Int->Int) (i:Int),ded kd l k i=-1\/ded kd l k i=k i
 | [],k,i=>.inr rfl
 | f::l,k,i=>by
  simp only [ded]
  rcases zrW kd l (if f.Kind=kd then df f k else k) i with h | h
  ·exact .inl h
  ·rw [h]
   split
   ·unfold df
    split
    ·exact .inl rfl
    ·exact .inr rfl
   ·exact .inr rfl
theorem zmT {w:Wire} {all:List WireFault} (hw:zcn w) (l:List WireFault) (hl:∀f,f∈l->inF f) {a b:Int} (ha:0<=a/\a<5) (hb:0<=b/\b<5) :
  zcH (some ⟨w,all⟩) (mkP (ded 1 l (crs 3 l fun i=>i)) (ded 2 l (crs 4 l fun i=>i))) a b=some (zti w l a b):=by
 obtain ⟨hw1,hw2⟩:=hw
 unfold zcH mkP
 simp only
 rw [zmS _ ha,zaf,zmS _ hb,zaf]
 unfold zti zcz
 have ba:=zrW 1 l (crs 3 l fun i=>i) a
 have bb:=zrW 2 l (crs 4 l fun i=>i) b
 have ca:=zrV 3 l (fun i=>i) hl (fun i h=>h) a ha
 have cb:=zrV 4 l (fun i=>i) hl (fun i h=>h) b hb
 generalize ded 1 l (crs 3 l fun i=>i) a=x at *
 generalize ded 2 l (crs 4 l fun i=>i) b=y at *
 by_cases h1:x<0
 ·rw [if_pos (by simpa using h1),if_pos rfl,if_pos (.inl h1)]
 ·rw [if_neg (by simpa using h1)]
  by_cases h2:y<0
  ·rw [if_pos (by simpa using h2),if_pos (.inr h2)]
  ·rw [if_neg (by simpa using h2),if_neg (by omega),zaf]
   have hx:0<=x/\x<5:=by omega
   have hm:0<=x*w.Numbers/\x*w.Numbers<=25:=by
    refine ⟨Int.mul_nonneg (by omega) (by omega),?_⟩
    have:=Int.mul_le_mul (show x<=5 by omega) hw2.2 (by omega) (by omega)
    simpa using this
   rw [zaP (x:=x*w.Numbers) (by omega) (by omega),zaP (by omega) (by omega)]
def other (kd:Int):List WireFault->Int->Int
 | [],b=>b
 | f::l,b=>if f.Kind=kd then (if f.A=b then f.B else if f.B=b then f.A else other kd l b) else other kd l b
def zg4 (w:Wire) (l:List WireFault) (a b:Int):Int :=
 if (⟨1,a,0⟩:WireFault)∈l\/(⟨2,b,0⟩:WireFault)∈l then -1 else other 3 l a*w.Numbers+other 4 l b
theorem zqm {n:Nat} (l:List WireFault) (f:WireFault) (hs:l.length<1048576) (hn:l.length<n):(zel n l f).map (fun r=>decide (r≥0))=some (decide (f∈l)):=by
 unfold zel
 refine zjJ (F:=fun q i (_:Unit)=>(zb5 l f q i).map (fun r=>decide (r≥0))) (xs:=l) (spec:=fun t _=>some (decide (f∈t))) hs hn () (fun q s=>?_) (fun q i g t s hx hi hi' hd hrec=>?_)
 ·simp [zb5,zc8,zeP]
 ·simp only [zb5,zc8]
  rw [if_pos (by simpa using hi),hx,zaf]
  by_cases hg:g=f
  ·subst hg
   simp
  ·rw [if_neg (by
    obtain ⟨u1,u2,u3⟩:=g
    obtain ⟨v1,v2,v3⟩:=f
    simpa using hg),hrec ()]
   have:f≠g:=fun e=>hg e.symm
   simp [this]
theorem ztQ {n:Nat} (l:List WireFault) (f:WireFault) (hs:l.length<1048576) (hn:l.length<n):zig n l f=some (decide (f∈l)):=by
 have:=zqm l f hs hn
 unfold zig
 cases h:zel n l f with
 | none=>rw [h] at this;cases this
 | some r=>rw [h] at this;simpa using this
theorem zpA {n:Nat} (l:List WireFault) (kd b:Int) (hs:l.length<1048576) (hn:l.length<n):zgM n l kd b=some (other kd l b):=by
 unfold zgM
 refine zjJ (F:=fun q i (_:Unit)=>zcq l kd b q i) (xs:=l) (spec:=fun t _=>some (other kd t b)) hs hn () (fun q s=>?_) (fun q i g t s hx hi hi' hd hrec=>?_)
 ·simp [zcq,zeZ,zfU,other]
 ·simp only [zcq,zeZ]
  rw [if_pos (by simpa using hi),hx,zaf]
  simp only [other,zeR]
  by_cases h1:g.Kind=kd
  ·rw [if_pos (by simpa using h1),if_pos h1]
   by_cases h2:g.A=b
   ·rw [if_pos (by simpa using h2),if_pos h2]
   ·rw [if_neg (by simpa using h2),if_neg h2]
    by_cases h3:g.B=b
    ·rw [if_pos (by simpa using h3),if_pos h3]
    ·rw [if_neg (by simpa using h3),if_neg h3]
     exact hrec ()
  ·rw [if_neg (by simpa using h1),if_neg h1]
   exact hrec ()
theorem zjL (kd:Int):∀(l:List WireFault) (b:Int),(∀f,f∈l->inF f)->0<=b/\b<5->0<=other kd l b/\other kd l b<5
 | [],b,_,hb=>hb
 | f::l,b,hl,hb=>by
  obtain ⟨h1,h2⟩:=hl f (by simp)
  have:=zjL kd l b (fun g hg=>hl g (by simp [hg])) hb
  simp only [other]
  split
  ·split
   ·exact h2
   ·split
    ·exact h1
    ·exact this
  ·exact this
theorem zqn {n:Nat} {w:Wire} (hw:zcn w) (l:List WireFault) (hl:∀f,f∈l->inF f) (hs:l.length<1048576) (hn:l.length<n) {a b:Int} (ha:0<=a/\a<5) (hb:0<=b/\b<5):zgn n w l a b=some (zg4 w l a b):=by
 obtain ⟨hw1,hw2⟩:=hw
 unfold zgn zdS zg4
 rw [ztQ l _ hs hn,zaf,ztQ l _ hs hn]
 by_cases h1:(⟨1,a,0⟩:WireFault)∈l
 ·simp [h1]
 ·rw [if_neg (by simpa using h1),zaf]
  by_cases h2:(⟨2,b,0⟩:WireFault)∈l
  ·simp [h2]
  ·rw [if_neg (by simpa using h2),if_neg (by simp [h1,h2]),zpA l 3 a hs hn,zaf,zpA l 4 b hs hn,zaf]
   have hx:=zjL 3 l a hl ha
   have hy:=zjL 4 l b hl hb
   have hm:0<=other 3 l a*w.Numbers/\other 3 l a*w.Numbers<=25:=by
    refine ⟨Int.mul_nonneg (by omega) (by omega),?_⟩
    have:=Int.mul_le_mul (show other 3 l a<=5 by omega) hw2.2 (by omega) (by omega)
    simpa using this
   rw [zaP (x:=other 3 l a*w.Numbers) (by omega) (by omega),zaP (by omega) (by omega)]
def zg5 (l:List WireFault):Prop:=l.Pairwise fun f g=>clash f g=false
theorem zoQ {f g:WireFault} (hk:f.Kind=g.Kind) (h3:f.Kind≥3) (h:clash f g=false):f.A≠g.A/\f.A≠g.B/\f.B≠g.A/\f.B≠g.B:=by
 have h':¬clash f g=true:=by simp [h]
 simp only [clash,Bool.and_eq_true,Bool.or_eq_true,beq_iff_eq,decide_eq_true_eq] at h'
 omega
def touch (kd:Int) (l:List WireFault) (i:Int):Prop:=∃f,f∈l/\f.Kind=kd/\(f.A=i\/f.B=i)
theorem zln {kd:Int} (h3:kd≥3):∀(l:List WireFault) (k:Int->Int) (i:Int),zg5 l->(∀f,f∈l->f.Kind=kd->f.A<f.B)->(touch kd l i->crs kd l k i=other kd l i)/\(¬touch kd l i->crs kd l k i=k i/\other kd l i=i)
 | [],k,i,_,_=>⟨fun ⟨f,hf,_⟩=>by simp at hf,fun _=>⟨rfl,rfl⟩⟩
 | f::l,k,i,hc,hlt=>by
  obtain ⟨hc1,hc2⟩:=List.pairwise_cons.1 hc
  by_cases hk:f.Kind=kd
  ·obtain ⟨q1,q2⟩:=zln h3 l (xf f k) i hc2 fun g hg=>hlt g (by simp [hg])
   simp only [crs,other,if_pos hk]
   by_cases hi:f.A=i\/f.B=i
   ·have hne:¬touch kd l i:=by
     rintro ⟨g,hg,hgk,h⟩
     have:=zoQ (hk.trans hgk.symm) (by omega) (hc1 g hg)
     omega
    refine ⟨fun _=>?_,fun h=>(h ⟨f,by simp,hk,hi⟩).elim⟩
    have hlt':=hlt f (by simp) hk
    rw [(q2 hne).1]
    unfold xf
    rcases hi with hA | hB
    ·rw [if_neg (by omega),if_pos hA.symm,if_pos hA]
    ·rw [if_pos hB.symm,if_neg (by omega),if_pos hB]
   ·have hi1:f.A≠i:=fun e=>hi (.inl e)
    have hi2:f.B≠i:=fun e=>hi (.inr e)
    rw [if_neg hi1,if_neg hi2]
    refine ⟨fun ⟨g,hg,hgk,h⟩=>?_,fun hn=>?_⟩
    ·rcases List.mem_cons.1 hg with e | hg
     ·subst e;exact (hi h).elim
     ·exact q1 ⟨g,hg,hgk,h⟩
    ·obtain ⟨e1,e2⟩:=q2 fun ⟨g,hg,hgk,h⟩=>hn ⟨g,by simp [hg],hgk,h⟩
     refine ⟨e1.trans ?_,e2⟩
     unfold xf
     rw [if_neg (fun e=>hi2 e.symm),if_neg (fun e=>hi1 e.symm)]
  ·obtain ⟨q1,q2⟩:=zln h3 l k i hc2 fun g hg=>hlt g (by simp [hg])
   simp only [crs,other,if_neg hk]
   refine ⟨fun ⟨g,hg,hgk,h⟩=>?_,fun hn=>?_⟩
   ·rcases List.mem_cons.1 hg with e | hg
    ·subst e;exact (hk hgk).elim
    ·exact q1 ⟨g,hg,hgk,h⟩
   ·exact q2 fun ⟨g,hg,hgk,h⟩=>hn ⟨g,by simp [hg],hgk,h⟩
theorem ztR {kd:Int} (h3:kd≥3) (l:List WireFault) (i:Int) (hc:zg5 l) (hlt:∀f,f∈l->f.Kind=kd->f.A<f.B):crs kd l (fun i=>i) i=other kd l i:=by
 obtain ⟨h1,h2⟩:=zln h3 l (fun i=>i) i hc hlt
 by_cases h:touch kd l i
 ·exact h1 h
 ·exact (h2 h).1.trans (h2 h).2.symm
theorem zoR (kd:Int):∀(l:List WireFault) (k:Int->Int) (i:Int),(∀f,f∈l->f.Kind=kd->f.B=0)->ded kd l k i=if (⟨kd,i,0⟩:WireFault)∈l then -1 else k i
 | [],k,i,_=>by simp [ded]
 | f::l,k,i,h=>by
  simp only [ded]
  rw [zoR kd l _ i fun g hg=>h g (by simp [hg])]
  by_cases hm:(⟨kd,i,0⟩:WireFault)∈l
  ·rw [if_pos hm,if_pos (by simp [hm])]
  ·rw [if_neg hm]
   by_cases hf:f=⟨kd,i,0⟩
   ·have e:(if f.Kind=kd then df f k else k) i=-1:=by
     subst hf
     simp [df]
    rw [e,if_pos (by simp [hf])]
   ·have e:(if f.Kind=kd then df f k else k) i=k i:=by
     by_cases hk:f.Kind=kd
     ·rw [if_pos hk]
      unfold df
      refine if_neg fun hi=>hf ?_
      have hB:=h f (by simp) hk
      obtain ⟨u1,u2,u3⟩:=f
      subst hk hB hi
      rfl
     ·rw [if_neg hk]
    rw [e,if_neg (by simp only [List.mem_cons,not_or];exact ⟨fun e=>hf e.symm,hm⟩)]
def zmU (w:Wire) (l:List WireFault):Prop:=(∀f,f∈l->okF w f)/\zg5 l
theorem zlo {w:Wire} (hw:zcn w) {l:List WireFault} (hg:zmU w l) {a b:Int} (ha:0<=a/\a<5) (hb:0<=b/\b<5):zti w l a b=zg4 w l a b:=by
 have hin:∀f,f∈l->inF f:=fun f hf=>znL hw (hg.1 f hf)
 have k3:∀f,f∈l->f.Kind=3->f.A<f.B:=fun f hf hk=>by have:=hg.1 f hf;unfold okF at this;omega
 have k4:∀f,f∈l->f.Kind=4->f.A<f.B:=fun f hf hk=>by have:=hg.1 f hf;unfold okF at this;omega
 have k1:∀f,f∈l->f.Kind=1->f.B=0:=fun f hf hk=>by have:=hg.1 f hf;unfold okF at this;omega
 have k2:∀f,f∈l->f.Kind=2->f.B=0:=fun f hf hk=>by have:=hg.1 f hf;unfold okF at this;omega
 unfold zti zg4
 rw [zoR 1 l _ a k1,zoR 2 l _ b k2,ztR (by omega) l a hg.2 k3,ztR (by omega) l b hg.2 k4]
 have hx:=zjL 3 l a hin ha
 have hy:=zjL 4 l b hin hb
 by_cases h1:(⟨1,a,0⟩:WireFault)∈l
 ·simp [h1]
 ·by_cases h2:(⟨2,b,0⟩:WireFault)∈l
  ·simp [h2]
  ·simp only [if_neg h1,if_neg h2]
   rw [if_neg (by omega),if_neg (by simp [h1,h2])]
def zoS (w:Wire) (ps:List WirePress) (l:List WireFault):Bool:=ps.all fun p=>zg4 w l p.Letter p.Number==p.Got
def btn (p:WirePress):Prop:=(0<=p.Letter/\p.Letter<5)/\(0<=p.Number/\p.Number<5)
theorem zuA {w:Wire} (hw:zcn w) {p:WirePress} (h:okP w p=true):btn p:=by
 obtain ⟨h1,h2⟩:=hw
 simp only [okP,okB,Bool.and_eq_true,zbQ] at h
 unfold btn
 omega
theorem zqo {α:Type} (f g:α->Int) (l:List α):(!l.any fun p=>f p != g p)=l.all fun p=>f p==g p:=by
 induction l with
 | nil=>rfl
 | cons x l ih =>
  simp only [List.any_cons,List.all_cons,Bool.not_or,ih]
  cases h:f x==g x<;>simp [h,bne]
theorem zlp {w:Wire} (hw:zcn w) {all:List WireFault} {l:List WireFault} (hg:zmU w l) (hs:l.length<20000) {ps:List WirePress} (hp:∀p,p∈ps->btn p) (hps:ps.length<20000) :
  zcA 20000 (some ⟨w,all⟩) l ps=some (zoS w ps l):=by
 have hin:∀f,f∈l->inF f:=fun f hf=>znL hw (hg.1 f hf)
 unfold zcA
 rw [zoP l hin hs,zaf,znI (fun x0=>zbZ x0 (some ⟨w,all⟩) (mkP (ded 1 l (crs 3 l fun i=>i)) (ded 2 l (crs 4 l fun i=>i)))) (fun p=>zg4 w l p.Letter p.Number != p.Got) ps (fun p hm=>by
  unfold zbZ
  rw [zmT hw l hin (hp p hm).1 (hp p hm).2,zaf,zlo hw hg (hp p hm).1 (hp p hm).2]) (by omega) hps,zaf]
 simp only
 rw [zqo (fun p:WirePress=>zg4 w l p.Letter p.Number) (fun p=>p.Got)]
 rfl
theorem zlI {n:Nat} {w:Wire} (hw:zcn w) {l:List WireFault} (hg:zmU w l) (hs:l.length<1048576) (hn:l.length<n) (hp:∀p,p∈w.Presses->btn p) (hps:w.Presses.length<1048576) (hpn:w.Presses.length<n) :
  zey n w l=some (zoS w w.Presses l):=by
 have hin:∀f,f∈l->inF f:=fun f hf=>znL hw (hg.1 f hf)
 unfold zey
 refine zjJ (F:=fun q i (_:Unit)=>zbF n w l q i) (xs:=w.Presses) (spec:=fun t _=>some (zoS w t l)) hps hpn () (fun q s=>?_) (fun q i p t s hx hi hi' hd hrec=>?_)
 ·simp [zbF,zc3,zdu,zoS]
 ·have hb:=hp p (zoO hx)
  simp only [zbF,zc3]
  rw [if_pos (by simpa using hi),hx,zaf,zqn hw l hin hs hn hb.1 hb.2,zaf]
  by_cases h:zg4 w l p.Letter p.Number=p.Got
  ·rw [if_neg (by simpa using h),hrec ()]
   simp [zoS,h]
  ·rw [if_pos (by simpa using h)]
   simp [zoS,h]
theorem zrX {G:List WireFault->List WireFault->List (List WireFault)} {first l:List WireFault}:∀rest:List WireFault,l∈zqy G first rest↔∃p x r,rest=p++x::r/\first.any (clash x)=false/\l∈G (first++[x]) r
 | []=>by simp [zqy]
 | y::rest=>by
  simp only [zqy,List.mem_append,zrX rest]
  constructor
  ·rintro (h | ⟨p,x,r,rfl,h1,h2⟩)
   ·split at h
    ·simp at h
    ·rename_i hc
     exact ⟨[],y,rest,rfl,by simpa using hc,h⟩
   ·exact ⟨y::p,x,r,rfl,h1,h2⟩
  ·rintro ⟨p,x,r,he,h1,h2⟩
   cases p with
   | nil =>
    simp only [List.nil_append,List.cons.injEq] at he
    obtain ⟨rfl,rfl⟩:=he
    left
    rw [if_neg (by simp [h1])]
    exact h2
   | cons z p =>
    simp only [List.cons_append,List.cons.injEq] at he
    exact .inr ⟨p,x,r,he.2,h1,h2⟩
theorem ziB {first:List WireFault} {x:WireFault} (h:zg5 first):zg5 (first++[x])↔first.any (clash x)=false:=by
 unfold zg5
 rw [List.pairwise_append]
 simp only [List.any_eq_false]
 constructor
 ·rintro ⟨_,_,h3⟩ f hf
  have:=h3 f hf x (by simp)
  rw [zj7]
  simp [this]
 ·intro h3
  refine ⟨h,List.pairwise_singleton _ _,fun f hf y hy=>?_⟩
  simp at hy
  subst hy
  have:=h3 f hf
  rw [zj7]
  simpa using this
theorem zwh (k:Nat):∀(first rest l:List WireFault),zg5 first->(l∈gs k first rest↔∃t,l=first++t/\t.Sublist rest/\t.length<=k/\zg5 l):=by
 induction k with
 | zero =>
  intro first rest l hc
  simp only [gs,List.mem_singleton]
  constructor
  ·rintro rfl
   exact ⟨[],by simp,List.nil_sublist _,by simp,hc⟩
  ·rintro ⟨t,rfl,_,ht,_⟩
   have:t=[]:=List.eq_nil_of_length_eq_zero (by omega)
   simp [this]
 | succ k ih =>
  intro first rest l hc
  simp only [gs,List.mem_cons,zrX]
  constructor
  ·rintro (rfl | ⟨p,x,r,rfl,h1,h2⟩)
   ·exact ⟨[],by simp,List.nil_sublist _,by simp,hc⟩
   ·obtain ⟨t,rfl,h3,h4,h5⟩:=(ih (first++[x]) r l ((ziB hc).2 h1)).1 h2
    exact ⟨x::t,by simp,List.Sublist.trans (h3.cons₂ x) (List.sublist_append_right _ _),by simp;omega,h5⟩
  ·rintro ⟨t,rfl,h3,h4,h5⟩
   cases t with
   | nil=>left;simp
   | cons x t =>
    right
    obtain ⟨p,r,rfl,h6⟩:∃p r,rest=p++x::r/\t.Sublist r:=by
     clear h4 h5 ih
     induction rest with
     | nil=>cases h3
     | cons y rest ih2 =>
      cases h3 with
      | cons _ h=>obtain ⟨p,r,rfl,h6⟩:=ih2 h;exact ⟨y::p,r,rfl,h6⟩
      | cons_cons _ h=>exact ⟨[],rest,rfl,h⟩
    have h7:zg5 (first++[x]):=by
     have:first++x::t=(first++[x])++t:=by simp
     unfold zg5 at h5
     rw [this,List.pairwise_append] at h5
     exact h5.1
    simp only [List.length_cons] at h4
    exact ⟨p,x,r,rfl,(ziB hc).1 h7,(ih (first++[x]) r _ h7).2 ⟨t,by simp,h6,by omega,h5⟩⟩
def zqp (w:Wire) (k:Nat):List (List WireFault):=gs k [] (zfY w)
theorem zmV {w:Wire} {k:Nat} {l:List WireFault}:l∈zqp w k↔l.Sublist (zfY w)/\l.length<=k/\zg5 l:=by
 unfold zqp
 rw [zwh k [] (zfY w) l .nil]
 constructor
 ·rintro ⟨t,rfl,h1,h2,h3⟩
  exact ⟨h1,h2,h3⟩
 ·rintro ⟨h1,h2,h3⟩
  exact ⟨l,rfl,h1,h2,h3⟩
theorem znM {w:Wire} (hw:zcn w) {k:Nat} {l:List WireFault} (h:l∈zqp w k):zmU w l/\l.length<=k:=by
 obtain ⟨h1,h2,h3⟩:=zmV.1 h
 exact ⟨⟨fun f hf=>(zrP hw).1 (h1.subset hf),h3⟩,h2⟩
theorem ztj {w:Wire} (hw:zcn w) {k:Nat} (hk:k<=3):(zqp w k).length<=4526 :=
 Nat.le_trans (zwg k _ _) (zrS _ (by have:=zmQ hw;omega) k (by omega)).1
def T (w:Wire) (ps:List WirePress) (k:Nat):List (List WireFault):=(zqp w k).filter (zoS w ps)
theorem zxS {w:Wire} (hw:zcn w) (ps:List WirePress) {k:Nat} (hk:k<=3):(T w ps k).length<=4526:=Nat.le_trans (List.length_filter_le _ _) (ztj hw hk)
theorem yieldAll_congr {α S:Type} {aF bF:α->S->Option (Bool×S)}:∀(l:List α) (s:S),(∀x,x∈l->∀s,aF x s=bF x s)->yieldAll aF l s=yieldAll bF l s
 | [],_,_=>rfl
 | x::l,s,h=>by
  simp only [yieldAll,h x (by simp)]
  congr 1
  funext r
  split
  ·exact yieldAll_congr l r.2 fun y hy=>h y (by simp [hy])
  ·rfl
theorem zg6 {α S:Type} (aF:α->S->Option (Bool×S)) (e:α->Bool):∀(l:List α) (s:S),yieldAll (fun x s=>if e x=true then aF x s else some (true,s)) l s=yieldAll aF (l.filter e) s
 | [],_=>rfl
 | x::l,s=>by
  simp only [yieldAll]
  by_cases h:e x=true
  ·rw [if_pos h,List.filter_cons_of_pos h]
   simp only [yieldAll]
   congr 1
   funext r
   split
   ·exact zg6 aF e l r.2
   ·rfl
  ·rw [if_neg h,List.filter_cons_of_neg h]
   simp only [Option.bind_some,if_true]
   exact zg6 aF e l s
theorem znN {S:Type} {w:Wire} (hw:zcn w) (aF:List WireFault->S->Option (Bool×S)) {k:Nat} (hk:k<=3) {ps:List WirePress} (hp:∀p,p∈ps->btn p) (hps:ps.length<20000) (s:S) :
  zcu 20000 aF (some ⟨w,zfY w⟩) (k:Int) ps s=(yieldAll aF (T w ps k) s).map fun r=>((),r.2):=by
 unfold zcu
 have h0:=sets_eq (fun x0 s=>zbq 20000 aF x0 (some ⟨w,zfY w⟩) ps s) ⟨w,zfY w⟩ (by have:=zmQ hw;simp only;omega) k 20000 [] 0 s (by omega) (by simp;omega) (by omega) (by omega)
 rw [show ((0:Nat):Int)=0 from rfl] at h0
 rw [h0,show List.drop 0 (zfY w)=zfY w from rfl]
 rw [yieldAll_congr (bF:=fun x s=>if zoS w ps x=true then aF x s else some (true,s)) _ s fun x hx s=>by
  obtain ⟨hg,hl⟩:=znM hw (show x∈zqp w k from hx)
  unfold zbq za9
  rw [zlp hw hg (by omega) hp hps,zaf]
  by_cases h:zoS w ps x=true
  ·rw [if_neg (by simp [h]),if_pos h]
   cases aF x s<;>rfl
  ·rw [if_pos (by simpa using h),if_neg h]]
 rw [zg6]
 cases h:yieldAll aF (T w ps k) s with
 | none=>rw [show yieldAll aF (List.filter (zoS w ps) (gs k [] (zfY w))) s=none from h];rfl
 | some r=>rw [show yieldAll aF (List.filter (zoS w ps) (gs k [] (zfY w))) s=some r from h];rfl
theorem zf7 {w:Wire} (h:okW w=true):zcn w:=(zht.1 h).1
theorem zoT {w:Wire} (h:okW w=true):∀p,p∈w.Presses->btn p:=fun p hp=>zuA (zf7 h) ((zht.1 h).2.2.2 p hp)
abbrev Tw (w:Wire):List (List WireFault):=T w w.Presses w.Faults.toNat
theorem znO {S:Type} {w:Wire} (h:okW w=true) (aF:List WireFault->S->Option (Bool×S)) (s:S) :
  zc0 20000 aF (some ⟨w,zfY w⟩) s=(yieldAll aF (Tw w) s).map fun r=>((),r.2):=by
 obtain ⟨hw,hF,hP,_⟩:=zht.1 h
 unfold zc0 zd4
 simp only [zaf]
 have:=znN hw aF (k:=w.Faults.toNat) (by omega) (zoT h) (by omega) s
 rw [show ((w.Faults.toNat:Nat):Int)=w.Faults by omega] at this
 rw [this]
 cases yieldAll aF (T w w.Presses w.Faults.toNat) s<;>rfl
theorem zwi (w:Wire) (is:Bool):zjq 20000 w is=some (if okW w=true then (if is=true then (if Tw w=[] then (none,3) else (some ⟨w,zfY w⟩,0)) else (none,1)) else (none,110)):=by
 unfold zjq
 rw [Check_eq w (by omega),zaf]
 by_cases h:okW w=true
 ·rw [if_pos h,if_neg (by simp [h])]
  cases is with
  | false=>simp
  | true =>
   rw [if_neg (by simp),open_eq (zf7 h),zaf,znO h]
   cases hT:Tw w with
   | nil=>simp [yieldAll]
   | cons l r=>simp [yieldAll,zhh]
 ·have h':okW w=false:=by simpa using h
  rw [if_neg h,if_pos (by simp [h'])]
  simp [h']
theorem zkh {α S:Type} {aF:α->S->Option (Bool×S)} (I:List α->S->Prop) (g:S->α->S):∀(l:List α) (s:S),(∀x l' s,x∈l->I (x::l') s->aF x s=some (true,g s x)/\I l' (g s x))->I l s->yieldAll aF l s=some (true,l.foldl g s)/\I [] (l.foldl g s)
 | [],s,_,h=>⟨rfl,h⟩
 | x::l,s,hs,h=>by
  obtain ⟨h1,h2⟩:=hs x l s (by simp) h
  simp only [yieldAll,h1,Option.bind_some,if_true,List.foldl_cons]
  exact zkh I g l (g s x) (fun y l' s hy=>hs y l' s (by simp [hy])) h2
section
variable {κ:Type} [DecidableEq κ]
theorem zlq:∀(M:List (κ×Int)) (k j:κ) (v:Int),zly (zkx M k v) j=if k=j then v else zly M j
 | [],k,j,v=>by simp [zkx,zly]
 | p::M,k,j,v=>by
  simp only [zkx]
  by_cases h:p.1=k
  ·rw [if_pos h]
   simp only [zly]
   by_cases e:k=j
   ·rw [if_pos e,if_pos e]
   ·rw [if_neg e,if_neg e,if_neg (by rw [h];exact e)]
  ·rw [if_neg h]
   simp only [zly,zlq M k j v]
   by_cases e:k=j
   ·subst e
    simp [h]
   ·rw [if_neg e,if_neg e]
theorem zjM:∀(M:List (κ×Int)) (k:κ) (v:Int) (x:κ),x∈(zkx M k v).map (·.1)↔x=k\/x∈M.map (·.1)
 | [],k,v,x=>by simp [zkx]
 | p::M,k,v,x=>by
  simp only [zkx]
  by_cases h:p.1=k
  ·rw [if_pos h]
   simp only [List.map_cons,List.mem_cons,←h]
   constructor
   ·rintro (e | e)
    ·exact .inl e
    ·exact .inr (.inr e)
   ·rintro (e | e | e)
    ·exact .inl e
    ·exact .inl e
    ·exact .inr e
  ·rw [if_neg h]
   simp only [List.map_cons,List.mem_cons,zjM M k v x]
   constructor
   ·rintro (e | e | e)
    ·exact .inr (.inl e)
    ·exact .inl e
    ·exact .inr (.inr e)
   ·rintro (e | e | e)
    ·exact .inr (.inl e)
    ·exact .inl e
    ·exact .inr (.inr e)
theorem zl8:∀(M:List (κ×Int)) (k:κ) (v:Int),(M.map (·.1)).Nodup->((zkx M k v).map (·.1)).Nodup
 | [],k,v,_=>by simp [zkx]
 | p::M,k,v,hn=>by
  simp only [List.map_cons] at hn
  obtain ⟨h1,h2⟩:=List.nodup_cons.1 hn
  simp only [zkx]
  by_cases h:p.1=k
  ·rw [if_pos h]
   simp only [List.map_cons]
   exact List.nodup_cons.2 ⟨by rw [←h];exact h1,h2⟩
  ·rw [if_neg h]
   simp only [List.map_cons]
   refine List.nodup_cons.2 ⟨fun hm=>?_,zl8 M k v h2⟩
   rcases (zjM M k v p.1).1 hm with e | e
   ·exact h e
   ·exact h1 e
def zja (ok:κ->Bool) (M:List (κ×Int)):Prop:=(∀x,x∈M.map (·.1)->ok x=true)/\(M.map (·.1)).Nodup
theorem zja.nil (ok:κ->Bool):zja ok []:=⟨fun x h=>by simp at h,List.nodup_nil⟩
theorem zja.set {ok:κ->Bool} {M:List (κ×Int)} (h:zja ok M) {k:κ} (hk:ok k=true) (v:Int):zja ok (zkx M k v) :=
 ⟨fun x hx=>by rcases (zjM M k v x).1 hx with rfl | hx;exact hk;exact h.1 x hx,zl8 M k v h.2⟩
theorem zja.mok {ok:κ->Bool} {M:List (κ×Int)} (h:zja ok M) {k:κ} (hk:ok k=true):mok ok M k=true:=by
 unfold Go.AM.mok
 simp only [Bool.and_eq_true,hk,true_and,List.all_eq_true,decide_eq_true_eq]
 exact ⟨fun p hp=>h.1 _ (List.mem_map_of_mem hp),h.2⟩
def bump (M:List (κ×Int)) (x:κ):List (κ×Int):=zkx M x (zly M x+1)
theorem zl9:∀(xs:List κ) (M:List (κ×Int)) (j:κ),zly (xs.foldl bump M) j=zly M j+(xs.count j:Nat)
 | [],M,j=>by simp
 | x::xs,M,j=>by
  rw [List.foldl_cons,zl9 xs (bump M x) j]
  unfold bump
  rw [zlq,List.count_cons]
  by_cases h:x=j
  ·subst h
   simp
   omega
  ·rw [if_neg h]
   simp [h]
theorem zja.bumps {ok:κ->Bool}:∀(xs:List κ) {M:List (κ×Int)},zja ok M->(∀x,x∈xs->ok x=true)->zja ok (xs.foldl bump M)
 | [],_,h,_=>h
 | x::xs,_,h,hx=>zja.bumps xs (h.set (hx x (by simp)) _) fun y hy=>hx y (by simp [hy])
theorem zma:∀(xs:List κ) (M:List (κ×Int)) (x:κ),x∈(xs.foldl bump M).map (·.1)↔x∈xs\/x∈M.map (·.1)
 | [],M,x=>by simp
 | y::xs,M,x=>by
  rw [List.foldl_cons,zma xs (bump M y) x]
  unfold bump
  rw [zjM]
  simp only [List.mem_cons]
  constructor
  ·rintro (h | h | h)
   ·exact .inl (.inr h)
   ·exact .inl (.inl h)
   ·exact .inr h
  ·rintro ((h | h) | h)
   ·exact .inr (.inl h)
   ·exact .inl h
   ·exact .inr (.inr h)
end
theorem zwj {x:Int} (h1:-9223372036854775808<=x) (h2:x<=9223372036854775807):okI x=true:=by
 unfold okI Lit.wf
 simp only [Bool.and_eq_true,decide_eq_true_eq]
 exact ⟨h1,h2⟩
theorem zrY {w:Wire} (h:zcn w):(zfY w).Nodup:=by
 obtain ⟨L,N,p,f⟩:=w
 obtain ⟨⟨h1,h2⟩,h3,h4⟩:=h
 simp only at h1 h2 h3 h4
 have hL:L=1\/L=2\/L=3\/L=4\/L=5:=by omega
 have hN:N=1\/N=2\/N=3\/N=4\/N=5:=by omega
 rcases hL with rfl | rfl | rfl | rfl | rfl<;>rcases hN with rfl | rfl | rfl | rfl | rfl<;>exact of_decide_eq_true (by kernel_rfl)
theorem zrZ {w:Wire} (h:okW w=true) {l:List WireFault} (hl:l∈Tw w):zmU w l/\l.length<=3/\l.Nodup/\l.Sublist (zfY w):=by
 obtain ⟨hw,hF,hP,_⟩:=zht.1 h
 have hm:=(List.mem_filter.1 hl).1
 obtain ⟨h1,h2⟩:=znM hw hm
 have h3:=(zmV.1 hm).1
 exact ⟨h1,by omega,(zrY hw).sublist h3,h3⟩
theorem ztS {w:Wire} (h:okW w=true):(Tw w).length<=4526:=by
 obtain ⟨hw,hF,hP,_⟩:=zht.1 h
 exact zxS hw w.Presses (k:=w.Faults.toNat) (by omega)
def flt (a b:WireFault):Bool:=decide (a.Kind<b.Kind) || (decide (a.Kind=b.Kind)&&(decide (a.A<b.A) || (decide (a.A=b.A)&&decide (a.B<b.B))))
theorem zj8 {a b:WireFault}:flt a b=true↔a.Kind<b.Kind\/(a.Kind=b.Kind/\(a.A<b.A\/(a.A=b.A/\a.B<b.B))):=by simp [flt]
theorem zr0 (a b:Int):cmp_Compare_int a b=some (if a<b then -1 else if a>b then 1 else 0):=by
 unfold cmp_Compare_int cmp_isNaN_int
 simp only [zaf]
 rw [if_neg (by simp),if_neg (by simp)]
 by_cases h:a<b
 ·rw [if_pos (by simpa using h),if_pos h]
 ·rw [if_neg (by simpa using h),if_neg h]
  by_cases h2:a>b
  ·rw [if_pos (by simpa using h2),if_pos h2]
  ·rw [if_neg (by simpa using h2),if_neg h2]
def orV:List Int->Int
 | []=>0
 | x::l=>if x=0 then orV l else x
theorem zxT (l:List Int) (hl:l.length<20000):ziI 20000 l=some (orV l):=by
 unfold ziI
 refine zjJ (F:=fun m i (_:Unit)=>zdQ l m i) (xs:=l) (spec:=fun t _=>some (orV t)) (by omega) hl () (fun m s=>by simp [zdQ,zfn,zgv,orV]) (fun m i x t s hx hi hi' hd hrec=>?_)
 simp only [zdQ,zfn]
 rw [if_pos (by simpa using hi),hx,zaf]
 by_cases h:x=0
 ·rw [if_neg (by simp [h]),hrec ()]
  simp [orV,h]
 ·rw [if_pos (by simp [h])]
  simp [orV,h]
theorem ztk (a b:WireFault):∃r,zhS 20000 a b=some r/\decide (r≥0)=!flt a b:=by
 unfold zhS
 rw [zr0,zaf,zr0,zaf,zr0,zaf,zxT _ (by simp),zaf]
 refine ⟨_,rfl,?_⟩
 rw [Bool.eq_iff_iff]
 simp only [decide_eq_true_eq,Bool.not_eq_true',orV]
 rw [show (flt a b=false)↔¬(flt a b=true) by simp,zj8]
 by_cases h1:a.Kind<b.Kind
 ·simp [h1]
 ·by_cases h2:a.Kind>b.Kind
  ·simp [h1,h2,show ¬a.Kind=b.Kind by omega]
  ·have h3:a.Kind=b.Kind:=by omega
   by_cases h4:a.A<b.A
   ·simp [h3,h4]
   ·by_cases h5:a.A>b.A
    ·simp [h3,h4,h5,show ¬a.A=b.A by omega]
    ·have h6:a.A=b.A:=by omega
     by_cases h7:a.B<b.B
     ·simp [h3,h6,h7]
     ·by_cases h8:a.B>b.B
      ·simp [h3,h6,h7,h8]
      ·have h9:a.B=b.B:=by omega
       simp [h3,h6,h9]
theorem zoU (l:List WireFault) (f:WireFault) (hs:l.length<20000):zb2 20000 l f=some (decide (f∈l)):=by
 have h1:(zbS 20000 l f).map (fun r=>decide (r≥0))=some (decide (f∈l)):=by
  unfold zbS
  refine zjJ (F:=fun q i (_:Unit)=>(zaV l f q i).map (fun r=>decide (r≥0))) (xs:=l) (spec:=fun t _=>some (decide (f∈t))) (by omega) hs () (fun q s=>?_) (fun q i g t s hx hi hi' hd hrec=>?_)
  ·simp [zaV,zbL,zb1]
  ·simp only [zaV,zbL]
   rw [if_pos (by simpa using hi),hx,zaf]
   by_cases hg:g=f
   ·subst hg
    simp
   ·rw [if_neg (by
     obtain ⟨u1,u2,u3⟩:=g
     obtain ⟨v1,v2,v3⟩:=f
     have:¬(v1=u1/\v2=u2/\v3=u3):=fun ⟨a,b,c⟩=>hg (by subst a b c;rfl)
     simpa using this),hrec ()]
    have:f≠g:=fun e=>hg e.symm
    simp [this]
 unfold zb2
 cases h:zbS 20000 l f with
 | none=>rw [h] at h1;cases h1
 | some r=>rw [h] at h1;simpa using h1
def zlz (f:WireFault):List WireFault->Int->Int
 | [],_=>-1
 | g::l,i=>if g=f then i else zlz f l (i+1)
theorem ztl (l:List WireFault) (f:WireFault) (hs:l.length<20000):zel 20000 l f=some (zlz f l 0):=by
 unfold zel
 have key:∀(t:List WireFault) (i m:Nat),i<=l.length->l.drop i=t->t.length<m->zb5 l f m (i:Int)=some (zlz f t i):=by
  intro t
  induction t with
  | nil =>
   intro i m hi hd hm
   obtain ⟨m,rfl⟩:∃k,m=k+1:=⟨m-1,by omega⟩
   have:=List.drop_eq_nil_iff.1 hd
   have:i=l.length:=by omega
   subst this
   simp [zb5,zc8,zeP,zlz]
  | cons g t ih =>
   intro i m hi hd hm
   obtain ⟨m,rfl⟩:∃k,m=k+1:=⟨m-1,by omega⟩
   simp only [List.length_cons] at hm
   have hlt:i<l.length:=by
    rcases Nat.lt_or_ge i l.length with h | h
    ·exact h
    ·rw [List.drop_eq_nil_of_le h] at hd;cases hd
   rw [List.drop_eq_getElem_cons hlt] at hd
   injection hd with h5 h6
   simp only [zb5,zc8,zlz]
   rw [if_pos (by simpa using hlt),zoE hlt,zaf,h5]
   by_cases hg:g=f
   ·rw [if_pos (by subst hg;simp),if_pos hg]
   ·rw [if_neg (by
     obtain ⟨u1,u2,u3⟩:=g
     obtain ⟨v1,v2,v3⟩:=f
     have:¬(u1=v1/\u2=v2/\u3=v3):=fun ⟨a,b,c⟩=>hg (by subst a b c;rfl)
     simpa using this),if_neg hg,zaP (by omega) (by omega),show (i:Int)+1=((i+1:Nat):Int) by omega]
    exact ih (i+1) m (by omega) h6 (by omega)
 exact key l 0 20000 (by omega) rfl hs
theorem zlr (f:WireFault):∀(l:List WireFault) (i:Int),0<=i->(f∈l->i<=zlz f l i)/\(f∉l->zlz f l i=-1)
 | [],i,_=>⟨fun h=>by simp at h,fun _=>rfl⟩
 | g::l,i,hi=>by
  obtain ⟨h1,h2⟩:=zlr f l (i+1) (by omega)
  simp only [zlz]
  by_cases hg:g=f
  ·rw [if_pos hg]
   exact ⟨fun _=>Int.le_refl _,fun h=>absurd (by simp [hg]) h⟩
  ·rw [if_neg hg]
   have hg':f≠g:=fun e=>hg e.symm
   exact ⟨fun h=>by have:=h1 (by simpa [hg'] using h);omega,fun h=>h2 fun h'=>h (by simp [h'])⟩
theorem zr1 {R:WireFault->WireFault->Prop} (hirr:∀a,¬R a a) (hasy:∀a b,R a b->¬R b a) {f g:WireFault}:∀(l:List WireFault) (i:Int),0<=i->l.Pairwise R->f∈l->g∈l->(zlz g l i<zlz f l i↔R g f)
 | [],_,_,_,h,_=>by simp at h
 | x::l,i,hi,hp,hf,hg=>by
  obtain ⟨h1,h2⟩:=List.pairwise_cons.1 hp
  simp only [zlz]
  by_cases hxf:x=f
  ·subst hxf
   rw [if_pos rfl]
   by_cases hxg:x=g
   ·subst hxg
    rw [if_pos rfl]
    exact ⟨fun h=>by omega,fun h=>absurd h (hirr _)⟩
   ·rw [if_neg hxg]
    have hg':g∈l:=by
     rcases List.mem_cons.1 hg with e | h
     ·exact absurd e.symm hxg
     ·exact h
    have:=(zlr g l (i+1) (by omega)).1 hg'
    exact ⟨fun h=>by omega,fun h=>absurd h (hasy _ _ (h1 g hg'))⟩
  ·rw [if_neg hxf]
   have hf':f∈l:=by
    rcases List.mem_cons.1 hf with e | h
    ·exact absurd e.symm hxf
    ·exact h
   by_cases hxg:x=g
   ·subst hxg
    rw [if_pos rfl]
    have:=(zlr f l (i+1) (by omega)).1 hf'
    exact ⟨fun _=>h1 f hf',fun _=>by omega⟩
   ·rw [if_neg hxg]
    have hg':g∈l:=by
     rcases List.mem_cons.1 hg with e | h
     ·exact absurd e.symm hxg
     ·exact h
    exact zr1 hirr hasy l (i+1) (by omega) h2 hf' hg'
set_option maxRecDepth 100000 in
theorem zmb {w:Wire} (h:zcn w):(zfY w).Pairwise fun a b=>flt a b=true:=by
 obtain ⟨L,N,p,f⟩:=w
 obtain ⟨⟨h1,h2⟩,h3,h4⟩:=h
 simp only at h1 h2 h3 h4
 have hL:L=1\/L=2\/L=3\/L=4\/L=5:=by omega
 have hN:N=1\/N=2\/N=3\/N=4\/N=5:=by omega
 rcases hL with rfl | rfl | rfl | rfl | rfl<;>rcases hN with rfl | rfl | rfl | rfl | rfl<;>exact of_decide_eq_true (by kernel_rfl)
theorem zuB {w:Wire} (h:zcn w) {f g:WireFault} (hf:f∈zfY w) (hg:g∈zfY w):zlz g (zfY w) 0<zlz f (zfY w) 0↔flt g f=true :=
 zr1 (R:=fun a b=>flt a b=true) (fun a h=>by rw [zj8] at h;omega) (fun a b h1 h2=>by rw [zj8] at h1 h2;omega) (zfY w) 0 (by omega) (zmb h) hf hg
def zoV (w:Wire):List WireFault->List WireFault->Bool
 | _,[]=>true
 | pre,f::l=>decide (f∈zfY w)&&((match pre.getLast? with | none=>true | some g=>flt g f)&&(!pre.any (clash f)&&zoV w (pre++[f]) l))
def zkH (w:Wire) (l:List WireFault):Bool:=zoV w [] l
theorem nil_or_last {α:Type} (pre:List α):pre=[]\/∃q y,pre=q++[y]:=by
 rcases List.eq_nil_or_concat pre with h | ⟨q,y,h⟩
 ·exact .inl h
 ·exact .inr ⟨q,y,by simpa using h⟩
theorem zpB {w:Wire} (hw:zcn w) (l:List WireFault) (hs:l.length<20000):zdk 20000 (some ⟨w,zfY w⟩) l=some (zkH w l):=by
 have ha:=zmQ hw
 unfold zdk zkH
 have key:∀(t pre:List WireFault) (m:Nat),l=pre++t->t.length<m->za3 20000 (some ⟨w,zfY w⟩) l m (pre.length:Int)=some (zoV w pre t):=by
  intro t
  induction t with
  | nil =>
   intro pre m he hm
   obtain ⟨m,rfl⟩:∃k,m=k+1:=⟨m-1,by omega⟩
   simp [za3,zcR,zdj,he,zoV]
  | cons f t ih =>
   intro pre m he hm
   obtain ⟨m,rfl⟩:∃k,m=k+1:=⟨m-1,by omega⟩
   simp only [List.length_cons] at hm
   have hl:l.length=pre.length+(t.length+1):=by rw [he];simp
   have hcut:cut l 0 (pre.length:Int)=some pre:=by
    unfold cut
    rw [if_pos (by omega),he]
    simp
   have hc:zaN 20000 (fun x0 (_:Unit)=>(zbf x0 f).map fun y=>(y,())) pre ()=some (pre.any (clash f),()) :=
    znK (fun x0=>zbf x0 f) (clash f) pre (fun y _=>by unfold zbf;rw [zmR];rfl) (by omega) (by omega)
   have hrec:=ih (pre++[f]) m (by simp [he]) (by omega)
   rw [show (((pre++[f]).length:Nat):Int)=(pre.length:Int)+1 by simp] at hrec
   simp only [za3,zcR,zaf]
   rw [if_pos (by simp;omega),show idx l (pre.length:Int)=some f by rw [he,zdz],zaf,zoU _ _ (by omega),zaf]
   simp only [zoV,zby]
   rw [zaP (x:=(pre.length:Int)+1) (by omega) (by omega)]
   by_cases hm1:f∈zfY w
   ·rw [if_neg (by simp [hm1])]
    simp only [hm1,decide_true,Bool.true_and]
    rcases nil_or_last pre with rfl | ⟨q,y,rfl⟩
    ·rw [if_neg (by simp),hcut,zaf,hc,zaf]
     simp only [List.any_nil,Bool.false_eq_true,if_false]
     simpa using hrec
    ·have hql:(q++[y]).length=q.length+1:=by simp
     rw [if_pos (by simp<;>omega),zaP (x:=(((q++[y]).length:Nat):Int)-1) (by omega) (by omega),show (((q++[y]).length:Nat):Int)-1=(q.length:Int) by simp,show idx l (q.length:Int)=some y by rw [he,show q++[y]++f::t=q++y::(f::t) by simp,zdz],zaf]
     obtain ⟨r,hr1,hr2⟩:=ztk y f
     rw [hr1,zaf,hr2,hcut,zaf,hc,zaf]
     simp only [List.getLast?_concat]
     cases hfl:flt y f with
     | false=>simp
     | true =>
      simp only [Bool.not_true,Bool.false_eq_true,if_false,Bool.true_and]
      by_cases hcl:(q++[y]).any (clash f)=true
      ·rw [if_pos hcl]
       simp only [hcl,Bool.not_true,Bool.false_and]
      ·rw [if_neg hcl,hrec]
       simp only [show (q++[y]).any (clash f)=false by simpa using hcl,Bool.not_false,Bool.true_and]
   ·rw [if_pos (by simp [hm1])]
    simp [hm1]
 exact key l [] 20000 rfl hs
theorem zr2 {w:Wire} (hw:zcn w) (l:List WireFault) (hs:l.length<20000):zhP 20000 w l=some (zkH w l):=by
 have ha:=zmQ hw
 unfold zhP zkH
 rw [znJ hw,zaf]
 have key:∀(t pre:List WireFault) (m:Nat) (last:Int),l=pre++t->t.length<m->(∀g,g∈pre->g∈zfY w)->(match pre.getLast? with | none=>last=-1 | some g=>last=zlz g (zfY w) 0)->zba 20000 l (zfY w) m last (pre.length:Int)=some (zoV w pre t):=by
  intro t
  induction t with
  | nil =>
   intro pre m last he hm hpre hla
   obtain ⟨m,rfl⟩:∃k,m=k+1:=⟨m-1,by omega⟩
   simp [zba,zeY,zfT,he,zoV]
  | cons f t ih =>
   intro pre m last he hm hpre hla
   obtain ⟨m,rfl⟩:∃k,m=k+1:=⟨m-1,by omega⟩
   simp only [List.length_cons] at hm
   have hl:l.length=pre.length+(t.length+1):=by rw [he];simp
   simp only [zba,zeY]
   rw [if_pos (by simp;omega),show idx l (pre.length:Int)=some f by rw [he,zdz],zaf,ztl _ _ (by omega),zaf]
   simp only [zoV]
   have hin:=zlr f (zfY w) 0 (by omega)
   by_cases hm1:f∈zfY w
   ·simp only [hm1,decide_true,Bool.true_and]
    have hlt:(zlz f (zfY w) 0<=last)↔(match pre.getLast? with | none=>true | some g=>flt g f)=false:=by
     rcases nil_or_last pre with rfl | ⟨q,y,rfl⟩
     ·simp only [List.getLast?_nil] at hla ⊢
      have:=hin.1 hm1
      subst hla
      simp;omega
     ·simp only [List.getLast?_concat] at hla ⊢
      subst hla
      have:=zuB hw hm1 (hpre y (by simp))
      constructor
      ·intro h
       by_cases hx:flt y f=true
       ·have:=this.2 hx;omega
       ·simpa using hx
      ·intro h
       by_cases h2:zlz y (zfY w) 0<zlz f (zfY w) 0
       ·rw [this.1 h2] at h;cases h
       ·omega
    have hfree:=zxP (fun q j (_:Unit)=>zdr (zba 20000 l (zfY w) m) l (pre.length:Int) (zlz f (zfY w) 0) q j) pre.length (fun j _=>if (pre.drop j).any (fun g=>clash g f)=true then some false else zeQ (zba 20000 l (zfY w) m) (pre.length:Int) (zlz f (zfY w) 0)) (by omega) (fun q s=>by
      simp [zdr,zeX]) (fun q j s hj hrec=>by
      simp only [zdr,zeX]
      have hix:idx l (j:Int)=some pre[j]:=by
       rw [zoE (by omega)]
       congr 1
       subst he
       exact List.getElem_append_left hj
      rw [if_pos (by simpa using hj),hix,zaf,show idx l (pre.length:Int)=some f by rw [he,zdz],zaf,zrQ,zaf,List.drop_eq_getElem_cons hj,List.any_cons]
      by_cases hc:clash pre[j] f=true
      ·rw [if_pos hc,if_pos (by simp [hc])]
      ·rw [if_neg hc,hrec ()]
       simp [show clash pre[j] f=false by simpa using hc])
    have h3:=hfree pre.length 0 20000 () (by omega) (by omega) (by omega)
    by_cases hle:zlz f (zfY w) 0<=last
    ·rw [if_pos (by simpa using hle),hlt.1 hle]
     simp
    ·rw [if_neg (by simpa using hle)]
     have hT:(match pre.getLast? with | none=>true | some g=>flt g f)=true:=by
      cases hx:(match pre.getLast? with | none=>true | some g=>flt g f) with
      | true=>rfl
      | false=>exact absurd (hlt.2 hx) hle
     rw [hT,Bool.true_and]
     refine Eq.trans h3 ?_
     rw [List.drop_zero]
     have hany:(pre.any fun g=>clash g f)=pre.any (clash f):=by
      congr 1
      funext g
      exact zj7 g f
     rw [hany]
     by_cases hcl:pre.any (clash f)=true
     ·rw [if_pos hcl]
      simp [hcl]
     ·rw [if_neg hcl]
      unfold zeQ
      have hrec:=ih (pre++[f]) m (zlz f (zfY w) 0) (by simp [he]) (by omega) (fun g hg=>by
       rcases List.mem_append.1 hg with h | h
       ·exact hpre g h
       ·simp at h;subst h;exact hm1) (by simp)
      rw [show (((pre++[f]).length:Nat):Int)=(pre.length:Int)+1 by simp] at hrec
      rw [zaP (by omega) (by omega),hrec]
      simp [show pre.any (clash f)=false by simpa using hcl]
   ·have hle:zlz f (zfY w) 0<=last:=by
     rw [hin.2 hm1]
     rcases nil_or_last pre with rfl | ⟨q,y,rfl⟩
     ·simp at hla;omega
     ·simp only [List.getLast?_concat] at hla
      have:=(zlr y (zfY w) 0 (by omega)).1 (hpre y (by simp))
      omega
    rw [if_pos (by simpa using hle)]
    simp [hm1]
 have:=key l [] 20000 (-1) rfl hs (fun g hg=>by simp at hg) rfl
 exact this
theorem znP {w:Wire} (hw:zcn w):∀(t pre:List WireFault),zmU w pre->zoV w pre t=true->zmU w (pre++t)
 | [],pre,h,_=>by simpa using h
 | f::t,pre,h,hs=>by
  simp only [zoV,Bool.and_eq_true,Bool.not_eq_true',decide_eq_true_eq] at hs
  obtain ⟨h1,_,h3,h4⟩:=hs
  have:=znP hw t (pre++[f]) ⟨fun g hg=>by
   rcases List.mem_append.1 hg with hg | hg
   ·exact h.1 g hg
   ·simp at hg;subst hg;exact (zrP hw).1 h1,(ziB h.2).2 h3⟩ h4
  simpa using this
theorem zjN {w:Wire} (hw:zcn w) {l:List WireFault} (h:zkH w l=true):zmU w l:=by
 have:=znP hw l [] ⟨fun g hg=>by simp at hg,.nil⟩ h
 simpa using this
def znQ (w:Wire) (l:List WireFault) (a b:Int):Int×Int:=if okW w=true then (if zkH w l=true/\okB w a b=true then (zg4 w l a b,0) else (0,1)) else (0,110)
theorem zpC (w:Wire) (l:List WireFault) (hs:l.length<20000) (a b:Int):zfK 20000 w l a b=some (znQ w l a b):=by
 unfold zfK znQ
 rw [Check_eq w (by omega),zaf]
 by_cases h:okW w=true
 ·have hw:=zf7 h
  rw [if_pos h,if_neg (by simp [h]),open_eq hw,zaf,zpB hw l hs,zaf]
  by_cases h1:zkH w l=true
  ·rw [if_neg (by simp [h1]),zl7 hw,zaf]
   unfold zd0
   by_cases h2:okB w a b=true
   ·have hg:=zjN hw h1
    have hin:∀f,f∈l->inF f:=fun f hf=>znL hw (hg.1 f hf)
    have hab:(0<=a/\a<5)/\(0<=b/\b<5):=by
     simp only [okB,Bool.and_eq_true,zbQ] at h2
     unfold zcn at hw
     omega
    rw [if_neg (by simp [h2]),if_pos ⟨h1,h2⟩,zoP l hin hs,zaf,zmT hw l hin hab.1 hab.2,zaf,zlo hw hg hab.1 hab.2]
   ·rw [if_pos (by simp [h2]),if_neg (by simp [h2])]
  ·rw [if_pos (by simp [h1]),if_neg (by simp [h1])]
   simp [zd0]
 ·have h':okW w=false:=by simpa using h
  rw [if_neg h,if_pos (by simp [h'])]
  simp [h']
def zuC (w:Wire) (l:List WireFault):Bool×Int:=if okW w=true then (if zkH w l=true then (zoS w w.Presses l,0) else (false,1)) else (false,110)
theorem zoW (w:Wire) (l:List WireFault) (hs:l.length<20000):zfW 20000 w l=some (zuC w l):=by
 unfold zfW zuC
 rw [Check_eq w (by omega),zaf]
 by_cases h:okW w=true
 ·have hw:=zf7 h
  have hP:=(zht.1 h).2.2.1
  rw [if_pos h,if_neg (by simp [h]),open_eq hw,zaf,zpB hw l hs,zaf]
  by_cases h1:zkH w l=true
  ·rw [if_neg (by simp [h1]),if_pos h1,zlp hw (zjN hw h1) hs (zoT h) (by omega),zaf]
  ·rw [if_pos (by simp [h1]),if_neg h1]
 ·have h':okW w=false:=by simpa using h
  rw [if_neg h,if_pos (by simp [h'])]
  simp [h']
def zxh (w:Wire) (a b:Int):Bool:=inR a 0 (w64 (w.Letters-1))&&inR b 0 (w64 (w.Numbers-1))
theorem ztm (w:Wire) (a b:Int):zdi w a b=some (zxh w a b):=by
 unfold zdi zda zxh
 simp only [within_eq,zaf]
 by_cases h:inR a 0 (w64 (w.Letters-1))=true<;>simp [h]
theorem zuD {w:Wire} (h:zcn w) (a b:Int):zxh w a b=okB w a b:=by
 obtain ⟨h1,h2⟩:=h
 unfold zxh okB
 rw [zaP (by omega) (by omega),zaP (by omega) (by omega)]
theorem ztT {w:Wire} (h:zcn w) {a b:Int} (hb:okB w a b=true):(0<=a/\a<w.Letters)/\(0<=b/\b<w.Numbers):=by
 simp only [okB,Bool.and_eq_true,zbQ] at hb
 omega
def V (w:Wire) (a b:Int):List Int:=(Tw w).map fun l=>zg4 w l a b
theorem zmW {w:Wire} (kd:Int) (m:Int):∀(l:List WireFault) (b:Int),(∀f,f∈l->f.Kind=kd->(0<=f.A/\f.A<m)/\(0<=f.B/\f.B<m))->0<=b/\b<m->0<=other kd l b/\other kd l b<m
 | [],b,_,hb=>hb
 | f::l,b,hl,hb=>by
  have:=zmW (w:=w) kd m l b (fun g hg=>hl g (by simp [hg])) hb
  simp only [other]
  split
  ·rename_i hk
   obtain ⟨h1,h2⟩:=hl f (by simp) hk
   split
   ·exact h2
   ·split
    ·exact h1
    ·exact this
  ·exact this
theorem zmc {w:Wire} (hw:zcn w) {l:List WireFault} (hg:zmU w l) {a b:Int} (hab:(0<=a/\a<w.Letters)/\(0<=b/\b<w.Numbers)):-1<=zg4 w l a b/\zg4 w l a b<w.Letters*w.Numbers:=by
 obtain ⟨hw1,hw2⟩:=hw
 have h3:=zmW (w:=w) 3 w.Letters l a (fun f hf hk=>by have:=hg.1 f hf;unfold okF at this;omega) hab.1
 have h4:=zmW (w:=w) 4 w.Numbers l b (fun f hf hk=>by have:=hg.1 f hf;unfold okF at this;omega) hab.2
 have hm:0<=w.Letters*w.Numbers:=Int.mul_nonneg (by omega) (by omega)
 unfold zg4
 split
 ·omega
 ·have h5:0<=other 3 l a*w.Numbers:=Int.mul_nonneg (by omega) (by omega)
  have h6:(other 3 l a+1)*w.Numbers<=w.Letters*w.Numbers:=Int.mul_le_mul_of_nonneg_right (by omega) (by omega)
  rw [Int.add_mul] at h6
  omega
theorem zuE {w:Wire} (h:okW w=true) {a b:Int} (hab:(0<=a/\a<w.Letters)/\(0<=b/\b<w.Numbers)):∀v,v∈V w a b->-1<=v/\v<w.Letters*w.Numbers:=fun v hv=>by
 obtain ⟨l,hl,rfl⟩:=List.mem_map.1 hv
 exact zmc (zf7 h) (zrZ h hl).1 hab
def zpD (vs:List Int):List (Int×Int):=vs.foldl bump []
theorem znR {κ:Type} [DecidableEq κ]:∀(xs:List κ) (M:List (κ×Int)),(xs.foldl bump M).length<=M.length+xs.length
 | [],M=>by simp
 | x::xs,M=>by
  have h1:∀(M:List (κ×Int)) (k:κ) (v:Int),(zkx M k v).length<=M.length+1:=fun M k v=>by
   induction M with
   | nil=>simp [zkx]
   | cons p M ih =>
    simp only [zkx]
    split
    ·simp
    ·simp only [List.length_cons];omega
  have:=znR xs (bump M x)
  have h2:=h1 M x (zly M x+1)
  simp only [List.foldl_cons,List.length_cons]
  unfold bump at this ⊢
  omega
theorem ztn {w:Wire} (h:okW w=true) {a b:Int} (hab:(0<=a/\a<w.Letters)/\(0<=b/\b<w.Numbers)):zed 20000 (some ⟨w,zfY w⟩) a b=some (zpD (V w a b)):=by
 obtain ⟨hw,hF,hP,_⟩:=zht.1 h
 have hm:=zjK hw
 have hlen:=ztS h
 obtain ⟨hw1,hw2⟩:=hw
 unfold zed
 rw [znO h]
 obtain ⟨h1,_⟩:=zkh (aF:=zcB 20000 (some ⟨w,zfY w⟩) a b) (fun (L:List (List WireFault)) M=>zja okI M/\∀f,0<=zly M f/\zly M f+L.length<100000) (fun M l=>bump M (zg4 w l a b)) (Tw w) [] (fun l L M hl hI=>by
  obtain ⟨hg,h3,_,_⟩:=zrZ h hl
  obtain ⟨hM,hb⟩:=hI
  have hin:∀f,f∈l->inF f:=fun f hf=>znL ⟨hw1,hw2⟩ (hg.1 f hf)
  have hr:=zmc ⟨hw1,hw2⟩ hg hab
  have hk:okI (zg4 w l a b)=true:=zwj (by omega) (by omega)
  simp only [List.length_cons] at hb
  have hb0:=hb (zg4 w l a b)
  refine ⟨?_,hM.set hk _,fun f=>?_⟩
  ·unfold zcB
   rw [zoP l hin (by omega),zaf,zmT ⟨hw1,hw2⟩ l hin (by omega) (by omega),zaf,zlo ⟨hw1,hw2⟩ hg (by omega) (by omega)]
   unfold zsF zo8
   rw [if_pos (hM.mok hk),zaf,if_pos (hM.mok hk),zaf,zaP (by omega) (by omega)]
   rfl
  ·unfold bump
   rw [zlq]
   have:=hb f
   split<;>omega) ⟨zja.nil _,fun f=>by simp only [zly];omega⟩
 rw [h1,Option.map_some,zaf]
 unfold zpD V
 rw [List.foldl_map]
theorem zr3 (vs:List Int):(∀v,zly (zpD vs) v=(vs.count v:Nat))/\((zpD vs).map (·.1)).Nodup/\∀v,v∈(zpD vs).map (·.1)↔v∈vs:=by
 refine ⟨fun v=>?_,?_,fun v=>?_⟩
 ·unfold zpD;rw [zl9];simp [zly]
 ·exact (zja.bumps (ok:=fun _=>true) vs (zja.nil _) fun _ _=>rfl).2
 ·unfold zpD;rw [zma];simp
def zki (vs:List Int):List Int:=zi3 ((zpD vs).map fun p=>p.1)
def zpE (w:Wire) (a b:Int):List Int×Int:=if okW w=true then (if okB w a b=true then (if Tw w=[] then ([],3) else (zki (V w a b),0)) else ([],1)) else ([],110)
theorem zxU (w:Wire) (a b:Int):(V w a b).length=(Tw w).length:=by simp [V]
theorem zto (w:Wire) (a b:Int):zhT 20000 w a b=some (zpE w a b):=by
 unfold zhT zpE
 rw [ztm,zaf,zwi,zaf]
 by_cases h:okW w=true
 ·rw [zuD (zf7 h)]
  by_cases hb:okB w a b=true
  ·simp only [if_pos h,if_pos hb]
   by_cases hT:Tw w=[]
   ·simp [hT]
   ·simp only [if_neg hT]
    have hl:(zpD (V w a b)).length<=1048576:=by
     have h1:=znR (V w a b) []
     have h2:=ztS h
     rw [zxU] at h1
     unfold zpD
     simp only [List.length_nil] at h1
     omega
    rw [if_neg (by simp),ztn h (ztT (zf7 h) hb),zaf,if_pos (by simpa using hl)]
    rfl
  ·simp [h,hb]
 ·simp [h]
def pos (m:Nat) (vs:List Int):List Int:=((List.range m).filter fun i:Nat=>decide (0<vs.count ((i:Int)-1))).map fun i:Nat=>(i:Int)-1
theorem zwk {m:Nat} {vs:List Int} (hv:∀v,v∈vs->-1<=v/\v+1<m):pos m vs=zki vs:=by
 obtain ⟨h1,h2,h3⟩:=zr3 vs
 unfold zki
 have hs:(pos m vs).Pairwise (·<·):=by
  unfold pos
  rw [List.pairwise_map]
  refine List.Pairwise.imp (fun h=>by omega) ((List.pairwise_lt_range (n:=m)).filter _)
 refine zld (.trans ?_ (zgA _).symm) (hs.imp fun h=>Int.le_of_lt h) (zf2 _)
 refine (List.perm_ext_iff_of_nodup (hs.imp fun h=>by omega) h2).2 fun v=>?_
 rw [show (zpD vs).map (fun p=>p.1)=(zpD vs).map (·.1) from rfl,h3]
 unfold pos
 rw [List.mem_map]
 constructor
 ·rintro ⟨i,hi,rfl⟩
  have:=(List.mem_filter.1 hi).2
  exact List.count_pos_iff.1 (by simpa using this)
 ·intro hvm
  have hr:=hv v hvm
  refine ⟨(v+1).toNat,List.mem_filter.2 ⟨List.mem_range.2 (by omega),?_⟩,by omega⟩
  rw [show (((v+1).toNat:Nat):Int)-1=v by omega]
  simpa using List.count_pos_iff.2 hvm
theorem zxV (l:List Int) (x:Int) (hl:l.length<20000):zkD 20000 l x=some (decide (x∈l)):=by
 unfold zkD
 refine zjJ (F:=fun m i (_:Unit)=>ze3 l x m i) (xs:=l) (spec:=fun t _=>some (decide (x∈t))) (by omega) hl () (fun m s=>by simp [ze3,zgy,zhU]) (fun m i y t s hx hi hi' hd hrec=>?_)
 simp only [ze3,zgy]
 rw [if_pos (by simpa using hi),hx,zaf]
 by_cases h:y=x
 ·rw [if_pos (by simpa using h)]
  simp [h]
 ·rw [if_neg (by simpa using h),hrec ()]
  have:x≠y:=fun e=>h e.symm
  simp [this]
theorem zr4 {vs:List Int} {v:Int}:v∈zki vs↔v∈vs:=by
 unfold zki
 rw [(zgA _).mem_iff,show (zpD vs).map (fun p=>p.1)=(zpD vs).map (·.1) from rfl,(zr3 vs).2.2]
theorem zr5 {w:Wire} (h:okW w=true) {a b:Int} (hab:(0<=a/\a<w.Letters)/\(0<=b/\b<w.Numbers)):(zki (V w a b)).length<=26:=by
 have hm:=zjK (zf7 h)
 rw [←zwk (m:=(w.Letters*w.Numbers+1).toNat) fun v hv=>by have:=zuE h hab v hv;omega]
 unfold pos
 rw [List.length_map]
 have:=List.length_filter_le (fun i:Nat=>decide (0<(V w a b).count ((i:Int)-1))) (List.range (w.Letters*w.Numbers+1).toNat)
 rw [List.length_range] at this
 omega
theorem zr6 {a b c:WireFault} (h1:flt a b=true) (h2:flt b c=true):flt a c=true:=by
 rw [zj8] at *
 omega
theorem zls (w:Wire):∀(t pre:List WireFault),pre.Pairwise (fun a b=>flt a b=true)->(∀f,f∈pre->f∈zfY w)->zoV w pre t=true->(pre++t).Pairwise (fun a b=>flt a b=true)/\∀f,f∈pre++t->f∈zfY w
 | [],pre,h,hm,_=>by simpa using ⟨h,hm⟩
 | f::t,pre,h,hm,hs=>by
  simp only [zoV,Bool.and_eq_true,decide_eq_true_eq] at hs
  obtain ⟨h1,h2,_,h4⟩:=hs
  have hp:(pre++[f]).Pairwise fun a b=>flt a b=true:=by
   refine List.pairwise_append.2 ⟨h,List.pairwise_singleton _ _,fun g hg y hy=>?_⟩
   simp at hy
   subst hy
   rcases nil_or_last pre with rfl | ⟨q,z,rfl⟩
   ·simp at hg
   ·simp only [List.getLast?_concat] at h2
    rcases List.mem_append.1 hg with hg | hg
    ·exact zr6 ((List.pairwise_append.1 h).2.2 g hg z (by simp)) h2
    ·simp at hg
     subst hg
     exact h2
  have:=zls w t (pre++[f]) hp (fun g hg=>by
   rcases List.mem_append.1 hg with hg | hg
   ·exact hm g hg
   ·simp at hg;subst hg;exact h1) h4
  simpa using this
theorem zj9 {R:WireFault->WireFault->Prop} (hirr:∀a,¬R a a) (hasy:∀a b,R a b->¬R b a):∀(all l:List WireFault),all.Pairwise R->l.Pairwise R->(∀f,f∈l->f∈all)->l.Sublist all
 | [],l,_,_,hm=>by
  have:l=[]:=List.eq_nil_iff_forall_not_mem.2 fun f hf=>by simpa using hm f hf
  rw [this]
  exact .slnil
 | a::all,[],_,_,_=>List.nil_sublist _
 | a::all,x::l,ha,hl,hm=>by
  obtain ⟨ha1,ha2⟩:=List.pairwise_cons.1 ha
  obtain ⟨hl1,hl2⟩:=List.pairwise_cons.1 hl
  by_cases h:x=a
  ·subst h
   refine List.Sublist.cons_cons _ (zj9 hirr hasy all l ha2 hl2 fun f hf=>?_)
   rcases List.mem_cons.1 (hm f (by simp [hf])) with e | h
   ·subst e
    exact absurd (hl1 _ hf) (hirr _)
   ·exact h
  ·have hx:x∈all:=by
    rcases List.mem_cons.1 (hm x (by simp)) with e | h'
    ·exact absurd e h
    ·exact h'
   refine List.Sublist.cons _ (zj9 hirr hasy all (x::l) ha2 hl fun f hf=>?_)
   rcases List.mem_cons.1 (hm f hf) with e | h'
   ·subst e
    rcases List.mem_cons.1 hf with e | hf
    ·exact absurd e.symm h
    ·exact absurd (hl1 _ hf) (hasy _ _ (ha1 x hx))
   ·exact h'
theorem ztp {w:Wire} (hw:zcn w) {l:List WireFault} (h:zkH w l=true):l.Sublist (zfY w):=by
 obtain ⟨h1,h2⟩:=zls w l [] .nil (fun f hf=>by simp at hf) h
 simp only [List.nil_append] at h1 h2
 exact zj9 (fun a h=>by rw [zj8] at h;omega) (fun a b h1 h2=>by rw [zj8] at h1 h2;omega) (zfY w) l (zmb hw) h1 h2
namespace Pu
theorem Copy_eq (p:Pulse) (hs:p.Times.length<1048576):ziH p=some p:=by
 unfold ziH
 rw [zif (by simp<;>omega)]
 rfl
theorem within_eq (a b c:Int):zcr a b c=some (inR a b c):=by
 unfold zcr zdT inR
 by_cases h:b<=a<;>simp [h]
theorem Within_eq (a b c:Int):zdL a b c=some (inR a b c):=by
 unfold zdL zdA inR
 by_cases h:b<=a<;>simp [h]
theorem rwithin_eq (a b c:Int):zcw a b c=some (inR a b c):=by simp [zcw,Within_eq]
def rise:Option Int->List Int->Bool
 | _,[]=>true
 | prev,x::l=>inR x 0 99999&&(match prev with | none=>true | some y=>decide (y<x))&&rise (some x) l
theorem nil_or_last (pre:List Int):pre=[]\/∃q y,pre=q++[y]:=by
 rcases List.eq_nil_or_concat pre with h | ⟨q,y,h⟩
 ·exact .inl h
 ·exact .inr ⟨q,y,by simpa using h⟩
theorem zpF (q:List Int) (y:Int) (l:List Int) (h:(q++[y]++l).length<1048576):idx (q++[y]++l) (w64 (((q++[y]).length:Int)-1))=some y:=by
 simp at h
 rw [zaP (by simp<;>omega) (by simp<;>omega),show (((q++[y]).length:Int)-1)=(q.length:Int) by simp,show q++[y]++l=q++y::l by simp,zdz]
theorem zoX (p:Pulse):∀(l pre:List Int) (m:Nat),p.Times=pre++l->p.Times.length<1048576->l.length<m ->
  zb7 p m (pre.length:Int)=some (cond (rise pre.getLast? l) 0 130):=by
 intro l
 induction l with
 | nil =>
  intro pre m he hs hm
  obtain ⟨m,rfl⟩:∃k,m=k+1:=⟨m-1,by omega⟩
  simp [zb7,zez,zfi,he,rise]
 | cons x l ih =>
  intro pre m he hs hm
  simp at hm
  have hl:p.Times.length=pre.length+(l.length+1):=by simp [he]
  obtain ⟨m,rfl⟩:∃k,m=k+1:=⟨m-1,by omega⟩
  have h:=ih (pre++[x]) m (by simp [he]) hs (by omega)
  rw [show (((pre++[x]).length:Nat):Int)=(pre.length:Int)+1 by simp,List.getLast?_concat] at h
  simp only [zb7,zez]
  rw [if_pos (by simp<;>omega),show idx p.Times (pre.length:Int)=some x by rw [he,zdz]]
  simp only [Option.bind_some,within_eq,rise]
  by_cases hr:inR x 0 99999=true
  ·rw [if_neg (by simp [hr])]
   rcases nil_or_last pre with rfl | ⟨q,y,rfl⟩
   ·rw [if_neg (by simp)]
    simp only [zcv]
    rw [if_neg (by simp),zaP (by simp) (by simp),h]
    simp [hr]
   ·rw [if_pos (by simp<;>omega),show idx p.Times (w64 (((q++[y]).length:Int)-1))=some y by rw [he];exact zpF q y _ (by rw [←he];exact hs)]
    simp only [Option.bind_some,zcv,List.getLast?_concat]
    by_cases hb:x<=y
    ·rw [if_pos (by simpa using hb)]
     simp [hr,show ¬y<x by omega]
    ·rw [if_neg (by simpa using hb),zaP (by omega) (by omega),h]
     simp [hr,show y<x by omega]
  ·have hr':inR x 0 99999=false:=by simpa using hr
   rw [if_pos (by simp [hr'])]
   simp [zcv,hr']
theorem znS:∀(l pre:List Int) (m:Nat),(pre++l).length<1048576->l.length<m ->
  zca (pre++l) 0 99999 m (pre.length:Int)=some (rise pre.getLast? l):=by
 intro l
 induction l with
 | nil =>
  intro pre m hs hm
  obtain ⟨m,rfl⟩:∃k,m=k+1:=⟨m-1,by omega⟩
  simp [zca,zeF,zfk,rise]
 | cons x l ih =>
  intro pre m hs hm
  obtain ⟨m,rfl⟩:∃k,m=k+1:=⟨m-1,by omega⟩
  have h:=ih (pre++[x]) m (by simpa using hs) (by simp at hm;omega)
  rw [show (((pre++[x]).length:Nat):Int)=(pre.length:Int)+1 by simp,List.getLast?_concat,show pre++[x]++l=pre++x::l by simp] at h
  simp at hs hm
  simp only [zca,zeF]
  rw [if_pos (by simp<;>omega),zdz]
  simp only [Option.bind_some,Within_eq,rise]
  by_cases hr:inR x 0 99999=true
  ·rw [if_neg (by simp [hr])]
   rcases nil_or_last pre with rfl | ⟨q,y,rfl⟩
   ·rw [if_neg (by simp)]
    simp only [zcx]
    rw [if_neg (by simp),zaP (by simp) (by simp),h]
    simp [hr]
   ·rw [if_pos (by simp<;>omega),zpF q y (x::l) (by simp at hs ⊢;omega)]
    simp only [Option.bind_some,zcx,List.getLast?_concat]
    by_cases hb:x<=y
    ·rw [if_pos (by simpa using hb)]
     simp [hr,show ¬y<x by omega]
    ·rw [if_neg (by simpa using hb),zaP (by omega) (by omega),h]
     simp [hr,show y<x by omega]
  ·have hr':inR x 0 99999=false:=by simpa using hr
   rw [if_pos (by simp [hr'])]
   simp [zcx,hr']
def valid (p:Pulse):Bool:=inR p.Letters 1 5&&inR p.Numbers 1 5&&inR p.Pitch 1 99&&inR p.Slack 0 (p.Pitch-1)&&inR p.Gap (p.Pitch+p.Slack+1) (p.Pause-1)&&inR p.Pause 0 999&&inR p.Sparks 0 3&&decide (p.Times.length<=24)&&rise none p.Times
theorem zwl {a b:Bool} {x y:Option Int}:(if (!a)=true then x else y)=cond a y x:=by cases a<;>rfl
def zoY (p:Pulse):List An115:=[⟨p.Letters,1,5⟩,⟨p.Numbers,1,5⟩,⟨p.Pitch,1,99⟩,⟨p.Slack,0,w64 (p.Pitch-1)⟩,⟨p.Gap,w64 ((w64 (p.Pitch+p.Slack))+1),w64 (p.Pause-1)⟩,⟨p.Pause,0,999⟩,⟨p.Sparks,0,3⟩,⟨(p.Times.length:Int),0,24⟩]
theorem ze7 (n:Nat) (p:Pulse) (k v:Nat) (x:An115) (hx:(zoY p)[v]?=some x) (hv:v<8) :
  zbx n p (k+1) (v:Int)=cond (inR x.n x.low x.high) (zbx n p k ((v+1:Nat):Int)) (some 130):=by
 simp only [zbx,zeA]
 rw [if_pos (by simp;omega)]
 have:idx (zoY p) (v:Int)=some x:=by unfold idx;rw [if_pos (by omega),Int.toNat_natCast,hx]
 have h2:=this
 unfold zoY at h2
 rw [h2]
 simp only [Option.bind_some,within_eq,zwl]
 rw [zaP (by omega) (by omega)]
 cases inR x.n x.low x.high<;>simp
theorem Check_eq {n:Nat} (p:Pulse) (hs:p.Times.length<1048576) (hn:p.Times.length<n) (hn2:10<=n):zf3 n p=some (cond (valid p) 0 130):=by
 obtain ⟨k,hk⟩:∃k,n=k+9:=⟨n-9,by omega⟩
 have ht:=zoX p p.Times [] n rfl hs hn
 simp only [List.getLast?_nil] at ht
 unfold zf3
 have h0:zbx n p n 0=zbx n p (k+8+1) ((0:Nat):Int):=by rw [hk];rfl
 rw [h0,ze7 n p (k+8) 0 _ rfl (by omega),ze7 n p (k+7) 1 _ rfl (by omega),ze7 n p (k+6) 2 _ rfl (by omega),ze7 n p (k+5) 3 _ rfl (by omega),
  ze7 n p (k+4) 4 _ rfl (by omega),ze7 n p (k+3) 5 _ rfl (by omega),ze7 n p (k+2) 6 _ rfl (by omega),ze7 n p (k+1) 7 _ rfl (by omega)]
 have h8:zbx n p (k+1) ((7+1:Nat):Int)=some (cond (rise none p.Times) 0 130):=by
  simp only [zbx,zeA]
  rw [if_neg (by decide)]
  exact ht
 rw [h8]
 simp only [valid]
 cases h1:inR p.Letters 1 5
 ·simp
 cases h2:inR p.Numbers 1 5
 ·simp
 cases h3:inR p.Pitch 1 99
 ·simp
 have b3:=zbQ.1 h3
 rw [zaP (x:=p.Pitch-1) (by omega) (by omega)]
 cases h4:inR p.Slack 0 (p.Pitch-1)
 ·simp
 have b4:=zbQ.1 h4
 rw [zaP (x:=p.Pitch+p.Slack) (by omega) (by omega),zaP (x:=p.Pitch+p.Slack+1) (by omega) (by omega)]
 cases h6:inR p.Pause 0 999
 ·cases inR p.Gap (p.Pitch+p.Slack+1) (w64 (p.Pause-1))<;>simp
 have b6:=zbQ.1 h6
 rw [zaP (x:=p.Pause-1) (by omega) (by omega)]
 have h7:inR (p.Times.length:Int) 0 24=decide (p.Times.length<=24):=by
  unfold inR
  by_cases h:p.Times.length<=24
  ·simp [h];omega
  ·simp [h];omega
 simp only [h7]
 cases inR p.Gap (p.Pitch+p.Slack+1) (p.Pause-1)<;>cases inR p.Sparks 0 3<;>cases decide (p.Times.length<=24)<;>simp
theorem rCheck_eq {n:Nat} (p:Pulse) (hs:p.Times.length<1048576) (hn:p.Times.length<n):zgR n p=some (cond (valid p) 0 130):=by
 have ht:=znS p.Times [] n (by simpa using hs) hn
 simp only [List.getLast?_nil,List.nil_append,List.length_nil] at ht
 replace ht:zii n p.Times 0 99999=some (rise none p.Times):=ht
 unfold zgR
 simp only [rwithin_eq,ht,Option.bind_some,zbz,valid]
 cases h1:inR p.Letters 1 5
 ·simp
 cases h2:inR p.Numbers 1 5
 ·simp
 cases h3:inR p.Pitch 1 99
 ·simp
 have b3:=zbQ.1 h3
 rw [zaP (x:=p.Pitch-1) (by omega) (by omega)]
 cases h4:inR p.Slack 0 (p.Pitch-1)
 ·simp
 have b4:=zbQ.1 h4
 rw [zaP (x:=p.Pitch+p.Slack) (by omega) (by omega),zaP (x:=p.Pitch+p.Slack+1) (by omega) (by omega)]
 cases h6:inR p.Pause 1 999
 ·cases h5:inR p.Gap (p.Pitch+p.Slack+1) (p.Pause-1)
  ·simp
  ·have b5:=zbQ.1 h5
   have:inR p.Pause 0 999=false:=by
    cases hh:inR p.Pause 0 999 with
    | false=>rfl
    | true =>
     have b:=zbQ.1 hh
     have:inR p.Pause 1 999=true:=zbQ.2 ⟨by omega,b.2⟩
     rw [this] at h6
     cases h6
   simp [this]
 have b6:=zbQ.1 h6
 have h6':inR p.Pause 0 999=true:=zbQ.2 ⟨by omega,b6.2⟩
 rw [zaP (x:=p.Pause-1) (by omega) (by omega),h6']
 by_cases hl:p.Times.length<=24
 ·rw [if_neg (show ¬decide ((p.Times.length:Int)>24)=true by simp;omega)]
  cases inR p.Gap (p.Pitch+p.Slack+1) (p.Pause-1)<;>cases inR p.Sparks 0 3<;>cases rise none p.Times<;>simp [hl]
 ·rw [if_pos (show decide ((p.Times.length:Int)>24)=true by simp;omega)]
  cases inR p.Gap (p.Pitch+p.Slack+1) (p.Pause-1)<;>cases inR p.Sparks 0 3<;>simp [hl]
theorem valid_iff {p:Pulse} (h:valid p=true):(1<=p.Letters/\p.Letters<=5)/\(1<=p.Numbers/\p.Numbers<=5)/\(1<=p.Pitch/\p.Pitch<=99)/\(0<=p.Slack/\p.Slack<=p.Pitch-1)/\(p.Pitch+p.Slack+1<=p.Gap/\p.Gap<=p.Pause-1) /\
  (0<=p.Pause/\p.Pause<=999)/\(0<=p.Sparks/\p.Sparks<=3)/\p.Times.length<=24/\rise none p.Times=true:=by
 simp only [valid,Bool.and_eq_true,zbQ,decide_eq_true_eq] at h
 obtain ⟨⟨⟨⟨⟨⟨⟨⟨h1,h2⟩,h3⟩,h4⟩,h5⟩,h6⟩,h7⟩,h8⟩,h9⟩:=h
 exact ⟨h1,h2,h3,h4,h5,h6,h7,h8,h9⟩
def isSel (p:Pulse) (x:Int):Bool:=inR x 0 (w64 (w64 (p.Letters*p.Numbers)-1))
theorem zr7 (aF:Int->Unit->Option (Bool×Unit)) (f:Int->Bool) (hf:∀x,aF x ()=some (f x,())):∀(l pre:List Int) (m:Nat),(pre++l).length<1048576->l.length<m ->
  ∃r,zbh (pre++l) aF m (pre.length:Int) ()=some (r,())/\decide (r≥0)=l.any f:=by
 intro l
 induction l with
 | nil =>
  intro pre m hs hm
  obtain ⟨m,rfl⟩:∃k,m=k+1:=⟨m-1,by omega⟩
  exact ⟨-1,by simp [zbh,zcs,zcP],by simp⟩
 | cons c l ih =>
  intro pre m hs hm
  obtain ⟨m,rfl⟩:∃k,m=k+1:=⟨m-1,by omega⟩
  obtain ⟨r,h1,h2⟩:=ih (pre++[c]) m (by simpa using hs) (by simp at hm;omega)
  rw [show (((pre++[c]).length:Nat):Int)=(pre.length:Int)+1 by simp,show pre++[c]++l=pre++c::l by simp] at h1
  simp at hs hm
  simp only [zbh,zcs]
  rw [if_pos (by simp<;>omega),zdz]
  simp only [Option.bind_some,hf]
  by_cases hb:f c=true
  ·exact ⟨pre.length,by simp [hb],by simp [hb]⟩
  ·refine ⟨r,?_,by rw [h2];simp [hb]⟩
   rw [zaP (by omega) (by omega),if_neg hb]
   exact h1
theorem znT {n:Nat} (aF:Int->Unit->Option (Bool×Unit)) (f:Int->Bool) (hf:∀x,aF x ()=some (f x,())) (l:List Int) (hs:l.length<1048576) (hn:l.length<n) :
  zcQ n aF l ()=some (l.any f,()):=by
 obtain ⟨r,h1,h2⟩:=zr7 aF f hf l [] n (by simpa using hs) hn
 have h1:zeM n aF l ()=some (r,()):=h1
 simp only [zcQ,h1,Option.bind_some,h2]
theorem IsList_eq {n:Nat} (p:Pulse) (a1:List Int) (hs:a1.length<1048576) (hn:a1.length<n):zij n p a1=some (a1.all (isSel p)&&decide (a1.length<=24)):=by
 have key:∀(l pre:List Int) (m:Nat),a1=pre++l->l.length<m->zcY p a1 m (pre.length:Int)=some (l.all (isSel p)&&decide (a1.length<=24)):=by
  intro l
  induction l with
  | nil =>
   intro pre m he hm
   obtain ⟨m,rfl⟩:∃k,m=k+1:=⟨m-1,by omega⟩
   simp only [zcY,zeG,zfl]
   rw [if_neg (by simp [he])]
   simp<;>omega
  | cons x l ih =>
   intro pre m he hm
   simp at hm
   have hl:a1.length=pre.length+(l.length+1):=by simp [he]
   obtain ⟨m,rfl⟩:∃k,m=k+1:=⟨m-1,by omega⟩
   have h:=ih (pre++[x]) m (by simp [he]) (by omega)
   rw [show (((pre++[x]).length:Nat):Int)=(pre.length:Int)+1 by simp] at h
   simp only [zcY,zeG]
   rw [if_pos (by simp<;>omega),show idx a1 (pre.length:Int)=some x by rw [he,zdz],zaP (by omega) (by omega),h]
   simp only [Option.bind_some,zfH,rwithin_eq,List.all_cons]
   show (if (!isSel p x)=true then _ else _)=_
   cases isSel p x<;>simp
 exact key a1 [] n rfl hn
def zlJ (pitch:Int):Nat->Int->List Int->Int->List Int×Int
 | 0,_,out,t=>(out,t)
 | k+1,d,out,t=>zlJ pitch k pitch (out++[if out=[] then t else t+d]) (if out=[] then t else t+d)
theorem zmX (pitch:Int):∀(k:Nat) (d:Int) (out:List Int) (t:Int),(zlJ pitch k d out t).1.length=out.length+k
 | 0,_,_,_=>rfl
 | k+1,d,out,t=>by simp only [zlJ,zmX pitch k];simp;omega
theorem zlt (pitch:Int) (hp:0<=pitch/\pitch<=999):∀(k:Nat) (d:Int) (out:List Int) (t:Int),0<=d->d<=999->t<=(zlJ pitch k d out t).2/\(zlJ pitch k d out t).2<=t+999*k
 | 0,_,_,_,_,_=>by simp [zlJ]
 | k+1,d,out,t,h1,h2=>by
  have hb:t<=(if out=[] then t else t+d)/\(if out=[] then t else t+d)<=t+d:=by split<;>omega
  have h:=zlt pitch hp k pitch (out++[if out=[] then t else t+d]) (if out=[] then t else t+d) hp.1 hp.2
  simp only [zlJ]
  generalize (if out=[] then t else t+d)=T at hb h ⊢
  push_cast
  omega
theorem zx3 (p:Pulse) (hp:0<=p.Pitch/\p.Pitch<=999) (a1:Int):∀(k m i:Nat) (d:Int) (out:List Int) (t:Int),a1=i+k->k<m->i+k<1000->out.length+k<100000->0<=d->d<=999->0<=t->t+999*k<1000000000 ->
  zbb a1 p m d (i:Int) out t=some ((),zlJ p.Pitch k d out t):=by
 intro k
 induction k with
 | zero =>
  intro m i d out t ha hm hi ho h1 h2 h3 h4
  obtain ⟨m,rfl⟩:∃k,m=k+1:=⟨m-1,by omega⟩
  simp only [zbb,zdw,zlJ]
  rw [if_neg (by simp;omega)]
 | succ k ih =>
  intro m i d out t ha hm hi ho h1 h2 h3 h4
  obtain ⟨m,rfl⟩:∃k,m=k+1:=⟨m-1,by omega⟩
  have hw:w64 (t+d)=t+d:=zaP (by omega) (by omega)
  simp only [zbb,zdw,zdg,zlJ]
  rw [if_pos (by simp;omega),hw]
  have key:∀t',0<=t'->t'<=t+d->(Option.bind (app out [t']) fun l9=>zbb a1 p m p.Pitch (w64 ((i:Int)+1)) l9 t')=some ((),zlJ p.Pitch k p.Pitch (out++[t']) t'):=fun t' g1 g2=>by
   rw [zif (by simp;omega)]
   simp only [Option.bind_some]
   rw [zaP (by omega) (by omega)]
   have h:=ih m (i+1) p.Pitch (out++[t']) t' (by push_cast;push_cast at ha;omega) (by omega) (by omega) (by simp;omega) hp.1 hp.2 g1 (by push_cast at h4;omega)
   push_cast at h
   exact h
  by_cases ho:out=[]
  ·rw [if_neg (by simp [ho])]
   simp only [ho,if_true]
   have h:=key t h3 (by omega)
   rw [ho] at h
   exact h
  ·rw [if_pos (by have:=List.length_pos_iff.2 ho;simp;omega)]
   simp only [ho,if_false]
   exact key (t+d) (by omega) (by omega)
def wr (p:Pulse):List Int->List Int->Int->List Int×Int
 | [],out,t=>(out,t)
 | x::l,out,t =>
  let s1:=zlJ p.Pitch (x / p.Numbers+1).toNat p.Pause out t
  let s2:=zlJ p.Pitch (x % p.Numbers+1).toNat p.Gap s1.1 s1.2
  wr p l s2.1 s2.2
theorem ziL {p:Pulse} (hv:valid p=true) {x:Int} (hx:isSel p x=true):0<=x/\x<p.Letters*p.Numbers/\x<25/\(0<=x / p.Numbers/\x / p.Numbers<5)/\(0<=x % p.Numbers/\x % p.Numbers<5):=by
 obtain ⟨h1,h2,_⟩:=valid_iff hv
 have hm:1<=p.Letters*p.Numbers/\p.Letters*p.Numbers<=25:=by
  constructor
  ·have:=Int.mul_le_mul h1.1 h2.1 (by omega) (by omega);simpa using this
  ·have:=Int.mul_le_mul h1.2 h2.2 (by omega) (by omega);simpa using this
 simp only [isSel] at hx
 rw [zaP (x:=p.Letters*p.Numbers) (by omega) (by omega),zaP (by omega) (by omega),zbQ] at hx
 have hlt:x<p.Letters*p.Numbers:=by omega
 refine ⟨hx.1,hlt,by omega,⟨Int.ediv_nonneg hx.1 (by omega),?_⟩,⟨Int.emod_nonneg _ (by omega),?_⟩⟩
 ·have:=Int.ediv_lt_of_lt_mul (by omega) hlt
  omega
 ·have:=Int.emod_lt_of_pos x (show 0<p.Numbers by omega)
  omega
theorem ztq {n:Nat} (p:Pulse) (hv:valid p=true) (hn:100<=n) (a1:List Int) (ha:a1.length<=1000) (hsel:∀x,x∈a1->isSel p x=true):∀(l pre:List Int) (m:Nat) (out:List Int) (t:Int),a1=pre++l->l.length<m ->
  out.length<=20*pre.length->0<=t->t<=100000+20000*pre.length->zcy n p a1 m (pre.length:Int) out t=zeq (wr p l out t).1 (wr p l out t).2:=by
 obtain ⟨v1,v2,v3,v4,v5,v6,_⟩:=valid_iff hv
 intro l
 induction l with
 | nil =>
  intro pre m out t he hm ho h3 h4
  obtain ⟨m,rfl⟩:∃k,m=k+1:=⟨m-1,by omega⟩
  simp only [zcy,zeH,wr]
  rw [if_neg (by simp [he])]
 | cons x l ih =>
  intro pre m out t he hm ho h3 h4
  simp at hm
  have hl:a1.length=pre.length+(l.length+1):=by simp [he]
  obtain ⟨m,rfl⟩:∃k,m=k+1:=⟨m-1,by omega⟩
  obtain ⟨b1,b2,b3,b4,b5⟩:=ziL hv (hsel x (by simp [he]))
  simp only [zcy,zeH,wr]
  rw [if_pos (by simp<;>omega),show idx a1 (pre.length:Int)=some x by rw [he,zdz]]
  simp only [Option.bind_some]
  rw [zru b1 (by omega) (by omega)]
  simp only [Option.bind_some]
  rw [zrv b1 (by omega),zaP (x:=x / p.Numbers+1) (by omega) (by omega)]
  have e1:zeo n p.Pause (x / p.Numbers+1) p (out,t)=some ((),zlJ p.Pitch (x / p.Numbers+1).toNat p.Pause out t) :=
   zx3 p (by omega) _ (x / p.Numbers+1).toNat n 0 p.Pause out t (by simp;omega) (by omega) (by omega) (by omega) (by omega) (by omega) h3 (by omega)
  rw [e1]
  simp only [Option.bind_some]
  have t1:=zlt p.Pitch (by omega) (x / p.Numbers+1).toNat p.Pause out t (by omega) (by omega)
  have l1:=zmX p.Pitch (x / p.Numbers+1).toNat p.Pause out t
  generalize zlJ p.Pitch (x / p.Numbers+1).toNat p.Pause out t=s1 at t1 l1 ⊢
  rw [zaP (x:=x % p.Numbers+1) (by omega) (by omega)]
  have e2:zeo n p.Gap (x % p.Numbers+1) p (s1.1,s1.2)=some ((),zlJ p.Pitch (x % p.Numbers+1).toNat p.Gap s1.1 s1.2) :=
   zx3 p (by omega) _ (x % p.Numbers+1).toNat n 0 p.Gap s1.1 s1.2 (by simp;omega) (by omega) (by omega) (by omega) (by omega) (by omega) (by omega) (by omega)
  rw [e2]
  simp only [Option.bind_some]
  have t2:=zlt p.Pitch (by omega) (x % p.Numbers+1).toNat p.Gap s1.1 s1.2 (by omega) (by omega)
  have l2:=zmX p.Pitch (x % p.Numbers+1).toNat p.Gap s1.1 s1.2
  generalize zlJ p.Pitch (x % p.Numbers+1).toNat p.Gap s1.1 s1.2=s2 at t2 l2 ⊢
  rw [zaP (by omega) (by omega)]
  have h:=ih (pre++[x]) m s2.1 s2.2 (by simp [he]) (by omega) (by simp;omega) (by omega) (by simp;omega)
  rw [show (((pre++[x]).length:Nat):Int)=(pre.length:Int)+1 by simp] at h
  exact h
theorem znU (t:Int):zfm t=some (inR t 0 99999):=by simp [zfm,within_eq]
theorem c1_eq (p:Pulse) (x:Int):zen x (⟨p⟩:Train_)=some (!isSel p x):=by simp [zen,zdE,within_eq,isSel]
theorem zuF (l:List Int) (f:Int->Bool):l.any (fun x=>!f x)=!l.all f:=by
 induction l with
 | nil=>rfl
 | cons a l ih=>simp only [List.any_cons,List.all_cons,ih,Bool.not_and]
end Pu
namespace Pu
def selOf (p:Pulse) (g h:Int):Int:=(g-1)*p.Numbers+h-1
def good (p:Pulse) (g h:Int):Bool:=inR g 1 p.Letters&&inR h 1 p.Numbers
def znV (p:Pulse) (d:Int):Bool:=inR d (p.Pitch-p.Slack) (p.Pitch+p.Slack)
def cl (p:Pulse):Int->Int->Int->List Int->List Int->Option (List Int)
 | _,g,h,out,[]=>if good p g h then some (out++[selOf p g h]) else none
 | y,g,h,out,x::l =>
  if x-y≥p.Pause then (if good p g h then cl p x 1 0 (out++[selOf p g h]) l else none)
  else if x-y≥p.Gap then (if h>0 then none else cl p x g 1 out l)
  else if znV p (x-y) then (if h>0 then cl p x g (h+1) out l else cl p x (g+1) h out l)
  else none
def clean (p:Pulse):List Int->Option (List Int)
 | []=>some []
 | x::l=>cl p x 1 0 [] l
def ziV:Option (List Int)->List Int×Bool
 | none=>([],false)
 | some l=>(l,true)
theorem zmd (p:Pulse) (hv:valid p=true) (g h:Int) (hg:1<=g/\g<=100000) (hh:0<=h/\h<=100000) (out:List Int) (ho:out.length<100000) :
  zcL (⟨g,h⟩:Groups_) (⟨p⟩:Train_) out=some (good p g h,out++[selOf p g h]):=by
 obtain ⟨v1,v2,_⟩:=valid_iff hv
 have hm:0<=(g-1)*p.Numbers/\(g-1)*p.Numbers<=100000*5:=⟨Int.mul_nonneg (by omega) (by omega),Int.mul_le_mul (by omega) v2.2 (by omega) (by omega)⟩
 unfold zcL
 simp only
 rw [zaP (x:=g-1) (by omega) (by omega),zaP (x:=(g-1)*p.Numbers) (by omega) (by omega),zaP (x:=(g-1)*p.Numbers+h) (by omega) (by omega),zaP (by omega) (by omega),zif (by simp;omega)]
 simp only [Option.bind_some,within_eq,zb8,good,selOf]
 cases inR g 1 p.Letters<;>simp
theorem zuG (p:Pulse) (hv:valid p=true) (d:Int):zeB (⟨p⟩:Train_) d=some (if d≥p.Pause then 3 else if d≥p.Gap then 2 else if znV p d then 1 else 0):=by
 obtain ⟨v1,v2,v3,v4,v5,v6,_⟩:=valid_iff hv
 unfold zeB
 simp only [within_eq,Option.bind_some]
 rw [zaP (x:=p.Pitch-p.Slack) (by omega) (by omega),zaP (x:=p.Pitch+p.Slack) (by omega) (by omega)]
 simp only [decide_eq_true_eq]
 split
 ·rfl
 ·split
  ·rfl
  ·show (if znV p d=true then _ else _)=_
   cases znV p d<;>rfl
theorem zwm (p:Pulse) (hv:valid p=true) (a1:List Int) (ha:a1.length<=1000) (htm:∀x,x∈a1->0<=x/\x<=99999):∀(l pre:List Int) (m:Nat) (y g h:Int) (out:List Int),a1=pre++y::l->l.length<m ->
  1<=g/\g<=pre.length+1->0<=h/\h<=pre.length+1->out.length<=pre.length->zaQ (⟨p⟩:Train_) a1 m ((pre.length:Int)+1) g h out=some (ziV (cl p y g h out l)):=by
 intro l
 induction l with
 | nil =>
  intro pre m y g h out he hm hg hh ho
  have hl:a1.length=pre.length+1:=by simp [he]
  obtain ⟨m,rfl⟩:∃k,m=k+1:=⟨m-1,by omega⟩
  simp only [zaQ,zbN,zcM]
  rw [if_neg (by simp;omega),if_pos (by simp;omega),zmd p hv g h (by omega) (by omega) out (by omega)]
  simp only [Option.bind_some,zcf,cl]
  cases good p g h<;>simp [ziV]
 | cons x l ih =>
  intro pre m y g h out he hm hg hh ho
  simp at hm
  have hl:a1.length=pre.length+(l.length+2):=by simp [he]
  obtain ⟨m,rfl⟩:∃k,m=k+1:=⟨m-1,by omega⟩
  have hx:=htm x (by simp [he])
  have hy:=htm y (by simp [he])
  have i1:idx a1 ((pre.length:Int)+1)=some x:=by
   have:=zdz (pre++[y]) x l
   rw [show (((pre++[y]).length:Nat):Int)=(pre.length:Int)+1 by simp] at this
   rw [he];simpa using this
  have i2:idx a1 (w64 ((pre.length:Int)+1-1))=some y:=by
   rw [zaP (by omega) (by omega),show (pre.length:Int)+1-1=pre.length by omega,he,zdz]
  have hr:∀(g' h':Int) (out':List Int),1<=g'/\g'<=pre.length+2->0<=h'/\h'<=pre.length+2->out'.length<=pre.length+1 ->
    zaZ (zaQ (⟨p⟩:Train_) a1 m) ((pre.length:Int)+1) g' h' out'=some (ziV (cl p x g' h' out' l)):=fun g' h' out' hg' hh' ho'=>by
   have:=ih (pre++[y]) m x g' h' out' (by simp [he]) (by omega) (by simp;omega) (by simp;omega) (by simp;omega)
   rw [show (((pre++[y]).length:Nat):Int)=(pre.length:Int)+1 by simp] at this
   simp only [zaZ]
   rw [zaP (by omega) (by omega)]
   exact this
  simp only [zaQ,zbN]
  rw [if_pos (by simp;omega),i1]
  simp only [Option.bind_some]
  rw [if_neg (by simp;omega),i2]
  simp only [Option.bind_some]
  rw [zaP (x:=x-y) (by omega) (by omega),zuG p hv]
  simp only [Option.bind_some,cl]
  by_cases d1:x-y≥p.Pause
  ·simp only [d1,if_true]
   rw [if_neg (by decide),if_neg (by decide),if_pos (by decide),zmd p hv g h (by omega) (by omega) out (by omega)]
   simp only [Option.bind_some]
   cases good p g h with
   | false=>simp [ziV]
   | true=>simpa using hr 1 0 (out++[selOf p g h]) (by omega) (by omega) (by simp;omega)
  ·simp only [d1,if_false]
   by_cases d2:x-y≥p.Gap
   ·simp only [d2,if_true]
    rw [if_neg (by decide),if_pos (by decide)]
    by_cases hp:h>0
    ·simp [hp,ziV]
    ·simp only [hp,if_false]
     rw [if_neg (by simpa using hp)]
     exact hr g 1 out (by omega) (by omega) (by omega)
   ·simp only [d2,if_false]
    cases hsd:znV p (x-y) with
    | false=>simp [ziV]
    | true =>
     simp only [if_true]
     rw [if_pos (by decide)]
     by_cases hp:h>0
     ·rw [if_pos (by simpa using hp),zaP (by omega) (by omega)]
      simp only [hp,if_true]
      exact hr g (h+1) out (by omega) (by omega) (by omega)
     ·rw [if_neg (by simpa using hp),zaP (by omega) (by omega)]
      simp only [hp,if_false]
      exact hr (g+1) h out (by omega) (by omega) (by omega)
theorem zuH {n:Nat} (p:Pulse) (hv:valid p=true) (l:List Int) (ha:l.length<=1000) (htm:∀x,x∈l->0<=x/\x<=99999) (hn:1002<=n):zeC n (⟨p⟩:Train_) l=some (ziV (clean p l)):=by
 obtain ⟨n,rfl⟩:∃k,n=k+1:=⟨n-1,by omega⟩
 unfold zeC
 cases l with
 | nil=>simp [zaQ,zbN,zcM,zcf,clean,ziV]
 | cons x l =>
  have h:=zwm p hv (x::l) ha htm l [] n x 1 0 [] rfl (by simp at ha;omega) (by simp) (by simp) (by simp)
  simp only [zaQ,zbN]
  rw [if_pos (by simp<;>omega),show idx (x::l) 0=some x from rfl]
  simp only [Option.bind_some]
  rw [if_pos (by decide)]
  simp only [zaZ]
  rw [show w64 (0+1)=1 by decide]
  simpa [clean] using h
theorem zuI {x:Int} (h0:0<=x) (h1:x<18446744073709551616):IntKind.u64.wrap x=x:=by
 have:IntKind.u64.wrap x=x % 18446744073709551616:=by simp [IntKind.wrap,IntKind.bits,IntKind.signed]
 rw [this]
 omega
theorem zuJ {i:Nat} (h:i<60):zq6 1 (i:Int)=some ((2 ^ i:Nat):Int):=by
 unfold zq6
 rw [if_pos (by omega),Int.toNat_natCast,Nat.min_eq_left (by omega)]
 have h2:(2:Nat) ^ i<2 ^ 60:=Nat.pow_lt_pow_right (by omega) h
 have h3:(2:Int) ^ i=((2 ^ i:Nat):Int):=by push_cast;rfl
 have h60:(2:Nat) ^ 60=1152921504606846976:=by decide
 rw [h3]
 generalize (2:Nat) ^ i=w at h2 ⊢
 rw [show (1:Int)*(w:Int)=w by omega,zuI (by omega) (by omega)]
theorem zwn {a b:Nat} (ha:a<2 ^ 60) (hb:b<2 ^ 60):zvd (a:Int) (b:Int)=((a ||| b:Nat):Int):=by
 have h60:(2:Nat) ^ 60=1152921504606846976:=by decide
 have hab:a ||| b<2 ^ 60:=Nat.or_lt_two_pow ha hb
 unfold zvd
 have:(BitVec.ofInt 64 (a:Int) ||| BitVec.ofInt 64 (b:Int)).toNat=a ||| b:=by
  rw [BitVec.toNat_or]
  simp only [BitVec.ofInt_natCast,BitVec.toNat_ofNat]
  rw [Nat.mod_eq_of_lt (by omega),Nat.mod_eq_of_lt (by omega)]
 rw [this,zuI (by omega) (by omega)]
theorem zuK {a i:Nat} (ha:a<2 ^ 60) (hi:i<60):zfV (a:Int) (i:Int)=some (a.testBit i):=by
 have h60:(2:Nat) ^ 60=1152921504606846976:=by decide
 unfold zfV zsI
 rw [if_pos (by omega),Int.toNat_natCast,Nat.min_eq_left (by omega)]
 have h3:((a:Int)).fdiv (2 ^ i)=((a / 2 ^ i:Nat):Int):=by
  rw [show ((2:Int) ^ i)=((2 ^ i:Nat):Int) by push_cast;rfl]
  generalize (2:Nat) ^ i=w
  rw [Int.fdiv_eq_ediv_of_nonneg _ (by omega)]
  rfl
 rw [h3]
 simp only [Option.bind_some]
 have h4:znl ((a / 2 ^ i:Nat):Int) 1=((a / 2 ^ i % 2:Nat):Int):=by
  unfold znl
  have hd:a / 2 ^ i<=a:=Nat.div_le_self _ _
  have:(BitVec.ofInt 64 ((a / 2 ^ i:Nat):Int) &&& BitVec.ofInt 64 1).toNat=a / 2 ^ i % 2:=by
   rw [BitVec.toNat_and]
   simp only [BitVec.ofInt_natCast,BitVec.toNat_ofNat]
   rw [Nat.mod_eq_of_lt (by omega),show (BitVec.ofInt 64 1).toNat=1 by decide,Nat.and_one_is_mod]
  rw [this,zuI (by omega) (by omega)]
 rw [h4,Nat.testBit_eq_decide_div_mod_eq]
 congr 1
 rcases Nat.mod_two_eq_zero_or_one (a / 2 ^ i) with h | h<;>rw [h]<;>decide
def cmb:Nat->List Nat->List (List Nat)
 | 0,_=>[[]]
 | _+1,[]=>[]
 | k+1,i::ps=>(cmb k ps).map (i::·)++cmb (k+1) ps
def bits (first:Nat) (is:List Nat):Nat:=is.foldl (fun a i=>a ||| 2 ^ i) first
def yieldAll {S:Type} (aF:Int->S->Option (Bool×S)):List Int->S->Option (Bool×S)
 | [],s=>some (true,s)
 | x::l,s=>(aF x s).bind fun r=>if r.1=true then yieldAll aF l r.2 else some (false,r.2)
theorem yieldAll_append {S:Type} (aF:Int->S->Option (Bool×S)):∀(l k:List Int) (s:S),yieldAll aF (l++k) s=(yieldAll aF l s).bind fun r=>if r.1=true then yieldAll aF k r.2 else some (false,r.2)
 | [],k,s=>by simp [yieldAll]
 | x::l,k,s=>by
  simp only [List.cons_append,yieldAll]
  cases h:aF x s with
  | none=>rfl
  | some r =>
   simp only [Option.bind_some]
   cases hr:r.1 with
   | true=>simp only [if_true];exact yieldAll_append aF l k r.2
   | false=>simp
def zkp (first k a m:Nat):List Int:=(cmb k (List.range' a m)).map fun is=>((bits first is:Nat):Int)
theorem zqq (first k a m:Nat):zkp first (k+1) a (m+1)=zkp (first ||| 2 ^ a) k (a+1) m++zkp first (k+1) (a+1) m:=by
 unfold zkp
 rw [List.range'_succ]
 simp only [cmb,List.map_append,List.map_map]
 rfl
theorem sets_eq {S:Type} (aF:Int->S->Option (Bool×S)) (p:Pulse) (hl:p.Times.length<=40):∀(k n first a:Nat) (s:S),k+50<=n->k<=1000->first<2 ^ 60->a<=p.Times.length ->
  zbD n aF (⟨p⟩:Train_) (first:Int) (a:Int) (k:Int) s=yieldAll aF (zkp first k a (p.Times.length-a)) s:=by
 intro k
 induction k with
 | zero =>
  intro n first a s hn hk hf ha
  obtain ⟨n,rfl⟩:∃j,n=j+1:=⟨n-1,by omega⟩
  simp only [zbD,zdO]
  rw [if_pos (by simp)]
  have:zkp first 0 a (p.Times.length-a)=[(first:Int)]:=by simp [zkp,cmb,bits]
  rw [this]
  simp only [yieldAll]
  cases h:aF (first:Int) s with
  | none=>rfl
  | some r =>
   simp only [Option.bind_some]
   rcases r with ⟨b,s'⟩
   cases b<;>rfl
 | succ k ih =>
  intro n first a s hn hk hf ha
  obtain ⟨n,rfl⟩:∃j,n=j+1:=⟨n-1,by omega⟩
  simp only [zbD,zdO]
  rw [if_neg (by simp;omega)]
  have key:∀(d m a:Nat) (s:S),d=p.Times.length-a->a<=p.Times.length->d<m ->
    zbG (zbD n aF) (⟨p⟩:Train_) (first:Int) ((k+1:Nat):Int) m (a:Int) s=yieldAll aF (zkp first (k+1) a d) s:=by
   intro d
   induction d with
   | zero =>
    intro m a s hd ha' hm
    obtain ⟨m,rfl⟩:∃j,m=j+1:=⟨m-1,by omega⟩
    simp only [zbG,zc4,zdv]
    rw [if_neg (by simp;omega)]
    rfl
   | succ d ihd =>
    intro m a s hd ha' hm
    obtain ⟨m,rfl⟩:∃j,m=j+1:=⟨m-1,by omega⟩
    simp only [zbG,zc4]
    rw [if_pos (by simp;omega),zuJ (by omega)]
    simp only [Option.bind_some]
    have h2:(2:Nat) ^ a<2 ^ 60:=Nat.pow_lt_pow_right (by omega) (by omega)
    rw [zwn hf h2,zaP (x:=(a:Int)+1) (by omega) (by omega),zaP (x:=((k+1:Nat):Int)-1) (by omega) (by omega)]
    have h3:=ih n (first ||| 2 ^ a) (a+1) s (by omega) (by omega) (Nat.or_lt_two_pow hf h2) (by omega)
    rw [show (((k+1:Nat):Int)-1)=(k:Int) by omega,show ((a:Int)+1)=((a+1:Nat):Int) by omega,h3,zqq,yieldAll_append,show p.Times.length-(a+1)=d by omega]
    cases hy:yieldAll aF (zkp (first ||| 2 ^ a) k (a+1) d) s with
    | none=>rfl
    | some r =>
     simp only [Option.bind_some]
     cases hr:r.1 with
     | true =>
      simp only [Bool.not_true,Bool.false_eq_true,if_false,if_true]
      exact ihd m (a+1) r.2 (by omega) (by omega) (by omega)
     | false=>simp
  exact key (p.Times.length-a) n a s rfl ha (by omega)
def less (f:Nat->Bool):Nat->List Int->List Int
 | _,[]=>[]
 | i,t::l=>if f i then less f (i+1) l else t::less f (i+1) l
theorem zmY (f:Nat->Bool):∀(l:List Int) (i:Nat) (x:Int),x∈less f i l->x∈l
 | [],_,_,h=>by simp [less] at h
 | t::l,i,x,h=>by
  simp only [less] at h
  split at h
  ·exact List.mem_cons_of_mem _ (zmY f l (i+1) x h)
  ·rcases List.mem_cons.1 h with rfl | h
   ·simp
   ·exact List.mem_cons_of_mem _ (zmY f l (i+1) x h)
theorem zmZ (f:Nat->Bool):∀(l:List Int) (i:Nat),(less f i l).length<=l.length
 | [],_=>by simp [less]
 | t::l,i=>by
  have:=zmZ f l (i+1)
  simp only [less]
  split<;>simp<;>omega
theorem zpG:∀(l:List Int) (prev:Option Int),rise prev l=true->∀x,x∈l->0<=x/\x<=99999
 | [],_,_,x,h=>by simp at h
 | t::l,prev,h,x,hx=>by
  simp only [rise,Bool.and_eq_true] at h
  rcases List.mem_cons.1 hx with rfl | hx
  ·exact zbQ.1 h.1.1
  ·exact zpG l _ h.2 x hx
def zoZ {S:Type} (p:Pulse) (aF:Reading_->S->Option (Bool×S)) (b:Nat) (s:S):Option (Bool×S) :=
 match clean p (less b.testBit 0 p.Times) with
 | none=>some (true,s)
 | some l=>aF (⟨(b:Int),l⟩:Reading_) s
theorem ztr {S:Type} {n:Nat} (p:Pulse) (hv:valid p=true) (hn:1010<=n) (aF:Reading_->S->Option (Bool×S)) (b:Nat) (hb:b<2 ^ 60) (s:S) :
  za7 n aF (b:Int) (⟨p⟩:Train_) s=zoZ p aF b s:=by
 obtain ⟨v1,v2,v3,v4,v5,v6,v7,v8,v9⟩:=valid_iff hv
 have htm:=zpG p.Times none v9
 have key:∀(l pre:List Int) (m:Nat) (left:List Int),p.Times=pre++l->l.length<m->left.length<=pre.length ->
   (left++less b.testBit pre.length l=less b.testBit 0 p.Times)->zaD n (b:Int) aF s (⟨p⟩:Train_) m left (pre.length:Int)=zoZ p aF b s:=by
  intro l
  induction l with
  | nil =>
   intro pre m left he hm hlen hle
   obtain ⟨m,rfl⟩:∃k,m=k+1:=⟨m-1,by omega⟩
   simp only [zaD,zbt]
   rw [if_neg (by simp [he])]
   simp only [less,List.append_nil] at hle
   subst hle
   simp only [zbJ]
   rw [zuH p hv _ (by have:=zmZ b.testBit p.Times 0;omega) (fun x hx=>htm x (zmY _ _ _ _ hx)) (by omega)]
   simp only [Option.bind_some,zoZ]
   cases clean p (less b.testBit 0 p.Times) with
   | none=>simp [ziV,zbd]
   | some l =>
    simp only [ziV,Bool.not_true,Bool.false_eq_true,if_false]
    cases aF (⟨(b:Int),l⟩:Reading_) s with
    | none=>rfl
    | some r=>rfl
  | cons x l ih =>
   intro pre m left he hm hlen hle
   simp at hm
   have hl:p.Times.length=pre.length+(l.length+1):=by simp [he]
   obtain ⟨m,rfl⟩:∃k,m=k+1:=⟨m-1,by omega⟩
   simp only [zaD,zbt]
   rw [if_pos (by simp;omega),show idx p.Times (pre.length:Int)=some x by rw [he,zdz]]
   simp only [Option.bind_some]
   rw [zuK hb (by omega)]
   simp only [Option.bind_some,zbe]
   have hc:(((pre++[x]).length:Nat):Int)=(pre.length:Int)+1:=by simp
   cases hbit:b.testBit pre.length with
   | true =>
    simp only [Bool.not_true,Bool.false_eq_true,if_false]
    rw [zaP (by omega) (by omega)]
    have h:=ih (pre++[x]) m left (by simp [he]) (by omega) (by simp;omega) (by rw [←hle];simp [less,hbit])
    rw [hc] at h
    exact h
   | false =>
    simp only [Bool.not_false,if_true]
    rw [zif (by simp;omega)]
    simp only [Option.bind_some]
    rw [zaP (by omega) (by omega)]
    have h:=ih (pre++[x]) m (left++[x]) (by simp [he]) (by omega) (by simp;omega) (by rw [←hle];simp [less,hbit])
    rw [hc] at h
    exact h
 exact key p.Times [] n [] rfl (by omega) (by simp) (by simp)
theorem yieldAll_congr {S:Type} {aF bF:Int->S->Option (Bool×S)}:∀(l:List Int) (s:S),(∀x,x∈l->∀s,aF x s=bF x s)->yieldAll aF l s=yieldAll bF l s
 | [],_,_=>rfl
 | x::l,s,h=>by
  simp only [yieldAll]
  rw [h x (by simp) s]
  congr 1
  funext r
  rw [yieldAll_congr l r.2 fun y hy=>h y (by simp [hy])]
theorem zo0:∀(k:Nat) (ps:List Nat) (is:List Nat),is∈cmb k ps->∀i,i∈is->i∈ps
 | 0,_,is,h,i,hi=>by simp [cmb] at h;subst h;simp at hi
 | k+1,[],is,h,_,_=>by simp [cmb] at h
 | k+1,j::ps,is,h,i,hi=>by
  simp only [cmb,List.mem_append,List.mem_map] at h
  rcases h with ⟨is',h1,rfl⟩ | h
  ·rcases List.mem_cons.1 hi with rfl | hi
   ·simp
   ·exact List.mem_cons_of_mem _ (zo0 k ps is' h1 i hi)
  ·exact List.mem_cons_of_mem _ (zo0 (k+1) ps is h i hi)
theorem zr8:∀(is:List Nat) (first:Nat),first<2 ^ 60->(∀i,i∈is->i<60)->bits first is<2 ^ 60
 | [],_,h,_=>h
 | i::is,first,h,hi=>zr8 is (first ||| 2 ^ i) (Nat.or_lt_two_pow h (Nat.pow_lt_pow_right (by omega) (hi i (by simp)))) fun j hj=>hi j (by simp [hj])
def zlu (p:Pulse) (k:Nat):List Reading_:=(cmb k (List.range' 0 p.Times.length)).filterMap fun is=>(clean p (less (bits 0 is).testBit 0 p.Times)).map fun l=>(⟨((bits 0 is:Nat):Int),l⟩:Reading_)
end Pu
namespace Pu
theorem zm0:∀(k:Nat) (ps:List Nat),(cmb k ps).length<=(ps.length+1) ^ k
 | 0,ps=>by simp [cmb]
 | k+1,[]=>by simp [cmb]
 | k+1,i::ps=>by
  have h1:=zm0 k ps
  have h2:=zm0 (k+1) ps
  simp only [cmb,List.length_append,List.length_map,List.length_cons]
  have h3:(ps.length+1) ^ k<=(ps.length+1+1) ^ k:=Nat.pow_le_pow_left (by omega) k
  calc (cmb k ps).length+(cmb (k+1) ps).length<=(ps.length+1) ^ k+(ps.length+1) ^ (k+1):=by omega
   _=(ps.length+1) ^ k*(ps.length+1+1):=by rw [Nat.pow_succ,Nat.mul_add (_ ^ k) (ps.length+1) 1];omega
   _<=(ps.length+1+1) ^ k*(ps.length+1+1):=Nat.mul_le_mul_right _ h3
   _=(ps.length+1+1) ^ (k+1):=(Nat.pow_succ ..).symm
theorem zwo {p:Pulse} (hl:p.Times.length<=40) {k:Nat} {is:List Nat} (h:is∈cmb k (List.range' 0 p.Times.length)):bits 0 is<2 ^ 60 :=
 zr8 is 0 (by omega) fun i hi=>by
  have:=zo0 k _ is h i hi
  simp at this
  omega
theorem zo1 {S:Type} {n:Nat} (p:Pulse) (hv:valid p=true) (hn:1100<=n) (aF:Reading_->S->Option (Bool×S)) (k:Nat) (hk:k<=1000) (s:S) :
  zcE n aF (⟨p⟩:Train_) (k:Int) s=(yieldAll (fun x s=>zoZ p aF x.toNat s) (zkp 0 k 0 p.Times.length) s).bind fun r=>some ((),r.2):=by
 obtain ⟨v1,v2,v3,v4,v5,v6,v7,v8,v9⟩:=valid_iff hv
 unfold zcE
 have h:=sets_eq (fun (x0:Int) s=>za7 n aF x0 (⟨p⟩:Train_) s) p (by omega) k n 0 0 s (by omega) hk (by decide) (by omega)
 rw [show p.Times.length-0=p.Times.length by omega] at h
 rw [show zbD n (fun (x0:Int) s=>za7 n aF x0 (⟨p⟩:Train_) s) (⟨p⟩:Train_) 0 0 (k:Int) s=_ from h]
 rw [yieldAll_congr (bF:=fun x s=>zoZ p aF x.toNat s) _ _ fun x hx s=>?_]
 unfold zkp at hx
 obtain ⟨is,his,rfl⟩:=List.mem_map.1 hx
 rw [ztr p hv (by omega) aF (bits 0 is) (zwo (by omega) his) s]
 simp
theorem zka (p:Pulse):∀(L:List (List Nat)) (out:List Reading_),out.length+L.length<=1048576 ->
  yieldAll (fun x s=>zoZ p za2 x.toNat s) (L.map fun is=>((bits 0 is:Nat):Int)) out =
   some (true,out++L.filterMap fun is=>(clean p (less (bits 0 is).testBit 0 p.Times)).map fun l=>(⟨((bits 0 is:Nat):Int),l⟩:Reading_))
 | [],out,_=>by simp [yieldAll]
 | is::L,out,h=>by
  simp at h
  simp only [List.map_cons,yieldAll,zoZ,Int.toNat_natCast,List.filterMap_cons]
  cases clean p (less (bits 0 is).testBit 0 p.Times) with
  | none =>
   simp only [Option.bind_some,if_true,Option.map_none]
   exact zka p L out (by omega)
  | some l =>
   simp only [za2]
   rw [zif (by simp;omega)]
   simp only [Option.bind_some,if_true,Option.map_some]
   refine Eq.trans (zka p L (out++[(⟨((bits 0 is:Nat):Int),l⟩:Reading_)]) (by simp;omega)) ?_
   simp
theorem znW {n:Nat} (p:Pulse) (hv:valid p=true) (hn:1100<=n) (k:Nat) (hk:k<=3) (out:List Reading_) (ho:out.length<=500000) :
  zbK n out (⟨p⟩:Train_) (k:Int)=some (out++zlu p k):=by
 obtain ⟨v1,v2,v3,v4,v5,v6,v7,v8,v9⟩:=valid_iff hv
 unfold zbK
 rw [zo1 p hv hn _ k (by omega) out]
 have hlen:=zm0 k (List.range' 0 p.Times.length)
 have hb:((List.range' 0 p.Times.length).length+1) ^ k<=25 ^ 3:=Nat.le_trans (Nat.pow_le_pow_left (by simp;omega) k) (Nat.pow_le_pow_right (by omega) hk)
 have h25:25 ^ 3=15625:=by decide
 unfold zkp
 rw [zka p _ out (by omega)]
 rfl
theorem zqr (p:Pulse) (hl:p.Times.length<=24) (k:Nat) (hk:k<=3):(zlu p k).length<=15625:=by
 unfold zlu
 have h1:=List.length_filterMap_le (fun is=>(clean p (less (bits 0 is).testBit 0 p.Times)).map fun l=>(⟨((bits 0 is:Nat):Int),l⟩:Reading_)) (cmb k (List.range' 0 p.Times.length))
 have hlen:=zm0 k (List.range' 0 p.Times.length)
 have hb:((List.range' 0 p.Times.length).length+1) ^ k<=25 ^ 3:=Nat.le_trans (Nat.pow_le_pow_left (by simp;omega) k) (Nat.pow_le_pow_right (by omega) hk)
 have h25:25 ^ 3=15625:=by decide
 omega
def readsTo (p:Pulse) (a:Nat):Nat->List Reading_
 | 0=>[]
 | d+1=>zlu p a++readsTo p (a+1) d
theorem zwp {S:Type} {n:Nat} (p:Pulse) (hv:valid p=true) (hn:1100<=n) (r3:Bool×S):∀(d k m:Nat) (out:List Reading_),(d:Int)+k=p.Sparks+1->d<m->out.length<=20000*k ->
  zcV n p r3 m out (k:Int)=zeS r3 (out++readsTo p k d):=by
 obtain ⟨v1,v2,v3,v4,v5,v6,v7,v8,v9⟩:=valid_iff hv
 intro d
 induction d with
 | zero =>
  intro k m out hd hm ho
  obtain ⟨m,rfl⟩:∃j,m=j+1:=⟨m-1,by omega⟩
  simp only [zcV,ze0]
  rw [zaP (x:=p.Sparks+1) (by omega) (by omega),if_neg (by simp;omega)]
  simp [readsTo]
 | succ d ih =>
  intro k m out hd hm ho
  obtain ⟨m,rfl⟩:∃j,m=j+1:=⟨m-1,by omega⟩
  simp only [zcV,ze0]
  rw [zaP (x:=p.Sparks+1) (by omega) (by omega),if_pos (by simp;omega),znW p hv hn k (by omega) out (by omega)]
  simp only [Option.bind_some]
  rw [zaP (by omega) (by omega)]
  have hl:=zqr p v8 k (by omega)
  have h:=ih (k+1) m (out++zlu p k) (by push_cast at hd ⊢;omega) (by omega) (by simp;omega)
  push_cast at h
  rw [h,readsTo,List.append_assoc]
theorem open_eq {S:Type} {n:Nat} (p:Pulse) (hs:p.Times.length<=1000) (hn:1100<=n) (aF:Train_->S->Option (Bool×S)) (st:S) (b:Bool) (st':S) (hF:valid p=true->aF (⟨p⟩:Train_) st=some (b,st')) :
  ∃s'',zgO n aF p st=some ((if valid p=true then (if b=true then (if readsTo p 0 (p.Sparks+1).toNat=[] then ([],3) else (readsTo p 0 (p.Sparks+1).toNat,0)) else ([],1)) else ([],130)),s''):=by
 unfold zgO
 rw [Check_eq p (by omega) (by omega) (by omega)]
 simp only [Option.bind_some]
 cases hv:valid p with
 | false=>exact ⟨st,by simp⟩
 | true =>
  obtain ⟨v1,v2,v3,v4,v5,v6,v7,v8,v9⟩:=valid_iff hv
  simp only [cond_true,bne_self_eq_false,Bool.false_eq_true,if_false,hF hv,Option.bind_some,if_true]
  cases b with
  | false=>exact ⟨st',by simp⟩
  | true =>
   have h:=zwp (n:=n) p hv hn (true,st') (p.Sparks+1).toNat 0 n [] (by simp;omega) (by omega) (by simp)
   simp only [Bool.not_true,Bool.false_eq_true,if_false,if_true]
   rw [show zcV n p (true,st') n [] 0=_ from h]
   simp only [List.nil_append,zeS]
   by_cases hr:readsTo p 0 (p.Sparks+1).toNat=[]
   ·exact ⟨st',by simp [hr]⟩
   ·refine ⟨st',?_⟩
    rw [if_neg (by have:=List.length_pos_iff.2 hr;simp;omega),if_neg hr]
def zx4 (k:Nat) (ps:List Nat):List (List Nat):=(List.range (k+1)).flatMap fun j=>cmb j ps
def zwq (is:List Nat):List Int:=List.map (fun (i:Nat)=>(i:Int)) is
theorem znX:∀(is:List Nat) (first j:Nat),(bits first is).testBit j=(first.testBit j || is.contains j)
 | [],first,j=>by simp [bits]
 | i::is,first,j=>by
  have h:=znX is (first ||| 2 ^ i) j
  rw [show bits first (i::is)=bits (first ||| 2 ^ i) is from rfl,h,Nat.testBit_or,Nat.testBit_two_pow]
  simp only [List.contains_cons,Bool.or_assoc]
  congr 1
  congr 1
  by_cases e:i=j
  ·subst e;simp
  ·have e':¬j=i:=fun h=>e h.symm
   simp [e,e']
theorem zme {f g:Nat->Bool} (h:∀j,f j=g j):∀(l:List Int) (i:Nat),less f i l=less g i l
 | [],_=>rfl
 | t::l,i=>by simp only [less,h i,zme h l]
def rd (p:Pulse) (is:List Nat):Option (List Int):=clean p (less (fun j=>is.contains j) 0 p.Times)
theorem zuL (p:Pulse) (is:List Nat):clean p (less (bits 0 is).testBit 0 p.Times)=rd p is:=by
 unfold rd
 rw [zme (g:=fun j=>is.contains j) fun j=>by rw [znX];simp]
def mkP (p:Pulse) (is:List Nat):Option Reading_:=(rd p is).map fun l=>(⟨((bits 0 is:Nat):Int),l⟩:Reading_)
def zqs (p:Pulse):List Nat:=List.range' 0 p.Times.length
theorem zr9 (p:Pulse) (k:Nat):zlu p k=(cmb k (zqs p)).filterMap (mkP p):=by
 unfold zlu mkP zqs
 congr 1
 funext is
 rw [zuL]
theorem zmf (p:Pulse):∀(d a:Nat),readsTo p a d=((List.range' a d).flatMap fun j=>cmb j (zqs p)).filterMap (mkP p)
 | 0,a=>by simp [readsTo]
 | d+1,a=>by
  rw [List.range'_succ]
  simp only [readsTo,zmf p d (a+1),zr9,List.flatMap_cons,List.filterMap_append]
def zm1 (p:Pulse) (k:Nat):List (List Nat):=(zx4 k (zqs p)).filter fun is=>(rd p is).isSome
def listOf (p:Pulse) (is:List Nat):List Int:=(rd p is).getD []
theorem zhu {α:Type} (p:Pulse) (g:List Nat->List Int->α):∀L:List (List Nat),(L.filterMap fun is=>(rd p is).map (g is))=(L.filter fun is=>(rd p is).isSome).map fun is=>g is (listOf p is)
 | []=>rfl
 | is::L=>by
  simp only [List.filterMap_cons,List.filter_cons,listOf]
  cases h:rd p is with
  | none=>simp only [Option.map_none,Option.isSome_none,Bool.false_eq_true,if_false];exact zhu p g L
  | some l=>simp only [Option.map_some,Option.isSome_some,if_true,List.map_cons,h,Option.getD_some];rw [zhu p g L];rfl
theorem znY (p:Pulse) (k:Nat):readsTo p 0 (k+1)=(zm1 p k).map fun is=>(⟨((bits 0 is:Nat):Int),listOf p is⟩:Reading_):=by
 rw [zmf,←List.range_eq_range']
 exact zhu p (fun is l=>(⟨((bits 0 is:Nat):Int),l⟩:Reading_)) _
def openR (p:Pulse):List Reading_×Int :=
 if valid p=true then (if zm1 p p.Sparks.toNat=[] then ([],3) else ((zm1 p p.Sparks.toNat).map fun is=>(⟨((bits 0 is:Nat):Int),listOf p is⟩:Reading_),0)) else ([],130)
theorem readsTo_valid {p:Pulse} (hv:valid p=true):readsTo p 0 (p.Sparks+1).toNat=(zm1 p p.Sparks.toNat).map fun is=>(⟨((bits 0 is:Nat):Int),listOf p is⟩:Reading_):=by
 obtain ⟨v1,v2,v3,v4,v5,v6,v7,v8,v9⟩:=valid_iff hv
 rw [show (p.Sparks+1).toNat=p.Sparks.toNat+1 by omega,znY]
theorem zuM (pa pb:List Int) (hp:pa.length=pb.length):∀(l k:List Int) (m:Nat),l.length=k.length->(pa++l).length<1048576->l.length<m ->
  zbX (pa++l) (pb++k) m (pa.length:Int)=some (decide (l=k)):=by
 intro l
 induction l generalizing pa pb with
 | nil =>
  intro k m hk hs hm
  obtain ⟨m,rfl⟩:∃k,m=k+1:=⟨m-1,by omega⟩
  have:k=[]:=List.eq_nil_of_length_eq_zero (by simpa using hk.symm)
  subst this
  simp [zbX,zdf,zdP]
 | cons x l ih =>
  intro k m hk hs hm
  obtain ⟨m,rfl⟩:∃k,m=k+1:=⟨m-1,by omega⟩
  cases k with
  | nil=>simp at hk
  | cons y k =>
   simp at hk hs hm
   simp only [zbX,zdf]
   rw [if_pos (by simp;omega),zdz,show idx (pb++y::k) (pa.length:Int)=some y by rw [hp,zdz]]
   simp only [Option.bind_some]
   by_cases hb:x=y
   ·subst hb
    have h:=ih (pa++[x]) (pb++[x]) (by simp [hp]) k m hk (by simp;omega) (by omega)
    rw [if_neg (by simp),zaP (by omega) (by omega)]
    simpa using h
   ·rw [if_pos (by simpa using hb)]
    simp [hb]
theorem zts {n:Nat} (a b:List Int) (hs:a.length<1048576) (hn:a.length<n):slices_Equal_int n a b=some (decide (a=b)):=by
 unfold slices_Equal_int
 by_cases h:a.length=b.length
 ·rw [if_neg (by simp [h])]
  exact zuM [] [] rfl a b n h (by simpa using hs) hn
 ·rw [if_pos (by simp;omega)]
  have:a≠b:=fun e=>h (by rw [e])
  simp [this]
end Pu
namespace Pu
def firsts {α:Type} [DecidableEq α]:List α->List α->List α
 | out,[]=>out
 | out,x::l=>if x∈out then firsts out l else firsts (out++[x]) l
theorem firsts_mem {α:Type} [DecidableEq α]:∀(l out:List α) (x:α),x∈firsts out l↔x∈out\/x∈l
 | [],out,x=>by simp [firsts]
 | y::l,out,x=>by
  simp only [firsts]
  split
  ·rw [firsts_mem l out x,List.mem_cons]
   constructor
   ·rintro (h | h)
    ·exact .inl h
    ·exact .inr (.inr h)
   ·rintro (h | rfl | h)
    ·exact .inl h
    ·exact .inl (by assumption)
    ·exact .inr h
  ·rw [firsts_mem l _ x]
   simp [or_assoc]
theorem ztU (p:Pulse):∀(l:List Int) (y g h:Int) (out q:List Int),cl p y g h out l=some q->q.length<=out.length+l.length+1
 | [],y,g,h,out,q,e=>by
  simp only [cl] at e
  split at e
  ·cases e;simp
  ·cases e
 | x::l,y,g,h,out,q,e=>by
  simp only [cl] at e
  repeat' split at e
  all_goals first | (cases e;done) | (have:=ztU p l _ _ _ _ _ e;simp at this ⊢;omega)
theorem zsa (p:Pulse) (l q:List Int) (e:clean p l=some q):q.length<=l.length:=by
 cases l with
 | nil=>simp [clean] at e;simp [←e]
 | cons x l=>have:=ztU p l _ _ _ _ _ e;simpa using this
theorem zqt (p:Pulse) (is:List Nat):(listOf p is).length<=p.Times.length:=by
 unfold listOf
 cases h:rd p is with
 | none=>simp
 | some l =>
  have h1:=zsa p _ _ h
  have h2:=zmZ (fun j=>is.contains j) p.Times 0
  simp;omega
theorem zwr (aF:List Int->Unit->Option (Bool×Unit)) (f:List Int->Bool):∀(l pre:List (List Int)) (m:Nat),(∀x,x∈l->aF x ()=some (f x,()))->(pre++l).length<1048576->l.length<m ->
  ∃r,za8 (pre++l) aF m (pre.length:Int) ()=some (r,())/\decide (r≥0)=l.any f:=by
 intro l
 induction l with
 | nil =>
  intro pre m hf hs hm
  obtain ⟨m,rfl⟩:∃k,m=k+1:=⟨m-1,by omega⟩
  exact ⟨-1,by simp [za8,zcl,zcF],by simp⟩
 | cons c l ih =>
  intro pre m hf hs hm
  obtain ⟨m,rfl⟩:∃k,m=k+1:=⟨m-1,by omega⟩
  obtain ⟨r,h1,h2⟩:=ih (pre++[c]) m (fun x hx=>hf x (List.mem_cons_of_mem _ hx)) (by simpa using hs) (by simp at hm;omega)
  rw [show (((pre++[c]).length:Nat):Int)=(pre.length:Int)+1 by simp,show pre++[c]++l=pre++c::l by simp] at h1
  simp at hs hm
  simp only [za8,zcl]
  rw [if_pos (by simp<;>omega),zdz]
  simp only [Option.bind_some,hf c (by simp)]
  by_cases hb:f c=true
  ·exact ⟨pre.length,by simp [hb],by simp [hb]⟩
  ·refine ⟨r,?_,by rw [h2];simp [hb]⟩
   rw [zaP (by omega) (by omega),if_neg hb]
   exact h1
theorem zsb {n:Nat} (r:Reading_) (L:List (List Int)) (hl:∀x,x∈L->x.length<1000) (hs:L.length<1048576) (hn:L.length<n) (hn':1000<=n) :
  zcG n (fun (x0:List Int) (_:Unit)=>(zdC n x0 r).map fun y=>(y,())) L ()=some (decide (r.list∈L),()):=by
 obtain ⟨v,h1,h2⟩:=zwr (fun (x0:List Int) (_:Unit)=>(zdC n x0 r).map fun y=>(y,())) (fun x=>decide (x=r.list)) L [] n (fun x hx=>by
  have:=hl x hx
  simp [zdC,zts x r.list (by omega) (show x.length<n by omega)]) (by simpa using hs) hn
 have h1:zem n _ L ()=some (v,()):=h1
 simp only [zcG,h1,Option.bind_some,h2]
 congr 2
 by_cases hm:r.list∈L
 ·simp only [hm,decide_true,List.any_eq_true]
  exact ⟨_,hm,by simp⟩
 ·simp only [hm,decide_false,List.any_eq_false]
  intro x hx
  simp only [decide_eq_true_eq]
  intro e
  exact hm (e▸hx)
theorem ztt {n:Nat} (L:List Reading_) (hl:∀x,x∈L->x.list.length<1000) (hs:L.length<1000000) (hn:L.length<n) (hn':1000<=n) :
  zih n L=some (firsts [] (L.map (·.list))):=by
 have key:∀(l pre:List Reading_) (m:Nat) (out:List (List Int)),L=pre++l->l.length<m->(∀x,x∈out->x.length<1000)->out.length<=pre.length ->
   zb9 n L m out (pre.length:Int)=some (firsts out (l.map (·.list))):=by
  intro l
  induction l with
  | nil =>
   intro pre m out he hm ho hlen
   obtain ⟨m,rfl⟩:∃k,m=k+1:=⟨m-1,by omega⟩
   simp only [zb9,zeD,zfj]
   rw [if_neg (by simp [he])]
   simp [firsts]
  | cons x l ih =>
   intro pre m out he hm ho hlen
   simp at hm
   have hl':L.length=pre.length+(l.length+1):=by simp [he]
   obtain ⟨m,rfl⟩:∃k,m=k+1:=⟨m-1,by omega⟩
   have hx:=hl x (by simp [he])
   have hc:(((pre++[x]).length:Nat):Int)=(pre.length:Int)+1:=by simp
   simp only [zb9,zeD]
   rw [if_pos (by simp;omega),show idx L (pre.length:Int)=some x by rw [he,zdz]]
   simp only [Option.bind_some]
   rw [zsb x out ho (by omega) (by omega) hn']
   simp only [Option.bind_some,List.map_cons,firsts]
   by_cases hmem:x.list∈out
   ·simp only [hmem,decide_true,Bool.not_true,Bool.false_eq_true,if_false,if_true,zdD]
    rw [zaP (by omega) (by omega)]
    have h:=ih (pre++[x]) m out (by simp [he]) (by omega) ho (by simp;omega)
    rw [hc] at h
    exact h
   ·simp only [hmem,decide_false,Bool.not_false,if_true,if_false,zdD]
    rw [zif (by simp;omega)]
    simp only [Option.bind_some]
    rw [zaP (by omega) (by omega)]
    have h:=ih (pre++[x]) m (out++[x.list]) (by simp [he]) (by omega) (fun y hy=>by
     rcases List.mem_append.1 hy with hy | hy
     ·exact ho y hy
     ·rw [List.mem_singleton] at hy;subst hy;exact hx) (by simp;omega)
    rw [hc] at h
    exact h
 exact key L [] n [] rfl hn (by simp) (by simp)
theorem openR_list {p:Pulse} (hs:p.Times.length<=40):∀x,x∈(openR p).1->x.list.length<1000:=by
 intro x hx
 unfold openR at hx
 split at hx
 ·split at hx
  ·simp at hx
  ·obtain ⟨is,_,rfl⟩:=List.mem_map.1 hx
   have:=zqt p is
   simp only
   omega
 ·simp at hx
theorem open_none {p:Pulse} (h:(openR p).2=0):(openR p).1≠[]:=by
 unfold openR at h ⊢
 split at h
 ·split at h
  ·cases h
  ·rename_i hv hg
   rw [if_pos hv,if_neg hg]
   simpa using hg
 ·cases h
def oneR (L:List (List Int)):List Int×Int:=if 1<(firsts [] L).length then ([],2) else ((firsts [] L).headD [],0)
theorem zuN (a:List Int):∀l:List (List Int),oneR (a::l)=if l.all (fun x=>decide (x=a))=true then (a,0) else ([],2):=by
 intro l
 unfold oneR
 have e:firsts [] (a::l)=firsts [a] l:=by simp [firsts]
 rw [e]
 by_cases h:l.all (fun x=>decide (x=a))=true
 ·have:firsts [a] l=[a]:=by
   clear e
   induction l with
   | nil=>rfl
   | cons x l ih =>
    simp only [List.all_cons,Bool.and_eq_true,decide_eq_true_eq] at h
    rw [firsts,if_pos (by rw [h.1];simp)]
    exact ih (by simpa using h.2)
  rw [if_pos h,this]
  rfl
 ·rw [if_neg h]
  have:∃x,x∈l/\x≠a:=by
   simp only [List.all_eq_true,decide_eq_true_eq] at h
   exact Classical.byContradiction fun hc=>h fun x hx=>Classical.byContradiction fun hne=>hc ⟨x,hx,hne⟩
  obtain ⟨x,hx,hne⟩:=this
  have m1:a∈firsts [a] l:=(firsts_mem l [a] a).2 (.inl (by simp))
  have m2:x∈firsts [a] l:=(firsts_mem l [a] x).2 (.inr hx)
  rw [if_pos ?_]
  generalize firsts [a] l=f at m1 m2
  match f with
  | []=>simp at m1
  | [y] =>
   rw [List.mem_singleton] at m1 m2
   exact absurd (m2.trans m1.symm) hne
  | _::_::_=>simp
def readR (p:Pulse):List Int×Int:=if (openR p).2≠0 then ([],(openR p).2) else oneR ((openR p).1.map (·.list))
theorem zsc {L:List (List Int)} (h:L≠[]):firsts [] L≠[]:=by
 cases L with
 | nil=>exact absurd rfl h
 | cons a l =>
  have:a∈firsts [] (a::l):=(firsts_mem _ _ a).2 (.inr (by simp))
  intro e
  rw [e] at this
  simp at this
theorem one_eq {n:Nat} (L:List Reading_) (hne:L≠[]) (hl:∀x,x∈L->x.list.length<1000) (hs:L.length<1000000) (hn:L.length<n) (hn':1000<=n):zfF n L=some (oneR (L.map (·.list))):=by
 unfold zfF oneR
 rw [ztt L hl hs hn hn']
 simp only [Option.bind_some]
 by_cases h1:1<(firsts [] (L.map (·.list))).length
 ·rw [if_pos (by simp;omega),if_pos h1]
 ·rw [if_neg (by simp;omega),if_neg h1]
  have:=zsc (L:=L.map (·.list)) (by simpa using hne)
  generalize firsts [] (L.map (·.list))=f at this
  cases f with
  | nil=>exact absurd rfl this
  | cons a l=>rfl
def hi (l:List Int):Int:=l.foldl max 0
def oft (p:Pulse) (i:Nat):Nat:=(zm1 p p.Sparks.toNat).countP fun is=>is.contains i
def zws (p:Pulse):List Int×Int:=if (openR p).2≠0 then ([],(openR p).2) else (zwq ((zqs p).filter fun i=>oft p i==0),0)
def like (p q:Pulse):Prop:=p.Letters=q.Letters/\p.Numbers=q.Numbers/\p.Pitch=q.Pitch/\p.Slack=q.Slack/\p.Gap=q.Gap/\p.Pause=q.Pause
theorem zuO {p q:Pulse} (h:like p q):∀(l:List Int) (y g t:Int) (out:List Int),cl p y g t out l=cl q y g t out l:=by
 obtain ⟨p1,p2,p3,p4,p5,p6,p7,p8⟩:=p
 obtain ⟨q1,q2,q3,q4,q5,q6,q7,q8⟩:=q
 obtain ⟨h1,h2,h3,h4,h5,h6⟩:=h
 simp only at h1 h2 h3 h4 h5 h6
 subst h1 h2 h3 h4 h5 h6
 intro l
 induction l with
 | nil=>intro y g t out;rfl
 | cons x l ih =>
  intro y g t out
  simp only [cl,good,selOf,znV,ih]
  rfl
theorem clean_like {p q:Pulse} (h:like p q) (l:List Int):clean p l=clean q l:=by
 cases l with
 | nil=>rfl
 | cons x l=>exact zuO h l _ _ _ _
theorem zsd {p:Pulse} (hv:valid p=true):(openR p).2=(if zm1 p p.Sparks.toNat=[] then 3 else 0)/\(openR p).1.length=(zm1 p p.Sparks.toNat).length:=by
 unfold openR
 rw [if_pos hv]
 split
 ·rename_i h;simp [h]
 ·simp
theorem znZ:∀(l:List Int) (a:Nat),less (fun j=>([]:List Nat).contains j) a l=l
 | [],_=>rfl
 | t::l,a=>by
  have:=znZ l (a+1)
  simp only [less]
  rw [if_neg (by simp),this]
theorem zse {o:Pulse} {l:List Int} (h0:o.Sparks=0) (hc:clean o o.Times=some l):zm1 o o.Sparks.toNat=[[]]/\listOf o []=l:=by
 have hr:rd o []=some l:=by unfold rd;rw [znZ,hc]
 constructor
 ·rw [h0]
  unfold zm1 zx4
  simp [cmb,hr]
 ·unfold listOf
  rw [hr]
  rfl
theorem zero_read {o:Pulse} {l:List Int} (hv:valid o=true) (h0:o.Sparks=0) (hc:clean o o.Times=some l):readR o=(l,0)/\(openR o).2=0/\(openR o).1.length=1/\zws o=(zwq (zqs o),0):=by
 obtain ⟨h1,h2⟩:=zse h0 hc
 obtain ⟨o1,o2⟩:=zsd hv
 rw [h1,if_neg (by simp)] at o1
 rw [h1] at o2
 refine ⟨?_,o1,o2,?_⟩
 ·unfold readR
  rw [if_neg (by simp [o1])]
  have:(openR o).1.map (·.list)=[l]:=by
   unfold openR
   rw [if_pos hv,h1,if_neg (by simp)]
   simp [h2]
  rw [this,zuN]
  rfl
 ·unfold zws
  rw [if_neg (by simp [o1])]
  congr 2
  refine List.filter_eq_self.2 fun i _=>?_
  unfold oft
  rw [h1]
  rfl
theorem valid_times {p:Pulse} {k:Int} {q:List Int} (hv:valid p=true) (h0:0<=k) (h3:k<=3) (hq:q.length<=24) (hr:rise none q=true):valid (⟨p.Letters,p.Numbers,p.Pitch,p.Slack,p.Gap,p.Pause,k,q⟩:Pulse)=true:=by
 simp only [valid,Bool.and_eq_true,zbQ,decide_eq_true_eq] at hv ⊢
 obtain ⟨⟨⟨⟨⟨⟨⟨⟨h1,h2⟩,h3⟩,h4⟩,h5⟩,h6⟩,h7⟩,h8⟩,h9⟩:=hv
 exact ⟨⟨⟨⟨⟨⟨⟨⟨h1,h2⟩,h3⟩,h4⟩,h5⟩,h6⟩,by omega⟩,hq⟩,hr⟩
def steps (pitch:Int):Nat->Int->Int->List Int
 | 0,_,_=>[]
 | k+1,d,t=>(t+d)::steps pitch k pitch (t+d)
def stepT (pitch:Int):Nat->Int->Int->Int
 | 0,_,t=>t
 | k+1,d,t=>stepT pitch k pitch (t+d)
theorem zhI (pitch:Int):∀(k:Nat) (d:Int) (out:List Int) (t:Int),out≠[]->zlJ pitch k d out t=(out++steps pitch k d t,stepT pitch k d t)
 | 0,_,out,t,_=>by simp [zlJ,steps,stepT]
 | k+1,d,out,t,h=>by
  simp only [zlJ,h,if_false,steps,stepT]
  rw [zhI pitch k pitch (out++[t+d]) (t+d) (by simp)]
  simp
def zlK (p:Pulse):List Int->Int->List Int
 | [],_=>[]
 | x::l,t =>
  let a:=(x / p.Numbers+1).toNat
  let b:=(x % p.Numbers+1).toNat
  let t1:=stepT p.Pitch a p.Pause t
  steps p.Pitch a p.Pause t++(steps p.Pitch b p.Gap t1++zlK p l (stepT p.Pitch b p.Gap t1))
def zlv (p:Pulse):List Int->Int->Int
 | [],t=>t
 | x::l,t=>zlv p l (stepT p.Pitch (x % p.Numbers+1).toNat p.Gap (stepT p.Pitch (x / p.Numbers+1).toNat p.Pause t))
theorem zsf (p:Pulse):∀(l out:List Int) (t:Int),out≠[]->wr p l out t=(out++zlK p l t,zlv p l t)
 | [],out,t,_=>by simp [wr,zlK,zlv]
 | x::l,out,t,h=>by
  simp only [wr,zlK,zlv]
  rw [zhI p.Pitch _ p.Pause out t h]
  simp only
  rw [zhI p.Pitch _ p.Gap _ _ (by simp [h])]
  simp only
  rw [zsf p l _ _ (by simp [h])]
  simp
def zsg:Int->List Int->Int->Prop
 | y,[],T=>y=T
 | y,x::l,T=>y<x/\zsg x l T
theorem zwt:∀(l:List Int) (y T:Int),zsg y l T->y<=T
 | [],y,T,h=>by simp only [zsg] at h;omega
 | x::l,y,T,h=>by
  have:=zwt l x T h.2
  have:=h.1
  omega
theorem zn0:∀(l k:List Int) (y T U:Int),zsg y l T->zsg T k U->zsg y (l++k) U
 | [],k,y,T,U,h,g=>by simp only [zsg] at h;subst h;exact g
 | x::l,k,y,T,U,h,g=>⟨h.1,zn0 l k x T U h.2 g⟩
theorem up_rise:∀(l:List Int) (y T:Int),zsg y l T->0<=y->T<=99999->rise (some y) l=true
 | [],_,_,_,_,_=>rfl
 | x::l,y,T,h,h0,hT=>by
  have h1:=zwt l x T h.2
  have h2:=h.1
  simp only [rise,Bool.and_eq_true,decide_eq_true_eq]
  exact ⟨⟨zbQ.2 (by omega),by omega⟩,up_rise l x T h.2 (by omega) hT⟩
theorem zjO (pitch:Int) (hp:0<pitch):∀(k:Nat) (d t:Int),0<d->zsg t (steps pitch k d t) (stepT pitch k d t)
 | 0,_,_,_=>rfl
 | k+1,d,t,hd=>⟨by omega,zjO pitch hp k pitch (t+d) hp⟩
theorem zpH (p:Pulse) (hp:0<p.Pitch) (hg:0<p.Gap) (hs:0<p.Pause):∀(l:List Int) (t:Int),zsg t (zlK p l t) (zlv p l t)
 | [],t=>rfl
 | x::l,t=>by
  simp only [zlK,zlv]
  exact zn0 _ _ _ _ _ (zjO p.Pitch hp _ p.Pause t hs) (zn0 _ _ _ _ _ (zjO p.Pitch hp _ p.Gap _ hg) (zpH p hp hg hs l _))
theorem zxW (p:Pulse) (hv:valid p=true):∀(k:Nat) (y g:Int) (out L:List Int),cl p y g 0 out (steps p.Pitch k p.Pitch y++L)=cl p (stepT p.Pitch k p.Pitch y) (g+k) 0 out L
 | 0,y,g,out,L=>by simp [steps,stepT]
 | k+1,y,g,out,L=>by
  obtain ⟨v1,v2,v3,v4,v5,v6,_⟩:=valid_iff hv
  simp only [steps,stepT,List.cons_append,cl]
  rw [if_neg (by omega),if_neg (by omega),if_pos (by unfold znV;rw [zbQ];omega),if_neg (by omega),zxW p hv k (y+p.Pitch) (g+1) out L]
  congr 1
  push_cast
  omega
theorem zx5 (p:Pulse) (hv:valid p=true):∀(k:Nat) (y g h:Int) (out L:List Int),0<h->cl p y g h out (steps p.Pitch k p.Pitch y++L)=cl p (stepT p.Pitch k p.Pitch y) g (h+k) out L
 | 0,y,g,h,out,L,_=>by simp [steps,stepT]
 | k+1,y,g,h,out,L,hh=>by
  obtain ⟨v1,v2,v3,v4,v5,v6,_⟩:=valid_iff hv
  simp only [steps,stepT,List.cons_append,cl]
  rw [if_neg (by omega),if_neg (by omega),if_pos (by unfold znV;rw [zbQ];omega),if_pos (by omega),zx5 p hv k (y+p.Pitch) g (h+1) out L (by omega)]
  congr 1
  push_cast
  omega
theorem zn1 (p:Pulse) (hv:valid p=true) (b:Nat) (hb:1<=b) (y g:Int) (out L:List Int):cl p y g 0 out (steps p.Pitch b p.Gap y++L)=cl p (stepT p.Pitch b p.Gap y) g b out L:=by
 obtain ⟨v1,v2,v3,v4,v5,v6,_⟩:=valid_iff hv
 obtain ⟨k,rfl⟩:∃k,b=k+1:=⟨b-1,by omega⟩
 simp only [steps,stepT,List.cons_append,cl]
 rw [if_neg (by omega),if_pos (by omega),if_neg (by omega),zx5 p hv k _ g 1 out L (by omega)]
 congr 1
 push_cast
 omega
theorem zqu (p:Pulse) (hv:valid p=true) (a:Nat) (ha:1<=a) (y g h:Int) (hg:good p g h=true) (out L:List Int):cl p y g h out (steps p.Pitch a p.Pause y++L)=cl p (stepT p.Pitch a p.Pause y) a 0 (out++[selOf p g h]) L:=by
 obtain ⟨v1,v2,v3,v4,v5,v6,_⟩:=valid_iff hv
 obtain ⟨k,rfl⟩:∃k,a=k+1:=⟨a-1,by omega⟩
 simp only [steps,stepT,List.cons_append,cl]
 rw [if_pos (by omega),if_pos hg,zxW p hv k _ 1 _ L]
 congr 1
 push_cast
 omega
theorem zpI {p:Pulse} (hv:valid p=true) {x:Int} (hx:isSel p x=true):good p ((x / p.Numbers+1).toNat:Int) ((x % p.Numbers+1).toNat:Int)=true/\selOf p ((x / p.Numbers+1).toNat:Int) ((x % p.Numbers+1).toNat:Int)=x:=by
 obtain ⟨v1,v2,_⟩:=valid_iff hv
 obtain ⟨b1,b2,b3,b4,b5⟩:=ziL hv hx
 have h1:x / p.Numbers<p.Letters:=Int.ediv_lt_of_lt_mul (by omega) b2
 have h2:=Int.emod_lt_of_pos x (show 0<p.Numbers by omega)
 have h3:=Int.mul_ediv_add_emod x p.Numbers
 have e1:(((x / p.Numbers+1).toNat:Nat):Int)=x / p.Numbers+1:=by omega
 have e2:(((x % p.Numbers+1).toNat:Nat):Int)=x % p.Numbers+1:=by omega
 rw [e1,e2]
 unfold good selOf
 constructor
 ·rw [Bool.and_eq_true,zbQ,zbQ]
  omega
 ·rw [show x / p.Numbers+1-1=x / p.Numbers by omega,Int.mul_comm]
  omega
theorem zpJ (p:Pulse) (hv:valid p=true):∀(l:List Int) (y g h:Int) (out:List Int),good p g h=true->(∀x,x∈l->isSel p x=true)->cl p y g h out (zlK p l y)=some (out++[selOf p g h]++l)
 | [],y,g,h,out,hg,_=>by simp [zlK,cl,hg]
 | x::l,y,g,h,out,hg,hs=>by
  have hx:=hs x (by simp)
  obtain ⟨b1,b2,b3,b4,b5⟩:=ziL hv hx
  obtain ⟨g1,g2⟩:=zpI hv hx
  simp only [zlK]
  rw [zqu p hv _ (by omega) y g h hg,zn1 p hv _ (by omega),zpJ p hv l _ _ _ _ g1 fun z hz=>hs z (by simp [hz]),g2]
  simp
theorem wr_clean (p:Pulse) (hv:valid p=true) (l:List Int) (t:Int) (hs:∀x,x∈l->isSel p x=true):clean p (wr p l [] t).1=some l/\((l=[]/\(wr p l [] t).1=[])\/∃k,(wr p l [] t).1=t::k/\zsg t k (wr p l [] t).2/\l≠[]):=by
 obtain ⟨v1,v2,v3,v4,v5,v6,_⟩:=valid_iff hv
 cases l with
 | nil=>exact ⟨rfl,.inl ⟨rfl,rfl⟩⟩
 | cons x l =>
  have hx:=hs x (by simp)
  obtain ⟨b1,b2,b3,b4,b5⟩:=ziL hv hx
  obtain ⟨g1,g2⟩:=zpI hv hx
  obtain ⟨k,hk⟩:∃k,(x / p.Numbers+1).toNat=k+1:=⟨(x / p.Numbers+1).toNat-1,by omega⟩
  have e:wr p (x::l) [] t=(t::(steps p.Pitch k p.Pitch t++(steps p.Pitch (x % p.Numbers+1).toNat p.Gap (stepT p.Pitch k p.Pitch t)++zlK p l (stepT p.Pitch (x % p.Numbers+1).toNat p.Gap (stepT p.Pitch k p.Pitch t)))),zlv p l (stepT p.Pitch (x % p.Numbers+1).toNat p.Gap (stepT p.Pitch k p.Pitch t))):=by
   simp only [wr,hk,zlJ,if_true,List.nil_append]
   rw [zhI p.Pitch k p.Pitch [t] t (by simp)]
   simp only
   rw [zhI p.Pitch _ p.Gap _ _ (by simp)]
   simp only
   rw [zsf p l _ _ (by simp)]
   simp
  rw [e]
  constructor
  ·simp only [clean]
   rw [zxW p hv k t 1,zn1 p hv _ (by omega)]
   have hk':(1:Int)+k=(((x / p.Numbers+1).toNat:Nat):Int):=by rw [hk];push_cast;omega
   rw [hk',zpJ p hv l _ _ _ _ g1 fun z hz=>hs z (by simp [hz]),g2]
   simp
  ·exact .inr ⟨_,rfl,zn0 _ _ _ _ _ (zjO p.Pitch (by omega) k p.Pitch t (by omega)) (zn0 _ _ _ _ _ (zjO p.Pitch (by omega) _ p.Gap _ (by omega)) (zpH p (by omega) (by omega) (by omega) l _)),by simp⟩
theorem pWrite_eq {n:Nat} (p:Pulse) (hv:valid p=true) (hs:p.Times.length<=40) (l:List Int) (t:Int) (hl:l.length<=24) (hsel:∀x,x∈l->isSel p x=true) (ht:0<=t/\t<=99999) (hn:1000<=n) :
  zhf n p l t=some (if (wr p l [] t).1.length<=24/\inR (wr p l [] t).2 0 99999=true then ((wr p l [] t).1,0) else ([],131)):=by
 unfold zhf
 rw [Check_eq p (by omega) (by omega) (by omega),hv]
 simp only [cond_true,bne_self_eq_false,Bool.false_eq_true,if_false,Option.bind_some,znU]
 rw [if_neg (show ¬decide ((l.length:Int)>24)=true by simp;omega),zbQ.2 ht,if_neg (by simp),znT _ (fun x=>!isSel p x) (fun x=>by rw [c1_eq];rfl) l (by omega) (by omega),zuF,List.all_eq_true.2 hsel]
 simp only [Option.bind_some,Bool.not_true,zdF,Bool.false_eq_true,if_false]
 have e1:=ztq (n:=n) p hv (by omega) l (by omega) hsel l [] n [] t rfl (by omega) (by simp) (by omega) (by simp;omega)
 rw [show zcy n p l n 0 [] t=_ from e1]
 unfold zeq
 simp only [znU,Option.bind_some,zep]
 by_cases h1:(wr p l [] t).1.length<=24
 ·rw [if_neg (by simp;omega)]
  cases h2:inR (wr p l [] t).2 0 99999 with
  | true=>simp [h1]
  | false=>simp
 ·rw [if_pos (by simp;omega),if_pos trivial,if_neg (fun h=>h1 h.1)]
end Pu
def zlL (p:Pulse):Wire:=⟨p.Letters,p.Numbers,[],0⟩
def zh2 (p:Pulse) (F:List WireFault) (x:Int):Int:=zg4 (zlL p) F (x / p.Numbers) (x % p.Numbers)
def inS (p:Pulse) (x:Int):Prop:=0<=x/\x<25/\(0<=x / p.Numbers/\x / p.Numbers<p.Letters)/\(0<=x % p.Numbers/\x % p.Numbers<p.Numbers)
theorem ztV {p:Pulse} (hp:(1<=p.Letters/\p.Letters<=5)/\(1<=p.Numbers/\p.Numbers<=5)) {g h:Int} (hg:Pu.good p g h=true):inS p (Pu.selOf p g h):=by
 simp only [Pu.good,Bool.and_eq_true,zbQ] at hg
 unfold Pu.selOf inS
 have hN:0<p.Numbers:=by omega
 have e:(g-1)*p.Numbers+h-1=(h-1)+(g-1)*p.Numbers:=by omega
 have d:((h-1)+(g-1)*p.Numbers) / p.Numbers=g-1:=by
  rw [Int.add_mul_ediv_right _ _ (by omega),Int.ediv_eq_zero_of_lt (by omega) (by omega)]
  omega
 have r:((h-1)+(g-1)*p.Numbers) % p.Numbers=h-1:=by
  rw [Int.add_mul_emod_self_right,Int.emod_eq_of_lt (by omega) (by omega)]
 rw [e,d,r]
 have h1:0<=(g-1)*p.Numbers:=Int.mul_nonneg (by omega) (by omega)
 have h2:(g-1)*p.Numbers<=4*p.Numbers:=Int.mul_le_mul_of_nonneg_right (by omega) (by omega)
 omega
theorem zsh {p:Pulse} (hp:(1<=p.Letters/\p.Letters<=5)/\(1<=p.Numbers/\p.Numbers<=5)):∀(l:List Int) (y g h:Int) (out q:List Int),(∀x,x∈out->inS p x)->Pu.cl p y g h out l=some q->∀x,x∈q->inS p x
 | [],y,g,h,out,q,ho,e=>by
  unfold Pu.cl at e
  split at e
  ·rename_i hg
   injection e with e
   subst e
   intro x hx
   rcases List.mem_append.1 hx with hx | hx
   ·exact ho x hx
   ·simp at hx;subst hx;exact ztV hp hg
  ·cases e
 | z::l,y,g,h,out,q,ho,e=>by
  unfold Pu.cl at e
  split at e
  ·split at e
   ·rename_i hg
    refine zsh hp l _ _ _ _ _ (fun x hx=>?_) e
    rcases List.mem_append.1 hx with hx | hx
    ·exact ho x hx
    ·simp at hx;subst hx;exact ztV hp hg
   ·cases e
  ·split at e
   ·split at e
    ·cases e
    ·exact zsh hp l _ _ _ _ _ ho e
   ·split at e
    ·split at e
     ·exact zsh hp l _ _ _ _ _ ho e
     ·exact zsh hp l _ _ _ _ _ ho e
    ·cases e
theorem zpK {p:Pulse} (hp:(1<=p.Letters/\p.Letters<=5)/\(1<=p.Numbers/\p.Numbers<=5)) {l q:List Int} (e:Pu.clean p l=some q):∀x,x∈q->inS p x:=by
 cases l with
 | nil=>unfold Pu.clean at e;injection e with e;subst e;simp
 | cons x l=>exact zsh hp _ _ _ _ _ _ (by simp) e
theorem zsi {p:Pulse} (hp:(1<=p.Letters/\p.Letters<=5)/\(1<=p.Numbers/\p.Numbers<=5)) (is:List Nat):∀x,x∈Pu.listOf p is->inS p x:=by
 unfold Pu.listOf
 cases e:Pu.rd p is with
 | none=>simp
 | some q=>exact zpK hp e
theorem zsj {p:Pulse} (hp:(1<=p.Letters/\p.Letters<=5)/\(1<=p.Numbers/\p.Numbers<=5)):okW (zlL p)=true :=
 zht.2 ⟨hp,⟨show (0:Int)<=0 by decide,show (0:Int)<=3 by decide⟩,show 0<=8 by decide,fun x hx=>by cases hx⟩
theorem zwu {p:Pulse} {x:Int} (h:inS p x):okB (zlL p) (x / p.Numbers) (x % p.Numbers)=true:=by
 unfold inS at h
 simp only [okB,zlL,Bool.and_eq_true,zbQ]
 omega
theorem ztu {p:Pulse} (hp:(1<=p.Letters/\p.Letters<=5)/\(1<=p.Numbers/\p.Numbers<=5)) {F:List WireFault} (hs:F.length<20000) (hF:zkH (zlL p) F=true) {x:Int} (h:inS p x) :
  zfK 20000 (zlL p) F (x / p.Numbers) (x % p.Numbers)=some (zh2 p F x,0):=by
 rw [zpC _ F hs]
 unfold znQ
 rw [if_pos (zsj hp),if_pos ⟨hF,zwu h⟩]
 rfl
theorem zmg {p:Pulse} (hp:(1<=p.Letters/\p.Letters<=5)/\(1<=p.Numbers/\p.Numbers<=5)) {F:List WireFault} (hs:F.length<20000) (hF:zkH (zlL p) F=true) (r3:List Int×Int) (hin:∀x,x∈r3.1->inS p x) (hlen:r3.1.length<100000) (hne:0<r3.1.length) :
  ∀(l pre:List Int) (m:Nat),r3.1=pre++l->l.length<m->zcZ 20000 p F r3 m (pre.length:Int) (pre.map (zh2 p F)++l)=some ((pre++l).map (zh2 p F),0)
 | [],pre,m,he,hm=>by
  obtain ⟨m,rfl⟩:∃k,m=k+1:=⟨m-1,by simp at hm;omega⟩
  simp only [List.append_nil] at he ⊢
  simp only [zcZ,zeJ,zfr,zwA]
  rw [if_neg (by simp [he]),if_pos (by constructor;simp [he];exact hne),zaf]
 | x::l,pre,m,he,hm=>by
  simp only [List.length_cons] at hm
  obtain ⟨m,rfl⟩:∃k,m=k+1:=⟨m-1,by omega⟩
  have hl:r3.1.length=pre.length+(l.length+1):=by rw [he];simp
  have hx:inS p x:=hin x (by rw [he];simp)
  have hx':=hx
  unfold inS at hx'
  have ix:ztP r3.1.length (pre.map (zh2 p F)++x::l) (pre.length:Int)=some x:=by
   unfold ztP
   rw [if_pos (by simp [hl])]
   have:=zdz (pre.map (zh2 p F)) x l
   rwa [List.length_map] at this
  have hc:(((pre++[x]).length:Nat):Int)=(pre.length:Int)+1:=by simp
  have ih:=zmg hp hs hF r3 hin hlen hne l (pre++[x]) m (by simp [he]) (by omega)
  rw [hc] at ih
  simp only [zcZ,zeJ]
  rw [if_pos (by simp only [decide_eq_true_eq];omega),ix]
  simp only [zaf]
  rw [zru (by omega) (by omega) (by omega),zrv (by omega) (by omega)]
  rw [show zdU (⟨p⟩:Train_)=some (zlL p) from rfl]
  simp only [zaf]
  rw [ztu hp hs hF hx,zaP (by omega) (by omega)]
  simp only [zaf]
  have hset:(pre.map (zh2 p F)++x::l).set (Int.toNat (pre.length:Int)) (zh2 p F x)=(pre++[x]).map (zh2 p F)++l:=by
   rw [Int.toNat_natCast,List.set_append_right _ _ (by simp)]
   simp
  rw [hset,ih]
  simp
def ztv (p:Pulse) (F:List WireFault) (r:List Int×Int):List Int×Int :=
 if Pu.valid p=true then (if zkH (zlL p) F=true then (if r.2≠0 then ([],r.2) else (r.1.map (zh2 p F),0)) else ([],1)) else ([],130)
theorem ztw {p:Pulse} (hv:Pu.valid p=true):∀x,x∈(Pu.readR p).1->inS p x:=by
 have hv':=Pu.valid_iff hv
 intro x hx
 unfold Pu.readR at hx
 split at hx
 ·simp at hx
 ·unfold Pu.oneR at hx
  split at hx
  ·simp at hx
  ·cases e:Pu.firsts [] ((Pu.openR p).1.map (·.list)) with
   | nil=>rw [e] at hx;simp at hx
   | cons a L =>
    rw [e] at hx
    have ha:a∈Pu.firsts [] ((Pu.openR p).1.map (·.list)):=by rw [e];simp
    rcases (Pu.firsts_mem _ _ _).1 ha with h | h
    ·simp at h
    ·obtain ⟨r,hr,rfl⟩:=List.mem_map.1 h
     unfold Pu.openR at hr
     split at hr
     ·split at hr
      ·simp at hr
      ·obtain ⟨is,_,rfl⟩:=List.mem_map.1 hr
       exact zsi ⟨hv'.1,hv'.2.1⟩ is x hx
     ·rename_i h;exact absurd hv h
theorem zsk {p:Pulse} (hs:p.Times.length<=40):(Pu.readR p).1.length<1000:=by
 unfold Pu.readR
 split
 ·simp
 ·unfold Pu.oneR
  split
  ·simp
  ·cases e:Pu.firsts [] ((Pu.openR p).1.map (·.list)) with
   | nil=>simp
   | cons a L =>
    have ha:a∈Pu.firsts [] ((Pu.openR p).1.map (·.list)):=by rw [e];simp
    rcases (Pu.firsts_mem _ _ _).1 ha with h | h
    ·simp at h
    ·obtain ⟨r,hr,rfl⟩:=List.mem_map.1 h
     exact Pu.openR_list hs r hr
theorem zn2 {p:Pulse} (hv:Pu.valid p=true) {F:List WireFault} (hs:F.length<20000):zdH 20000 (⟨p⟩:Train_) F=some (zkH (zlL p) F):=by
 have hv':=Pu.valid_iff hv
 unfold zdH
 rw [show zdU (⟨p⟩:Train_)=some (zlL p) from rfl,zaf,zoW _ F hs,zaf]
 unfold zuC
 rw [if_pos (zsj ⟨hv'.1,hv'.2.1⟩)]
 cases zkH (zlL p) F<;>simp
theorem zn3 (p:Pulse) (F:List WireFault) (hs:p.Times.length<=40) (hF:F.length<20000) (hone:(Pu.openR p).2=0->zfF 20000 (Pu.openR p).1=some (Pu.oneR ((Pu.openR p).1.map (·.list)))) :
  zhg 20000 p F=some (ztv p F (Pu.readR p)):=by
 obtain ⟨s'',h⟩:=Pu.open_eq (n:=20000) p (by omega) (by omega) (fun (x0:Train_) (_:Unit)=>(zdH 20000 x0 F).map fun y=>(y,())) () (zkH (zlL p) F) () (fun hv=>by rw [zn2 hv hF];rfl)
 unfold zhg
 rw [h,zaf]
 unfold ztv
 cases hv:Pu.valid p with
 | false=>simp
 | true =>
  have hv':=Pu.valid_iff hv
  have hp:=And.intro hv'.1 hv'.2.1
  rw [if_pos rfl]
  cases hset:zkH (zlL p) F with
  | false=>simp
  | true =>
   have ho:(if Pu.readsTo p 0 (p.Sparks+1).toNat=[] then (([],3):List Reading_×Int) else (Pu.readsTo p 0 (p.Sparks+1).toNat,0))=Pu.openR p:=by
    unfold Pu.openR
    rw [if_pos hv,Pu.readsTo_valid hv]
    simp only [List.map_eq_nil_iff]
   simp only [if_true]
   rw [ho]
   have hin:=ztw hv
   have hlen:=zsk hs
   by_cases h0:(Pu.openR p).2=0
   ·rw [if_neg (by simp [h0]),hone h0,zaf]
    have hR:Pu.readR p=Pu.oneR ((Pu.openR p).1.map (·.list)):=by unfold Pu.readR;rw [if_neg (by simp [h0])]
    rw [hR] at hin hlen ⊢
    generalize Pu.oneR ((Pu.openR p).1.map (·.list))=r3 at hin hlen ⊢
    by_cases h2:r3.2=0
    ·rw [if_neg (show ¬((r3.2 != 0)=true) by simp [h2]),if_neg (show ¬(r3.2≠0) by simp [h2])]
     by_cases hz:r3.1.length=0
     ·rw [if_pos (by simp [hz]),List.eq_nil_of_length_eq_zero hz]
      rfl
     ·rw [if_neg (by simp [hz])]
      have:=zmg hp hF hset r3 hin (by omega) (by omega) r3.1 [] 20000 rfl (by omega)
      simpa using this
    ·rw [if_pos (by simp [h2]),if_pos h2]
   ·have hR:Pu.readR p=([],(Pu.openR p).2):=by unfold Pu.readR;rw [if_pos h0]
    rw [if_pos (by simp [h0]),hR]
    simp [h0]
theorem zlw:zhB 20000=some true:=by decide +kernel
theorem zuP (p:Pulse) (l:List Int) (hs:p.Times.length<=40) (hl:l.length<=40):∃q c,zkC 20000 p l=some (q,c)/\(c=0\/c=1/\Pu.valid q=true/\q.Sparks=0/\Pu.clean q q.Times=some l/\Pu.like q p/\(∀x,x∈l->Pu.isSel q x=true)/\l.length<=24/\q.Times.length<=24):=by
 unfold zkC
 rw [Pu.Copy_eq p (by omega)]
 simp only [zaf]
 rw [Pu.rCheck_eq _ (by show 0<1048576;decide) (by show 0<20000;decide)]
 simp only [zaf]
 have fin:zfI 20000 l p true=some (⟨p.Letters,p.Numbers,p.Pitch,p.Slack,p.Gap,p.Pause,0,[]⟩,0):=rfl
 cases hv:Pu.valid (⟨p.Letters,p.Numbers,p.Pitch,p.Slack,p.Gap,p.Pause,0,[]⟩:Pulse) with
 | false=>exact ⟨_,0,fin,.inl rfl⟩
 | true =>
  rw [cond_true,if_neg (by decide),Pu.IsList_eq _ l (by omega) (by omega)]
  simp only [zaf]
  cases hL:(l.all (Pu.isSel (⟨p.Letters,p.Numbers,p.Pitch,p.Slack,p.Gap,p.Pause,0,[]⟩:Pulse))&&decide (l.length<=24)) with
  | false=>exact ⟨_,0,fin,.inl rfl⟩
  | true =>
   simp only [Bool.and_eq_true,decide_eq_true_eq] at hL
   have hsel:∀x,x∈l->Pu.isSel (⟨p.Letters,p.Numbers,p.Pitch,p.Slack,p.Gap,p.Pause,0,[]⟩:Pulse) x=true:=List.all_eq_true.1 hL.1
   obtain ⟨w1,w2⟩:=Pu.wr_clean _ hv l 0 hsel
   unfold zfI
   rw [if_neg (by decide),zif (by simp;omega)]
   simp only [zaf,List.nil_append]
   rw [Pu.pWrite_eq _ hv (by show 0<=40;decide) l 0 hL.2 hsel (by decide) (by decide)]
   simp only [zaf]
   generalize Pu.wr (⟨p.Letters,p.Numbers,p.Pitch,p.Slack,p.Gap,p.Pause,0,[]⟩:Pulse) l [] 0=r at w1 w2
   by_cases hok:r.1.length<=24/\inR r.2 0 99999=true
   ·rw [if_pos hok,if_neg (show ¬((0:Int)==131)=true by decide),zif (by simp;omega)]
    simp only [zaf,List.nil_append]
    rw [if_neg (show ¬((0:Int) != 0)=true by decide),if_neg (by simp;omega),Pu.rCheck_eq _ (by show r.1.length<1048576;omega) (by show r.1.length<20000;omega)]
    have hb:=zbQ.1 hok.2
    have hrise:Pu.rise none r.1=true:=by
     rcases w2 with ⟨_,e⟩ | ⟨k,e,hk,_⟩
     ·rw [e];rfl
     ·rw [e]
      simp only [Pu.rise,Bool.and_eq_true,and_true]
      exact ⟨by decide,Pu.up_rise k 0 r.2 hk (by omega) (by omega)⟩
    have oval:Pu.valid (⟨p.Letters,p.Numbers,p.Pitch,p.Slack,p.Gap,p.Pause,0,r.1⟩:Pulse)=true:=Pu.valid_times (p:=⟨p.Letters,p.Numbers,p.Pitch,p.Slack,p.Gap,p.Pause,0,[]⟩) (k:=0) (q:=r.1) hv (by omega) (by omega) (by omega) hrise
    rw [oval]
    simp only [zaf,cond_true]
    exact ⟨_,1,rfl,.inr ⟨rfl,oval,rfl,(Pu.clean_like (p:=⟨p.Letters,p.Numbers,p.Pitch,p.Slack,p.Gap,p.Pause,0,r.1⟩) (q:=⟨p.Letters,p.Numbers,p.Pitch,p.Slack,p.Gap,p.Pause,0,[]⟩) ⟨rfl,rfl,rfl,rfl,rfl,rfl⟩ _).trans w1,⟨rfl,rfl,rfl,rfl,rfl,rfl⟩,hsel,hL.2,hok.1⟩⟩
   ·rw [if_neg hok,if_pos (by decide)]
    exact ⟨_,0,rfl,.inl rfl⟩
theorem zpL {w:Wire} {q:Pulse} (h1:q.Letters=w.Letters) (h2:q.Numbers=w.Numbers):∀(l pre:List WireFault),zoV (zlL q) pre l=zoV w pre l
 | [],pre=>rfl
 | f::l,pre=>by
  have ha:zfY (zlL q)=zfY w:=by unfold zfY zlL;simp only [h1,h2]
  simp only [zoV,ha,zpL h1 h2 l]
theorem ztx {w:Wire} {q:Pulse} (h1:q.Letters=w.Letters) (h2:q.Numbers=w.Numbers) (l:List WireFault):zkH (zlL q) l=zkH w l:=zpL h1 h2 l []
theorem zsl {w:Wire} {q:Pulse} (h2:q.Numbers=w.Numbers) (F:List WireFault) (a b:Int):zg4 (zlL q) F a b=zg4 w F a b:=by
 unfold zg4 zlL
 simp only [h2]
theorem zqv {w:Wire} (h:okW w=true) (l:List WireFault) (hl:l.length<=40):zgo 20000 w l=some (decide ((l.length:Int)<=w.Faults)&&(zkH w l&&zoS w w.Presses l)):=by
 obtain ⟨hw,hF,hP,_⟩:=zht.1 h
 unfold zgo zc9
 by_cases h1:(l.length:Int)<=w.Faults
 ·rw [if_pos (by simpa using h1),zr2 hw l (by omega),zaf]
  by_cases h2:zkH w l=true
  ·rw [if_pos h2,zlI hw (zjN hw h2) (by omega) (by omega) (zoT h) (by omega) (by omega),zaf]
   simp [h1,h2]
  ·rw [if_neg h2]
   simp [h2]
 ·rw [if_neg (by simpa using h1)]
  simp [h1]
theorem zlx (p:Pulse) (x:Dial) (q:Pulse) (h:okW x.Wire=true) (hlike1:q.Letters=x.Wire.Letters) (hlike2:q.Numbers=x.Wire.Numbers) (hF:x.Faults.length<=40) (h2:(x.Faults.length:Int)<=x.Wire.Faults) (h3:zkH x.Wire x.Faults=true) (h4:zoS x.Wire x.Wire.Presses x.Faults=true)
  (hin:∀y,y∈x.List_->inS q y) (hlen:x.List_.length<=40) :
  ∀(l pre:List Int) (m:Nat),x.List_=pre++l->l.length<m->zbT 20000 x (x.List_.map (zh2 q x.Faults),0) m (pre.length:Int)=some true
 | [],pre,m,he,hm=>by
  obtain ⟨m,rfl⟩:∃k,m=k+1:=⟨m-1,by simp at hm;omega⟩
  simp only [List.append_nil] at he
  simp only [zbT,zee,ze2]
  rw [if_neg (by simp [he]),zlw]
  rfl
 | y::l,pre,m,he,hm=>by
  simp only [List.length_cons] at hm
  obtain ⟨m,rfl⟩:∃k,m=k+1:=⟨m-1,by omega⟩
  have hl:x.List_.length=pre.length+(l.length+1):=by rw [he];simp
  obtain ⟨hw,hFa,hP,_⟩:=zht.1 h
  have hy:inS q y:=hin y (by rw [he];simp)
  have hy':=hy
  unfold inS at hy'
  rw [hlike1,hlike2] at hy'
  have ix:idx x.List_ (pre.length:Int)=some y:=by rw [he,zdz]
  have ix2:idx (x.List_.map (zh2 q x.Faults)) (pre.length:Int)=some (zh2 q x.Faults y):=by
   rw [he,List.map_append,List.map_cons]
   have:=zdz (pre.map (zh2 q x.Faults)) (zh2 q x.Faults y) (l.map (zh2 q x.Faults))
   rwa [List.length_map] at this
  have hc:(((pre++[y]).length:Nat):Int)=(pre.length:Int)+1:=by simp
  have ih:=zlx p x q h hlike1 hlike2 hF h2 h3 h4 hin hlen l (pre++[y]) m (by simp [he]) (by omega)
  rw [hc] at ih
  have hb:okB x.Wire (y / x.Wire.Numbers) (y % x.Wire.Numbers)=true:=by
   simp only [okB,Bool.and_eq_true,zbQ]
   omega
  have hab:=ztT hw hb
  have hg:=zjN hw h3
  have hmem:x.Faults∈Tw x.Wire:=List.mem_filter.2 ⟨zmV.2 ⟨ztp hw h3,by omega,hg.2⟩,h4⟩
  have hT:Tw x.Wire≠[]:=fun e=>by rw [e] at hmem;simp at hmem
  have e1:zpE x.Wire (y / x.Wire.Numbers) (y % x.Wire.Numbers)=(zki (V x.Wire (y / x.Wire.Numbers) (y % x.Wire.Numbers)),0):=by unfold zpE;rw [if_pos h,if_pos hb,if_neg hT]
  have hsl:=zr5 h hab
  have hps:zg4 x.Wire x.Faults (y / x.Wire.Numbers) (y % x.Wire.Numbers)∈zki (V x.Wire (y / x.Wire.Numbers) (y % x.Wire.Numbers)):=zr4.2 (by unfold V;exact List.mem_map_of_mem hmem)
  have hpx:zh2 q x.Faults y=zg4 x.Wire x.Faults (y / x.Wire.Numbers) (y % x.Wire.Numbers):=by
   unfold zh2
   rw [zsl hlike2,hlike2]
  have e2:znQ x.Wire x.Faults (y / x.Wire.Numbers) (y % x.Wire.Numbers)=(zg4 x.Wire x.Faults (y / x.Wire.Numbers) (y % x.Wire.Numbers),0):=by unfold znQ;rw [if_pos h,if_pos ⟨h3,hb⟩]
  simp only [zbT,zee]
  rw [if_pos (by simp only [decide_eq_true_eq,List.length_map];omega),ix]
  simp only [zaf]
  rw [zru (by omega) (by omega) (by omega),zrv (by omega) (by omega),zif (by simp;omega)]
  simp only [zaf,List.nil_append]
  rw [zpC _ _ (by omega),zto,e1,e2]
  simp only [zaf]
  rw [if_neg (by decide),if_neg (by decide),ix2]
  simp only [zaf]
  rw [if_neg (by rw [hpx];simp),if_neg (by simp only [decide_eq_true_eq];omega),zxV _ _ (by omega)]
  simp only [zaf]
  unfold zch
  rw [if_neg (by simp [hps]),zaP (by omega) (by omega),ih]
theorem zm2 (p:Pulse) (x:Dial):zhV 20000 p x=some true:=by
 have jt:zbk 20000 p x true=some true:=by
  unfold zbk
  rw [if_pos rfl,zlw]
  rfl
 unfold zhV
 by_cases hs:p.Times.length>40
 ·rw [if_pos (by simp;omega)];exact jt
 rw [if_neg (by simp;omega)]
 by_cases hl:x.List_.length>40
 ·rw [if_pos (by simp;omega)];exact jt
 rw [if_neg (by simp;omega)]
 by_cases hF:x.Faults.length>40
 ·rw [if_pos (by simp;omega)];exact jt
 rw [if_neg (by simp;omega),zwf _ (by omega),zaf]
 by_cases hfar:far x.Wire=true
 ·rw [if_pos hfar];exact jt
 rw [if_neg hfar,rCheck_eq _ (by omega),zaf]
 by_cases h:okW x.Wire=true
 case neg =>
  rw [Bool.not_eq_true] at h
  rw [h,if_pos (by decide)]
  exact jt
 rw [h,if_neg (by decide),zqv h _ (by omega),zaf]
 by_cases h1:(decide ((x.Faults.length:Int)<=x.Wire.Faults)&&(zkH x.Wire x.Faults&&zoS x.Wire x.Wire.Presses x.Faults))=true
 case neg =>
  rw [Bool.not_eq_true] at h1
  rw [h1]
  exact jt
 rw [h1]
 simp only [Bool.and_eq_true,decide_eq_true_eq] at h1
 obtain ⟨h2,h3,h4⟩:=h1
 obtain ⟨q,c,e,hc⟩:=zuP (⟨x.Wire.Letters,x.Wire.Numbers,p.Pitch,p.Slack,p.Gap,p.Pause,p.Sparks,p.Times⟩:Pulse) x.List_ (by show p.Times.length<=40;omega) (by omega)
 unfold zbk
 rw [if_neg (by decide),e]
 simp only [zaf]
 rcases hc with rfl | ⟨rfl,hv,h0,hcl,hlike,hsel,hl24,hq24⟩
 ·rw [if_pos (show decide ((0:Int)<1)=true by decide),if_pos (show ((0:Int)==0)=true by decide),zlw]
  rfl
 rw [if_neg (show ¬decide ((1:Int)<1)=true by decide)]
 have hL:q.Letters=x.Wire.Letters:=hlike.1
 have hN:q.Numbers=x.Wire.Numbers:=hlike.2.1
 obtain ⟨z1,z2,z3,_⟩:=Pu.zero_read hv h0 hcl
 have hone:(Pu.openR q).2=0->zfF 20000 (Pu.openR q).1=some (Pu.oneR ((Pu.openR q).1.map (·.list))):=fun e=>Pu.one_eq _ (Pu.open_none e) (Pu.openR_list (by omega)) (by omega) (by omega) (by omega)
 have hv':=Pu.valid_iff hv
 have hin:∀y,y∈x.List_->inS q y:=zpK ⟨hv'.1,hv'.2.1⟩ hcl
 rw [zif (by simp;omega),zaf,List.nil_append,zn3 q x.Faults (by omega) (by omega) hone,zaf,z1]
 have hset:zkH (zlL q) x.Faults=true:=by rw [ztx hL hN];exact h3
 have hpr:ztv q x.Faults (x.List_,0)=(x.List_.map (zh2 q x.Faults),0):=by
  unfold ztv
  rw [if_pos hv,if_pos hset,if_neg (by simp)]
 rw [hpr,if_neg (by simp)]
 unfold zdV
 rw [if_neg (by simp)]
 exact zlx p x q h hL hN (by omega) h2 h3 h4 hin (by omega) x.List_ [] 20000 rfl (by omega)
end Go.Law
