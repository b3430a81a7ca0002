/-
  Plain laws.
  Conditions: none.
-/
import Derived.Test.YtebfppngmmdfkaaMd
import Derived.Test.YtebfppngmmdfkaaPlA
set_option linter.all false
namespace Go.Law
open Go Go.AM
theorem ztl {α S R:Type} (F:Nat->Int->S->Option R) (xs:List α) (spec:List α->S->Option R) (hl:xs.length<1048576) (h0:∀m s,F (m+1) (xs.length:Int) s=spec [] s)
  (hs:∀m (i:Nat) x l s,idx xs (i:Int)=some x->(i:Int)<(xs.length:Int)->i<1048576->xs.drop (i+1)=l->(∀s',F m (w64 ((i:Int)+1)) s'=spec l s')->F (m+1) (i:Int) s=spec (x::l) s) :
  ∀(l:List α) (i m:Nat) (s:S),i<=xs.length->xs.drop i=l->l.length<m->F m (i:Int) s=spec l s:=by
 intro l
 induction l with
 | nil =>
  intro i m s hi hd hm
  obtain ⟨m,rfl⟩:∃k,m=k+1:=⟨m-1,by omega⟩
  have:i=xs.length:=by have:=List.drop_eq_nil_iff.1 hd;omega
  subst this
  exact h0 m s
 | cons x l ih =>
  intro i m s hi hd hm
  obtain ⟨m,rfl⟩:∃k,m=k+1:=⟨m-1,by omega⟩
  simp only [List.length_cons] at hm
  have hlt:i<xs.length:=by
   rcases Nat.lt_or_ge i xs.length with h | h
   ·exact h
   ·rw [List.drop_eq_nil_of_le h] at hd;cases hd
  rw [List.drop_eq_getElem_cons hlt] at hd
  injection hd with h1 h2
  refine hs m i x l s (by rw [zjt hlt,h1]) (by omega) (by omega) h2 fun s'=>?_
  rw [zaH (by omega) (by omega)]
  exact ih (i+1) m s' (by omega) h2 (by omega)
theorem zkV {α S R:Type} {F:Nat->Int->S->Option R} {xs:List α} {spec:List α->S->Option R} (hl:xs.length<1048576) {n:Nat} (hn:xs.length<n) (s:S) (h0:∀m s,F (m+1) (xs.length:Int) s=spec [] s)
  (hs:∀m (i:Nat) x l s,idx xs (i:Int)=some x->(i:Int)<(xs.length:Int)->i<1048576->xs.drop (i+1)=l->(∀s',F m (w64 ((i:Int)+1)) s'=spec l s')->F (m+1) (i:Int) s=spec (x::l) s) :
  F n 0 s=spec xs s:=ztl F xs spec hl h0 hs xs 0 n s (by omega) rfl hn
theorem zv2 {S R:Type} (F:Nat->Int->S->Option R) (b:Nat) (spec:Nat->S->Option R) (hb:b<1048576) (h0:∀m s,F (m+1) (b:Int) s=spec b s)
  (hs:∀m (i:Nat) s,i<b->(∀s',F m (w64 ((i:Int)+1)) s'=spec (i+1) s')->F (m+1) (i:Int) s=spec i s) :
  ∀(d i m:Nat) (s:S),d=b-i->i<=b->d<m->F m (i:Int) s=spec i s:=by
 intro d
 induction d with
 | zero =>
  intro i m s hd hi hm
  obtain ⟨m,rfl⟩:∃k,m=k+1:=⟨m-1,by omega⟩
  have:i=b:=by omega
  subst this
  exact h0 m s
 | succ d ih =>
  intro i m s hd hi hm
  obtain ⟨m,rfl⟩:∃k,m=k+1:=⟨m-1,by omega⟩
  refine hs m i s (by omega) fun s'=>?_
  rw [zaH (by omega) (by omega)]
  exact ih (i+1) m s' (by omega) (by omega) (by omega)
theorem zal {α β:Type} (a:α) (f:α->Option β):Option.bind (some a) f=f a:=rfl
theorem within_eq (a b c:Int):zc8 a b c=some (inR a b c):=by
 unfold zc8 zej inR
 by_cases h:b<=a<;>simp [h]
theorem Within_eq (a b c:Int):zef a b c=some (inR a b c):=by
 unfold zef zdo inR
 by_cases h:b<=a<;>simp [h]
def okB (w:Wire) (a b:Int):Bool:=inR a 0 (w.Letters-1)&&inR b 0 (w.Numbers-1)
def zdS (w:Wire):Prop:=(1<=w.Letters/\w.Letters<=5)/\(1<=w.Numbers/\w.Numbers<=5)
theorem zlH {w:Wire} (h:zdS w) (a b:Int):ze6 w a b=some (okB w a b):=by
 obtain ⟨h1,h2⟩:=h
 unfold ze6 zdM okB
 rw [zaH (by omega) (by omega),zaH (by omega) (by omega)]
 simp only [within_eq,zal]
 by_cases h:inR a 0 (w.Letters-1)=true<;>simp [h]
def okP (w:Wire) (p:WirePress):Bool:=okB w p.Letter p.Number&&inR p.Got (-1) (w.Letters*w.Numbers-1)
def okW (w:Wire):Bool:=inR w.Letters 1 5&&inR w.Numbers 1 5&&inR w.Faults 0 3&&decide (w.Presses.length<=8)&&w.Presses.all (okP w)
theorem zmu {w:Wire}:okW w=true↔zdS w/\(0<=w.Faults/\w.Faults<=3)/\w.Presses.length<=8/\∀p,p∈w.Presses->okP w p=true:=by
 simp only [okW,zdS,Bool.and_eq_true,zcQ,decide_eq_true_eq,List.all_eq_true]
 constructor
 ·rintro ⟨⟨⟨⟨a,b⟩,c⟩,d⟩,e⟩;exact ⟨⟨a,b⟩,c,d,e⟩
 ·rintro ⟨⟨a,b⟩,c,d,e⟩;exact ⟨⟨⟨⟨a,b⟩,c⟩,d⟩,e⟩
theorem zqP {w:Wire} (h:zdS w):0<=w.Letters*w.Numbers/\w.Letters*w.Numbers<=25:=by
 obtain ⟨h1,h2⟩:=h
 refine ⟨Int.mul_nonneg (by omega) (by omega),?_⟩
 have:=Int.mul_le_mul h1.2 h2.2 (by omega) (by omega)
 simpa using this
theorem zv3 {w:Wire} (h:zdS w) (p:WirePress):zdT p w=some (!okP w p):=by
 have hm:=zqP h
 unfold zdT zdt okP
 rw [zlH h,zal,zaH (x:=w.Letters*w.Numbers) (by omega) (by omega),zaH (by omega) (by omega),within_eq,zal]
 by_cases hb:okB w p.Letter p.Number=true<;>simp [hb]
theorem zna {n:Nat} (f:WirePress->Option Bool) (g:WirePress->Bool) (xs:List WirePress) (hf:∀x,x∈xs->f x=some (g x)) (hl:xs.length<1048576) (hn:xs.length<n) :
  za8 n (fun x (_:Unit)=>(f x).map fun y=>(y,())) xs ()=some (xs.any g,()):=by
 have key:∀(l:List WirePress) (i m:Nat) (s:Unit),i<=xs.length->xs.drop i=l->l.length<m->(zax xs (fun x (_:Unit)=>(f x).map fun y=>(y,())) m (i:Int) s).map (fun r=>decide (r.1≥0))=some (l.any g):=by
  intro l i m s h1 h2 h3
  refine ztl (fun m i s=>(zax xs (fun x (_:Unit)=>(f x).map fun y=>(y,())) m i s).map (fun r=>decide (r.1≥0))) xs (fun l _=>some (l.any g)) hl (fun m s=>?_) (fun m i x l s hx hi hi' hd hrec=>?_) l i m s h1 h2 h3
  ·simp [zax,zbi,zbt]
  ·have hmem:x∈xs:=by
    unfold idx at hx
    rw [if_pos (by omega)] at hx
    exact List.mem_of_getElem? hx
   simp only [zax,zbi]
   rw [if_pos (by simpa using hi),hx,zal,hf x hmem]
   simp only [Option.map_some,zal]
   by_cases hg:g x=true
   ·rw [if_pos hg]
    simp [hg]
   ·rw [if_neg hg]
    have:=hrec ()
    rw [this]
    simp [hg]
 have h:=key xs 0 n () (by omega) rfl hn
 unfold za8 zcA
 change Option.map _ (zax xs _ n 0 ())=_ at h
 cases hq:zax xs (fun x (_:Unit)=>(f x).map fun y=>(y,())) n 0 () with
 | none=>rw [hq] at h;cases h
 | some r =>
  rw [hq] at h
  simp only [Option.map_some,Option.some.injEq] at h
  simp only [zal]
  rw [←h]
theorem Check_eq {n:Nat} (w:Wire) (hn:100<=n):zgE n w=some (cond (okW w) 0 110):=by
 unfold zgE
 simp only [within_eq,zal]
 by_cases h1:inR w.Letters 1 5=true
 ·rw [if_neg (by simp [h1])]
  by_cases h2:inR w.Numbers 1 5=true
  ·rw [if_neg (by simp [h2])]
   by_cases h3:inR w.Faults 0 3=true
   ·rw [if_neg (by simp [h3])]
    by_cases h4:w.Presses.length<=8
    ·rw [if_neg (by simp;omega)]
     have hs:zdS w:=⟨zcQ.1 h1,zcQ.1 h2⟩
     rw [zna (fun x=>zdT x w) (fun p=>!okP w p) w.Presses (fun x _=>zv3 hs x) (by omega) (by omega),zal]
     unfold zbA okW
     simp only [h1,h2,h3,h4,decide_true,Bool.true_and]
     by_cases h5:w.Presses.all (okP w)=true
     ·rw [if_neg]
      ·simp [h5]
      ·simp only [List.any_eq_true,not_exists,not_and]
       intro x hx
       have:=List.all_eq_true.1 h5 x hx
       simp [this]
     ·rw [if_pos]
      ·simp [h5]
      ·simp only [List.any_eq_true]
       simp only [List.all_eq_true,Classical.not_forall] at h5
       obtain ⟨x,hx,h⟩:=h5
       exact ⟨x,hx,by simpa using h⟩
    ·rw [if_pos (by simp;omega)]
     simp [zbA,okW,h4]
   ·rw [if_pos (by simpa using h3)]
    simp [zbA,okW,h3]
  ·rw [if_pos (by simpa using h2)]
   simp [zbA,okW,h2]
 ·rw [if_pos (by simpa using h1)]
  simp [zbA,okW,h1]
theorem SameInts_eq {n:Nat} (a b:List Int) (hs:a.length<1048576) (hn:a.length<n):zbN n a b=some (decide (a=b)):=by
 unfold zbN
 by_cases h:a.length=b.length
 ·rw [if_neg (by simp [h])]
  have:=zkV (F:=fun m i (_:Unit)=>zba a b m i) (xs:=a.zip b) (spec:=fun l _=>some (decide (∀q,q∈l->q.1=q.2))) (n:=n) (by simp [←h];omega) (by simp [←h];omega) () (fun m s=>by simp [zba,zch,zdp,←h]) (fun m i x l s hx hi hi' hd hrec=>by
   have hi1:i<a.length:=by simp [←h] at hi;exact hi
   have hi2:i<b.length:=by omega
   have hx':x=(a[i],b[i]):=by
    rw [zjt (by simp;omega)] at hx
    injection hx with hx
    rw [←hx]
    simp
   simp only [zba,zch]
   rw [if_pos (by simp;omega),zjt hi1,zjt hi2,zal,zal]
   subst hx'
   by_cases hb:a[i]=b[i]
   ·rw [if_neg (by simp [hb]),hrec ()]
    simp [hb]
   ·rw [if_pos (by simp [hb])]
    simp [hb])
  rw [show zba a b n 0=_ from this]
  congr 1
  apply decide_eq_decide.2
  constructor
  ·intro hq
   apply List.ext_getElem h
   intro i h1 h2
   have:=hq (a[i],b[i]) (by
    have h3:i<(a.zip b).length:=by simp;omega
    have:(a.zip b)[i]=(a[i],b[i]):=by simp
    rw [←this]
    exact List.getElem_mem h3)
   exact this
  ·rintro rfl q hq
   obtain ⟨i,hi,rfl⟩:=List.getElem_of_mem hq
   simp
 ·rw [if_pos (by simp;omega)]
  have:a≠b:=fun e=>h (by rw [e])
  simp [this]
def far (w:Wire):Bool:=decide (w.Presses.length>40) || okW w&&(decide (max w.Letters w.Numbers>4) || decide (w.Faults>2))
def zr4 (kd:Int) (m:Nat):List WireFault:=(List.range m).map fun a=>(⟨kd,(a:Nat),0⟩:WireFault)
def zoE (kd:Int) (m:Nat):List WireFault:=((List.range m).map fun a=>(List.range' (a+1) (m-(a+1))).map fun b=>(⟨kd,(a:Nat),(b:Nat)⟩:WireFault)).flatten
def ziA (w:Wire):List WireFault:=zr4 1 w.Letters.toNat++(zr4 2 w.Numbers.toNat++(zoE 3 w.Letters.toNat++zoE 4 w.Numbers.toNat))
set_option maxRecDepth 100000 in
theorem open_eq {w:Wire} (h:zdS w):zil 20000 w=some (some ⟨w,ziA w⟩):=by
 obtain ⟨L,N,p,f⟩:=w
 obtain ⟨⟨h1,h2⟩,h3,h4⟩:=h
 simp only at h1 h2 h3 h4
 have hL:L=1\/L=2\/L=3\/L=4\/L=5:=by omega
 have hN:N=1\/N=2\/N=3\/N=4\/N=5:=by omega
 rcases hL with rfl | rfl | rfl | rfl | rfl<;>rcases hN with rfl | rfl | rfl | rfl | rfl<;>(show _=_;kernel_rfl)
set_option maxRecDepth 100000 in
theorem znb {w:Wire} (h:zdS w):zgG 20000 w=some (ziA w):=by
 obtain ⟨L,N,p,f⟩:=w
 obtain ⟨⟨h1,h2⟩,h3,h4⟩:=h
 simp only at h1 h2 h3 h4
 have hL:L=1\/L=2\/L=3\/L=4\/L=5:=by omega
 have hN:N=1\/N=2\/N=3\/N=4\/N=5:=by omega
 rcases hL with rfl | rfl | rfl | rfl | rfl<;>rcases hN with rfl | rfl | rfl | rfl | rfl<;>(show _=_;kernel_rfl)
def okF (w:Wire) (f:WireFault):Prop:=(f.Kind=1/\(0<=f.A/\f.A<w.Letters)/\f.B=0)\/(f.Kind=2/\(0<=f.A/\f.A<w.Numbers)/\f.B=0)\/(f.Kind=3/\0<=f.A/\f.A<f.B/\f.B<w.Letters)\/(f.Kind=4/\0<=f.A/\f.A<f.B/\f.B<w.Numbers)
theorem zr5 {kd:Int} {m:Nat} {f:WireFault}:f∈zr4 kd m↔f.Kind=kd/\(0<=f.A/\f.A<m)/\f.B=0:=by
 unfold zr4
 rw [List.mem_map]
 constructor
 ·rintro ⟨a,ha,rfl⟩
  have:=List.mem_range.1 ha
  exact ⟨rfl,⟨by simp,by simp;omega⟩,rfl⟩
 ·rintro ⟨h1,⟨h2,h3⟩,h4⟩
  refine ⟨f.A.toNat,List.mem_range.2 (by omega),?_⟩
  obtain ⟨k,a,b⟩:=f
  simp only at *
  subst h1 h4
  congr 1
  omega
theorem zqQ {kd:Int} {m:Nat} {f:WireFault}:f∈zoE kd m↔f.Kind=kd/\0<=f.A/\f.A<f.B/\f.B<m:=by
 unfold zoE
 rw [List.mem_flatten]
 constructor
 ·rintro ⟨l,hl,hf⟩
  obtain ⟨a,ha,rfl⟩:=List.mem_map.1 hl
  obtain ⟨b,hb,rfl⟩:=List.mem_map.1 hf
  have h1:=List.mem_range.1 ha
  have h2:=List.mem_range'_1.1 hb
  exact ⟨rfl,by simp,by simp;omega,by simp;omega⟩
 ·rintro ⟨h1,h2,h3,h4⟩
  refine ⟨_,List.mem_map.2 ⟨f.A.toNat,List.mem_range.2 (by omega),rfl⟩,List.mem_map.2 ⟨f.B.toNat,List.mem_range'_1.2 (by omega),?_⟩⟩
  obtain ⟨k,a,b⟩:=f
  simp only at *
  subst h1
  congr 1
  ·omega
  ·omega
theorem ztm {w:Wire} (hw:zdS w) {f:WireFault}:f∈ziA w↔okF w f:=by
 obtain ⟨h1,h2⟩:=hw
 unfold ziA okF
 simp only [List.mem_append,zr5,zqQ]
 rw [show ((w.Letters.toNat:Nat):Int)=w.Letters by omega,show ((w.Numbers.toNat:Nat):Int)=w.Numbers by omega]
theorem zqR {w:Wire} (h:zdS w):(ziA w).length<=30:=by
 obtain ⟨L,N,p,f⟩:=w
 obtain ⟨⟨h1,h2⟩,h3,h4⟩:=h
 simp only at h1 h2 h3 h4
 have hL:L=1\/L=2\/L=3\/L=4\/L=5:=by omega
 have hN:N=1\/N=2\/N=3\/N=4\/N=5:=by omega
 rcases hL with rfl | rfl | rfl | rfl | rfl<;>rcases hN with rfl | rfl | rfl | rfl | rfl<;>exact of_decide_eq_true (by kernel_rfl)
def clash (f g:WireFault):Bool:=f.Kind==g.Kind&&(decide (f.Kind≥3)&&(f.A==g.A || (f.A==g.B || (f.B==g.A || f.B==g.B))))
theorem zjC (f g:WireFault):clash f g=clash g f:=by
 rw [Bool.eq_iff_iff]
 simp only [clash,Bool.and_eq_true,Bool.or_eq_true,beq_iff_eq,decide_eq_true_eq]
 omega
theorem zoF (f g:WireFault):zht f g=some (clash f g):=by
 unfold zht zcl clash
 by_cases h1:f.Kind=g.Kind
 ·rw [if_pos (by simpa using h1)]
  by_cases h2:f.Kind≥3
  ·rw [if_pos (by simpa using h2)]
   by_cases h3:f.A=g.A
   ·simp [h1,h3];omega
   ·by_cases h4:f.A=g.B
    ·simp [h1,h4];omega
    ·by_cases h5:f.B=g.A
     ·simp [h1,h5,h3,h4];omega
     ·have h3':g.Kind≥3:=by omega
      simp [h1,h5,h3',show (f.A==g.A)=false by simpa using h3,show (f.A==g.B)=false by simpa using h4,show (f.B==g.A)=false by simpa using h5]
  ·rw [if_neg (by simpa using h2)]
   simp [h2]
 ·rw [if_neg (by simpa using h1)]
  simp [h1]
theorem zqS (f g:WireFault):ziI f g=some (clash f g):=by
 rw [←zoF]
 rfl
theorem zqT {n:Nat} (f:WireFault->Option Bool) (g:WireFault->Bool) (xs:List WireFault) (hf:∀x,x∈xs->f x=some (g x)) (hl:xs.length<1048576) (hn:xs.length<n) :
  zaS n (fun x (_:Unit)=>(f x).map fun y=>(y,())) xs ()=some (xs.any g,()):=by
 have key:∀(l:List WireFault) (i m:Nat) (s:Unit),i<=xs.length->xs.drop i=l->l.length<m->(zay xs (fun x (_:Unit)=>(f x).map fun y=>(y,())) m (i:Int) s).map (fun r=>decide (r.1≥0))=some (l.any g):=by
  intro l i m s h1 h2 h3
  refine ztl (fun m i s=>(zay xs (fun x (_:Unit)=>(f x).map fun y=>(y,())) m i s).map (fun r=>decide (r.1≥0))) xs (fun l _=>some (l.any g)) hl (fun m s=>?_) (fun m i x l s hx hi hi' hd hrec=>?_) l i m s h1 h2 h3
  ·simp [zay,zbj,zbu]
  ·have hmem:x∈xs:=by
    unfold idx at hx
    rw [if_pos (by omega)] at hx
    exact List.mem_of_getElem? hx
   simp only [zay,zbj]
   rw [if_pos (by simpa using hi),hx,zal,hf x hmem]
   simp only [Option.map_some,zal]
   by_cases hg:g x=true
   ·rw [if_pos hg]
    simp [hg]
   ·rw [if_neg hg]
    have:=hrec ()
    rw [this]
    simp [hg]
 have h:=key xs 0 n () (by omega) rfl hn
 unfold zaS zcB
 change Option.map _ (zay xs _ n 0 ())=_ at h
 cases hq:zay xs (fun x (_:Unit)=>(f x).map fun y=>(y,())) n 0 () with
 | none=>rw [hq] at h;cases h
 | some r =>
  rw [hq] at h
  simp only [Option.map_some,Option.some.injEq] at h
  simp only [zal]
  rw [←h]
def zwc (G:List WireFault->List WireFault->List (List WireFault)) (first:List WireFault):List WireFault->List (List WireFault)
 | []=>[]
 | x::r=>(if first.any (clash x) then [] else G (first++[x]) r)++zwc G first r
def gs:Nat->List WireFault->List WireFault->List (List WireFault)
 | 0,first,_=>[first]
 | k+1,first,rest=>first::zwc (gs k) first rest
def yieldAll {α S:Type} (aF:α->S->Option (Bool×S)):List α->S->Option (Bool×S)
 | [],s=>some (true,s)
 | x::l,s=>(aF x s).bind fun r=>if r.1=true then yieldAll aF l r.2 else some (false,r.2)
theorem yieldAll_append {α S:Type} (aF:α->S->Option (Bool×S)):∀(l k:List α) (s:S),yieldAll aF (l++k) s=(yieldAll aF l s).bind fun r=>if r.1=true then yieldAll aF k r.2 else some (false,r.2)
 | [],k,s=>by simp [yieldAll]
 | x::l,k,s=>by
  simp only [List.cons_append,yieldAll]
  cases h:aF x s with
  | none=>rfl
  | some r =>
   simp only [Option.bind_some]
   cases hr:r.1 with
   | true=>simp only [if_true];exact yieldAll_append aF l k r.2
   | false=>simp
def xf (f:WireFault) (k:Int->Int):Int->Int:=fun i=>if i=f.B then f.A else if i=f.A then f.B else k i
def crs (kd:Int):List WireFault->(Int->Int)->Int->Int
 | [],k=>k
 | f::l,k=>crs kd l (if f.Kind=kd then xf f k else k)
def df (f:WireFault) (k:Int->Int):Int->Int:=fun i=>if i=f.A then -1 else k i
def ded (kd:Int):List WireFault->(Int->Int)->Int->Int
 | [],k=>k
 | f::l,k=>ded kd l (if f.Kind=kd then df f k else k)
def inF (f:WireFault):Prop:=(0<=f.A/\f.A<5)/\(0<=f.B/\f.B<5)
theorem zoG {w:Wire} (hw:zdS w) {f:WireFault} (h:okF w f):inF f:=by
 obtain ⟨h1,h2⟩:=hw
 unfold okF at h
 unfold inF
 omega
theorem ztQ {a:Int} (h:0<=a/\a<5):a=0\/a=1\/a=2\/a=3\/a=4:=by omega
theorem zmv (k:Int->Int) {a:Int} (h:0<=a/\a<5):idx [k 0,k 1,k 2,k 3,k 4] a=some (k a):=by
 rcases ztQ h with rfl | rfl | rfl | rfl | rfl<;>rfl
theorem zqU (k:Int->Int) {a:Int} (v:Int) (h:0<=a/\a<5):∃l,zsX [k 0,k 1,k 2,k 3,k 4] a v=some l/\∀j:Nat,j<5->l.getD j 0=if (j:Int)=a then v else k j:=by
 rcases ztQ h with rfl | rfl | rfl | rfl | rfl<;>refine ⟨_,rfl,fun j hj=>?_⟩<;>(have:j=0\/j=1\/j=2\/j=3\/j=4:=by omega)<;>rcases this with rfl | rfl | rfl | rfl | rfl<;>rfl
theorem zv4 (k m:Int->Int) (f:WireFault) (h:inF f):∃l,zdb [k 0,k 1,k 2,k 3,k 4,m 0,m 1,m 2,m 3,m 4] 0 f=some l/\(∀j:Nat,j<5->l.getD j 0=xf f k j)/\∀j:Nat,j<5->l.getD (5+j) 0=m j:=by
 obtain ⟨kd,a,b⟩:=f
 obtain ⟨ha,hb⟩:=h
 simp only at ha hb
 unfold zdb
 rw [if_pos ⟨ha,hb,by simp⟩]
 refine ⟨_,rfl,fun j hj=>?_,fun j hj=>?_⟩<;>(have hj':j=0\/j=1\/j=2\/j=3\/j=4:=by omega)<;>rcases ztQ ha with rfl | rfl | rfl | rfl | rfl<;>rcases ztQ hb with rfl | rfl | rfl | rfl | rfl<;>rcases hj' with rfl | rfl | rfl | rfl | rfl<;>rfl
theorem zv5 (k m:Int->Int) (f:WireFault) (h:inF f):∃l,zdb [k 0,k 1,k 2,k 3,k 4,m 0,m 1,m 2,m 3,m 4] 5 f=some l/\(∀j:Nat,j<5->l.getD j 0=k j)/\∀j:Nat,j<5->l.getD (5+j) 0=xf f m j:=by
 obtain ⟨kd,a,b⟩:=f
 obtain ⟨ha,hb⟩:=h
 simp only at ha hb
 unfold zdb
 rw [if_pos ⟨ha,hb,by simp⟩]
 refine ⟨_,rfl,fun j hj=>?_,fun j hj=>?_⟩<;>(have hj':j=0\/j=1\/j=2\/j=3\/j=4:=by omega)<;>rcases ztQ ha with rfl | rfl | rfl | rfl | rfl<;>rcases ztQ hb with rfl | rfl | rfl | rfl | rfl<;>rcases hj' with rfl | rfl | rfl | rfl | rfl<;>rfl
def mkP (k m:Int->Int):Panel_:=⟨⟨k 0,k 1,k 2,k 3,k 4⟩,⟨m 0,m 1,m 2,m 3,m 4⟩⟩
theorem zqV {α:Type} {xs:List α} {i:Nat} {x:α} (h:idx xs (i:Int)=some x):x∈xs:=by
 unfold idx at h
 rw [if_pos (by omega)] at h
 exact List.mem_of_getElem? h
theorem ztn {n:Nat} (l:List WireFault) (hl:∀f,f∈l->inF f) (hs:l.length<1048576) (hn:l.length<n) (k m:Int->Int) :
  ze9 n l (k 0) (k 1) (k 2) (k 3) (k 4) (m 0) (m 1) (m 2) (m 3) (m 4)=some (mkP (ded 1 l k) (ded 2 l m)):=by
 unfold ze9
 refine zkV (F:=fun q i (s:(Int->Int)×(Int->Int))=>zcI l q i (s.1 0) (s.1 1) (s.1 2) (s.1 3) (s.1 4) (s.2 0) (s.2 1) (s.2 2) (s.2 3) (s.2 4)) (xs:=l) (spec:=fun l s=>some (mkP (ded 1 l s.1) (ded 2 l s.2))) hs hn (k,m) (fun q s=>?_) (fun q i f t s hx hi hi' hd hrec=>?_)
 ·simp [zcI,ze8,zgj,mkP,ded]
 ·have hf:=hl f (zqV hx)
  simp only [zcI,ze8]
  rw [if_pos (by simpa using hi),hx,zal]
  by_cases h1:f.Kind=1
  ·rw [if_pos (by simpa using h1),zmv s.1 hf.1,zal]
   obtain ⟨u,hu,hg⟩:=zqU s.1 (-1) hf.1
   rw [hu,zal]
   simp only [zdc]
   rw [hg 0 (by omega),hg 1 (by omega),hg 2 (by omega),hg 3 (by omega),hg 4 (by omega)]
   have:=hrec (df f s.1,s.2)
   simp only [ded,if_pos h1,if_neg (show ¬f.Kind=2 by omega)]
   exact this
  ·rw [if_neg (by simpa using h1)]
   by_cases h2:f.Kind=2
   ·rw [if_pos (by simpa using h2),zmv s.2 hf.1,zal]
    obtain ⟨u,hu,hg⟩:=zqU s.2 (-1) hf.1
    rw [hu,zal]
    simp only [zdc]
    rw [hg 0 (by omega),hg 1 (by omega),hg 2 (by omega),hg 3 (by omega),hg 4 (by omega)]
    have:=hrec (s.1,df f s.2)
    simp only [ded,if_pos h2,if_neg h1]
    exact this
   ·rw [if_neg (by simpa using h2)]
    simp only [zdc,ded,if_neg h1,if_neg h2]
    exact hrec s
theorem zr6 {n:Nat} (l:List WireFault) (hl:∀f,f∈l->inF f) (hs:l.length<1048576) (hn:l.length<n) (k m:Int->Int) :
  zew n l (k 0) (k 1) (k 2) (k 3) (k 4) (m 0) (m 1) (m 2) (m 3) (m 4)=some (mkP (ded 1 l (crs 3 l k)) (ded 2 l (crs 4 l m))):=by
 unfold zew
 refine zkV (F:=fun q i (s:(Int->Int)×(Int->Int))=>zcJ n l q i (s.1 0) (s.1 1) (s.1 2) (s.1 3) (s.1 4) (s.2 0) (s.2 1) (s.2 2) (s.2 3) (s.2 4)) (xs:=l) (spec:=fun t s=>some (mkP (ded 1 l (crs 3 t s.1)) (ded 2 l (crs 4 t s.2)))) hs hn (k,m) (fun q s=>?_) (fun q i f t s hx hi hi' hd hrec=>?_)
 ·simp only [zcJ,zfa]
  rw [if_neg (by simp)]
  exact ztn l hl hs hn s.1 s.2
 ·have hf:=hl f (zqV hx)
  simp only [zcJ,zfa]
  rw [if_pos (by simpa using hi),hx,zal]
  by_cases h1:f.Kind=3
  ·obtain ⟨u,hu,hg,hg'⟩:=zv4 s.1 s.2 f hf
   rw [if_pos (by simpa using h1),hu,zal]
   simp only [zdd]
   rw [hg 0 (by omega),hg 1 (by omega),hg 2 (by omega),hg 3 (by omega),hg 4 (by omega),show u.getD 5 0=s.2 0 from hg' 0 (by omega),show u.getD 6 0=s.2 1 from hg' 1 (by omega),show u.getD 7 0=s.2 2 from hg' 2 (by omega),show u.getD 8 0=s.2 3 from hg' 3 (by omega),show u.getD 9 0=s.2 4 from hg' 4 (by omega)]
   have:=hrec (xf f s.1,s.2)
   simp only [crs,if_pos h1,if_neg (show ¬f.Kind=4 by omega)]
   exact this
  ·rw [if_neg (by simpa using h1)]
   by_cases h2:f.Kind=4
   ·obtain ⟨u,hu,hg,hg'⟩:=zv5 s.1 s.2 f hf
    rw [if_pos (by simpa using h2),hu,zal]
    simp only [zdd]
    rw [hg 0 (by omega),hg 1 (by omega),hg 2 (by omega),hg 3 (by omega),hg 4 (by omega),show u.getD 5 0=xf f s.2 0 from hg' 0 (by omega),show u.getD 6 0=xf f s.2 1 from hg' 1 (by omega),show u.getD 7 0=xf f s.2 2 from hg' 2 (by omega),show u.getD 8 0=xf f s.2 3 from hg' 3 (by omega),show u.getD 9 0=xf f s.2 4 from hg' 4 (by omega)]
    have:=hrec (s.1,xf f s.2)
    simp only [crs,if_pos h2,if_neg h1]
    exact this
   ·rw [if_neg (by simpa using h2)]
    simp only [zdd,crs,if_neg h1,if_neg h2]
    exact hrec s
theorem zqW (l:List WireFault):zhc 20000 l=zew 20000 l 0 1 2 3 4 0 1 2 3 4:=by
 show _=_
 kernel_rfl
theorem zqX (l:List WireFault) (hl:∀f,f∈l->inF f) (hs:l.length<20000):zhc 20000 l=some (mkP (ded 1 l (crs 3 l fun i=>i)) (ded 2 l (crs 4 l fun i=>i))):=by
 rw [zqW]
 exact zr6 l hl (by omega) hs (fun i=>i) (fun i=>i)
def zr7 (w:Wire) (l:List WireFault) (a b:Int):Int :=
 if ded 1 l (crs 3 l fun i=>i) a<0\/ded 2 l (crs 4 l fun i=>i) b<0 then -1 else ded 1 l (crs 3 l fun i=>i) a*w.Numbers+ded 2 l (crs 4 l fun i=>i) b
theorem zqY (kd:Int):∀(l:List WireFault) (k:Int->Int),(∀f,f∈l->inF f)->(∀i,0<=i/\i<5->0<=k i/\k i<5)->∀i,0<=i/\i<5->0<=crs kd l k i/\crs kd l k i<5
 | [],k,_,hk,i,hi=>hk i hi
 | f::l,k,hl,hk,i,hi=>by
  refine zqY kd l _ (fun g hg=>hl g (by simp [hg])) (fun j hj=>?_) i hi
  have hf:=hl f (by simp)
  obtain ⟨h1,h2⟩:=hf
  split
  ·unfold xf
   split
   ·exact h1
   ·split
    ·exact h2
    ·exact hk j hj
  ·exact hk j hj
theorem zqZ (kd:Int):∀(l:List WireFault) (k:Int->Int) (i:Int),ded kd l k i=-1\/ded kd l k i=k i
 | [],k,i=>.inr rfl
 | f::l,k,i=>by
  simp only [ded]
  rcases zqZ kd l (if f.Kind=kd then df f k else k) i with h | h
  ·exact .inl h
  ·rw [h]
   split
   ·unfold df
    split
    ·exact .inl rfl
    ·exact .inr rfl
   ·exact .inr rfl
theorem zoH {w:Wire} {all:List WireFault} (hw:zdS w) (l:List WireFault) (hl:∀f,f∈l->inF f) {a b:Int} (ha:0<=a/\a<5) (hb:0<=b/\b<5) :
  zde (some ⟨w,all⟩) (mkP (ded 1 l (crs 3 l fun i=>i)) (ded 2 l (crs 4 l fun i=>i))) a b=some (zr7 w l a b):=by
 obtain ⟨hw1,hw2⟩:=hw
 unfold zde mkP
 simp only
 rw [zmv _ ha,zal,zmv _ hb,zal]
 unfold zr7 zct
 have ba:=zqZ 1 l (crs 3 l fun i=>i) a
 have bb:=zqZ 2 l (crs 4 l fun i=>i) b
 have ca:=zqY 3 l (fun i=>i) hl (fun i h=>h) a ha
 have cb:=zqY 4 l (fun i=>i) hl (fun i h=>h) b hb
 generalize ded 1 l (crs 3 l fun i=>i) a=x at *
 generalize ded 2 l (crs 4 l fun i=>i) b=y at *
 by_cases h1:x<0
 ·rw [if_pos (by simpa using h1),if_pos rfl,if_pos (.inl h1)]
 ·rw [if_neg (by simpa using h1)]
  by_cases h2:y<0
  ·rw [if_pos (by simpa using h2),if_pos (.inr h2)]
  ·rw [if_neg (by simpa using h2),if_neg (by omega),zal]
   have hx:0<=x/\x<5:=by omega
   have hm:0<=x*w.Numbers/\x*w.Numbers<=25:=by
    refine ⟨Int.mul_nonneg (by omega) (by omega),?_⟩
    have:=Int.mul_le_mul (show x<=5 by omega) hw2.2 (by omega) (by omega)
    simpa using this
   rw [zaH (x:=x*w.Numbers) (by omega) (by omega),zaH (by omega) (by omega)]
def other (kd:Int):List WireFault->Int->Int
 | [],b=>b
 | f::l,b=>if f.Kind=kd then (if f.A=b then f.B else if f.B=b then f.A else other kd l b) else other kd l b
def zli (w:Wire) (l:List WireFault) (a b:Int):Int :=
 if (⟨1,a,0⟩:WireFault)∈l\/(⟨2,b,0⟩:WireFault)∈l then -1 else other 3 l a*w.Numbers+other 4 l b
theorem zps {n:Nat} (l:List WireFault) (f:WireFault) (hs:l.length<1048576) (hn:l.length<n):(zek n l f).map (fun r=>decide (r≥0))=some (decide (f∈l)):=by
 unfold zek
 refine zkV (F:=fun q i (_:Unit)=>(zbZ l f q i).map (fun r=>decide (r≥0))) (xs:=l) (spec:=fun t _=>some (decide (f∈t))) hs hn () (fun q s=>?_) (fun q i g t s hx hi hi' hd hrec=>?_)
 ·simp [zbZ,zc5,zeE]
 ·simp only [zbZ,zc5]
  rw [if_pos (by simpa using hi),hx,zal]
  by_cases hg:g=f
  ·subst hg
   simp
  ·rw [if_neg (by
    obtain ⟨u1,u2,u3⟩:=g
    obtain ⟨v1,v2,v3⟩:=f
    simpa using hg),hrec ()]
   have:f≠g:=fun e=>hg e.symm
   simp [this]
theorem zsF {n:Nat} (l:List WireFault) (f:WireFault) (hs:l.length<1048576) (hn:l.length<n):zh7 n l f=some (decide (f∈l)):=by
 have:=zps l f hs hn
 unfold zh7
 cases h:zek n l f with
 | none=>rw [h] at this;cases this
 | some r=>rw [h] at this;simpa using this
theorem zoI {n:Nat} (l:List WireFault) (kd b:Int) (hs:l.length<1048576) (hn:l.length<n):zgI n l kd b=some (other kd l b):=by
 unfold zgI
 refine zkV (F:=fun q i (_:Unit)=>zco l kd b q i) (xs:=l) (spec:=fun t _=>some (other kd t b)) hs hn () (fun q s=>?_) (fun q i g t s hx hi hi' hd hrec=>?_)
 ·simp [zco,zeR,zfL,other]
 ·simp only [zco,zeR]
  rw [if_pos (by simpa using hi),hx,zal]
  simp only [other,zeI]
  by_cases h1:g.Kind=kd
  ·rw [if_pos (by simpa using h1),if_pos h1]
   by_cases h2:g.A=b
   ·rw [if_pos (by simpa using h2),if_pos h2]
   ·rw [if_neg (by simpa using h2),if_neg h2]
    by_cases h3:g.B=b
    ·rw [if_pos (by simpa using h3),if_pos h3]
    ·rw [if_neg (by simpa using h3),if_neg h3]
     exact hrec ()
  ·rw [if_neg (by simpa using h1),if_neg h1]
   exact hrec ()
theorem zjf (kd:Int):∀(l:List WireFault) (b:Int),(∀f,f∈l->inF f)->0<=b/\b<5->0<=other kd l b/\other kd l b<5
 | [],b,_,hb=>hb
 | f::l,b,hl,hb=>by
  obtain ⟨h1,h2⟩:=hl f (by simp)
  have:=zjf kd l b (fun g hg=>hl g (by simp [hg])) hb
  simp only [other]
  split
  ·split
   ·exact h2
   ·split
    ·exact h1
    ·exact this
  ·exact this
theorem zpt {n:Nat} {w:Wire} (hw:zdS w) (l:List WireFault) (hl:∀f,f∈l->inF f) (hs:l.length<1048576) (hn:l.length<n) {a b:Int} (ha:0<=a/\a<5) (hb:0<=b/\b<5):zgo n w l a b=some (zli w l a b):=by
 obtain ⟨hw1,hw2⟩:=hw
 unfold zgo zdP zli
 rw [zsF l _ hs hn,zal,zsF l _ hs hn]
 by_cases h1:(⟨1,a,0⟩:WireFault)∈l
 ·simp [h1]
 ·rw [if_neg (by simpa using h1),zal]
  by_cases h2:(⟨2,b,0⟩:WireFault)∈l
  ·simp [h2]
  ·rw [if_neg (by simpa using h2),if_neg (by simp [h1,h2]),zoI l 3 a hs hn,zal,zoI l 4 b hs hn,zal]
   have hx:=zjf 3 l a hl ha
   have hy:=zjf 4 l b hl hb
   have hm:0<=other 3 l a*w.Numbers/\other 3 l a*w.Numbers<=25:=by
    refine ⟨Int.mul_nonneg (by omega) (by omega),?_⟩
    have:=Int.mul_le_mul (show other 3 l a<=5 by omega) hw2.2 (by omega) (by omega)
    simpa using this
   rw [zaH (x:=other 3 l a*w.Numbers) (by omega) (by omega),zaH (by omega) (by omega)]
def zjD (l:List WireFault):Prop:=l.Pairwise fun f g=>clash f g=false
theorem zn1 {f g:WireFault} (hk:f.Kind=g.Kind) (h3:f.Kind≥3) (h:clash f g=false):f.A≠g.A/\f.A≠g.B/\f.B≠g.A/\f.B≠g.B:=by
 have h':¬clash f g=true:=by simp [h]
 simp only [clash,Bool.and_eq_true,Bool.or_eq_true,beq_iff_eq,decide_eq_true_eq] at h'
 omega
def touch (kd:Int) (l:List WireFault) (i:Int):Prop:=∃f,f∈l/\f.Kind=kd/\(f.A=i\/f.B=i)
theorem zkW {kd:Int} (h3:kd≥3):∀(l:List WireFault) (k:Int->Int) (i:Int),zjD l->(∀f,f∈l->f.Kind=kd->f.A<f.B)->(touch kd l i->crs kd l k i=other kd l i)/\(¬touch kd l i->crs kd l k i=k i/\other kd l i=i)
 | [],k,i,_,_=>⟨fun ⟨f,hf,_⟩=>by simp at hf,fun _=>⟨rfl,rfl⟩⟩
 | f::l,k,i,hc,hlt=>by
  obtain ⟨hc1,hc2⟩:=List.pairwise_cons.1 hc
  by_cases hk:f.Kind=kd
  ·obtain ⟨q1,q2⟩:=zkW h3 l (xf f k) i hc2 fun g hg=>hlt g (by simp [hg])
   simp only [crs,other,if_pos hk]
   by_cases hi:f.A=i\/f.B=i
   ·have hne:¬touch kd l i:=by
     rintro ⟨g,hg,hgk,h⟩
     have:=zn1 (hk.trans hgk.symm) (by omega) (hc1 g hg)
     omega
    refine ⟨fun _=>?_,fun h=>(h ⟨f,by simp,hk,hi⟩).elim⟩
    have hlt':=hlt f (by simp) hk
    rw [(q2 hne).1]
    unfold xf
    rcases hi with hA | hB
    ·rw [if_neg (by omega),if_pos hA.symm,if_pos hA]
    ·rw [if_pos hB.symm,if_neg (by omega),if_pos hB]
   ·have hi1:f.A≠i:=fun e=>hi (.inl e)
    have hi2:f.B≠i:=fun e=>hi (.inr e)
    rw [if_neg hi1,if_neg hi2]
    refine ⟨fun ⟨g,hg,hgk,h⟩=>?_,fun hn=>?_⟩
    ·rcases List.mem_cons.1 hg with e | hg
     ·subst e;exact (hi h).elim
     ·exact q1 ⟨g,hg,hgk,h⟩
    ·obtain ⟨e1,e2⟩:=q2 fun ⟨g,hg,hgk,h⟩=>hn ⟨g,by simp [hg],hgk,h⟩
     refine ⟨e1.trans ?_,e2⟩
     unfold xf
     rw [if_neg (fun e=>hi2 e.symm),if_neg (fun e=>hi1 e.symm)]
  ·obtain ⟨q1,q2⟩:=zkW h3 l k i hc2 fun g hg=>hlt g (by simp [hg])
   simp only [crs,other,if_neg hk]
   refine ⟨fun ⟨g,hg,hgk,h⟩=>?_,fun hn=>?_⟩
   ·rcases List.mem_cons.1 hg with e | hg
    ·subst e;exact (hk hgk).elim
    ·exact q1 ⟨g,hg,hgk,h⟩
   ·exact q2 fun ⟨g,hg,hgk,h⟩=>hn ⟨g,by simp [hg],hgk,h⟩
theorem zsG {kd:Int} (h3:kd≥3) (l:List WireFault) (i:Int) (hc:zjD l) (hlt:∀f,f∈l->f.Kind=kd->f.A<f.B):crs kd l (fun i=>i) i=other kd l i:=by
 obtain ⟨h1,h2⟩:=zkW h3 l (fun i=>i) i hc hlt
 by_cases h:touch kd l i
 ·exact h1 h
 ·exact (h2 h).1.trans (h2 h).2.symm
theorem zn2 (kd:Int):∀(l:List WireFault) (k:Int->Int) (i:Int),(∀f,f∈l->f.Kind=kd->f.B=0)->ded kd l k i=if (⟨kd,i,0⟩:WireFault)∈l then -1 else k i
 | [],k,i,_=>by simp [ded]
 | f::l,k,i,h=>by
  simp only [ded]
  rw [zn2 kd l _ i fun g hg=>h g (by simp [hg])]
  by_cases hm:(⟨kd,i,0⟩:WireFault)∈l
  ·rw [if_pos hm,if_pos (by simp [hm])]
  ·rw [if_neg hm]
   by_cases hf:f=⟨kd,i,0⟩
   ·have e:(if f.Kind=kd then df f k else k) i=-1:=by
     subst hf
     simp [df]
    rw [e,if_pos (by simp [hf])]
   ·have e:(if f.Kind=kd then df f k else k) i=k i:=by
     by_cases hk:f.Kind=kd
     ·rw [if_pos hk]
      unfold df
      refine if_neg fun hi=>hf ?_
      have hB:=h f (by simp) hk
      obtain ⟨u1,u2,u3⟩:=f
      subst hk hB hi
      rfl
     ·rw [if_neg hk]
    rw [e,if_neg (by simp only [List.mem_cons,not_or];exact ⟨fun e=>hf e.symm,hm⟩)]
def zq0 (w:Wire) (l:List WireFault):Prop:=(∀f,f∈l->okF w f)/\zjD l
theorem znc {w:Wire} (hw:zdS w) {l:List WireFault} (hg:zq0 w l) {a b:Int} (ha:0<=a/\a<5) (hb:0<=b/\b<5):zr7 w l a b=zli w l a b:=by
 have hin:∀f,f∈l->inF f:=fun f hf=>zoG hw (hg.1 f hf)
 have k3:∀f,f∈l->f.Kind=3->f.A<f.B:=fun f hf hk=>by have:=hg.1 f hf;unfold okF at this;omega
 have k4:∀f,f∈l->f.Kind=4->f.A<f.B:=fun f hf hk=>by have:=hg.1 f hf;unfold okF at this;omega
 have k1:∀f,f∈l->f.Kind=1->f.B=0:=fun f hf hk=>by have:=hg.1 f hf;unfold okF at this;omega
 have k2:∀f,f∈l->f.Kind=2->f.B=0:=fun f hf hk=>by have:=hg.1 f hf;unfold okF at this;omega
 unfold zr7 zli
 rw [zn2 1 l _ a k1,zn2 2 l _ b k2,zsG (by omega) l a hg.2 k3,zsG (by omega) l b hg.2 k4]
 have hx:=zjf 3 l a hin ha
 have hy:=zjf 4 l b hin hb
 by_cases h1:(⟨1,a,0⟩:WireFault)∈l
 ·simp [h1]
 ·by_cases h2:(⟨2,b,0⟩:WireFault)∈l
  ·simp [h2]
  ·simp only [if_neg h1,if_neg h2]
   rw [if_neg (by omega),if_neg (by simp [h1,h2])]
def zv6 (w:Wire) (ps:List WirePress) (l:List WireFault):Bool:=ps.all fun p=>zli w l p.Letter p.Number==p.Got
def btn (p:WirePress):Prop:=(0<=p.Letter/\p.Letter<5)/\(0<=p.Number/\p.Number<5)
theorem zto {w:Wire} (hw:zdS w) {p:WirePress} (h:okP w p=true):btn p:=by
 obtain ⟨h1,h2⟩:=hw
 simp only [okP,okB,Bool.and_eq_true,zcQ] at h
 unfold btn
 omega
theorem zpu {α:Type} (f g:α->Int) (l:List α):(!l.any fun p=>f p != g p)=l.all fun p=>f p==g p:=by
 induction l with
 | nil=>rfl
 | cons x l ih =>
  simp only [List.any_cons,List.all_cons,Bool.not_or,ih]
  cases h:f x==g x<;>simp [h,bne]
theorem zn3 {w:Wire} (hw:zdS w) {all:List WireFault} {l:List WireFault} (hg:zq0 w l) (hs:l.length<20000) {ps:List WirePress} (hp:∀p,p∈ps->btn p) (hps:ps.length<20000) :
  zdf 20000 (some ⟨w,all⟩) l ps=some (zv6 w ps l):=by
 have hin:∀f,f∈l->inF f:=fun f hf=>zoG hw (hg.1 f hf)
 unfold zdf
 rw [zqX l hin hs,zal,zna (fun x0=>zbT x0 (some ⟨w,all⟩) (mkP (ded 1 l (crs 3 l fun i=>i)) (ded 2 l (crs 4 l fun i=>i)))) (fun p=>zli w l p.Letter p.Number != p.Got) ps (fun p hm=>by
  unfold zbT
  rw [zoH hw l hin (hp p hm).1 (hp p hm).2,zal,znc hw hg (hp p hm).1 (hp p hm).2]) (by omega) hps,zal]
 simp only
 rw [zpu (fun p:WirePress=>zli w l p.Letter p.Number) (fun p=>p.Got)]
 rfl
theorem znd {first:List WireFault} {x:WireFault} (h:zjD first):zjD (first++[x])↔first.any (clash x)=false:=by
 unfold zjD
 rw [List.pairwise_append]
 simp only [List.any_eq_false]
 constructor
 ·rintro ⟨_,_,h3⟩ f hf
  have:=h3 f hf x (by simp)
  rw [zjC]
  simp [this]
 ·intro h3
  refine ⟨h,List.pairwise_singleton _ _,fun f hf y hy=>?_⟩
  simp at hy
  subst hy
  have:=h3 f hf
  rw [zjC]
  simpa using this
def zv7 (w:Wire) (k:Nat):List (List WireFault):=gs k [] (ziA w)
def T (w:Wire) (ps:List WirePress) (k:Nat):List (List WireFault):=(zv7 w k).filter (zv6 w ps)
theorem yieldAll_congr {α S:Type} {aF bF:α->S->Option (Bool×S)}:∀(l:List α) (s:S),(∀x,x∈l->∀s,aF x s=bF x s)->yieldAll aF l s=yieldAll bF l s
 | [],_,_=>rfl
 | x::l,s,h=>by
  simp only [yieldAll,h x (by simp)]
  congr 1
  funext r
  split
  ·exact yieldAll_congr l r.2 fun y hy=>h y (by simp [hy])
  ·rfl
theorem zkX {w:Wire} (h:okW w=true):zdS w:=(zmu.1 h).1
theorem ztp {w:Wire} (h:okW w=true):∀p,p∈w.Presses->btn p:=fun p hp=>zto (zkX h) ((zmu.1 h).2.2.2 p hp)
def flt (a b:WireFault):Bool:=decide (a.Kind<b.Kind) || (decide (a.Kind=b.Kind)&&(decide (a.A<b.A) || (decide (a.A=b.A)&&decide (a.B<b.B))))
theorem zn4 {a b:WireFault}:flt a b=true↔a.Kind<b.Kind\/(a.Kind=b.Kind/\(a.A<b.A\/(a.A=b.A/\a.B<b.B))):=by simp [flt]
theorem zq1 (a b:Int):cmp_Compare_int a b=some (if a<b then -1 else if a>b then 1 else 0):=by
 unfold cmp_Compare_int cmp_isNaN_int
 simp only [zal]
 rw [if_neg (by simp),if_neg (by simp)]
 by_cases h:a<b
 ·rw [if_pos (by simpa using h),if_pos h]
 ·rw [if_neg (by simpa using h),if_neg h]
  by_cases h2:a>b
  ·rw [if_pos (by simpa using h2),if_pos h2]
  ·rw [if_neg (by simpa using h2),if_neg h2]
def orV:List Int->Int
 | []=>0
 | x::l=>if x=0 then orV l else x
theorem zv8 (l:List Int) (hl:l.length<20000):zim 20000 l=some (orV l):=by
 unfold zim
 refine zkV (F:=fun m i (_:Unit)=>zdG l m i) (xs:=l) (spec:=fun t _=>some (orV t)) (by omega) hl () (fun m s=>by simp [zdG,ze7,zgi,orV]) (fun m i x t s hx hi hi' hd hrec=>?_)
 simp only [zdG,ze7]
 rw [if_pos (by simpa using hi),hx,zal]
 by_cases h:x=0
 ·rw [if_neg (by simp [h]),hrec ()]
  simp [orV,h]
 ·rw [if_pos (by simp [h])]
  simp [orV,h]
theorem zr8 (a b:WireFault):∃r,zhs 20000 a b=some r/\decide (r≥0)=!flt a b:=by
 unfold zhs
 rw [zq1,zal,zq1,zal,zq1,zal,zv8 _ (by simp),zal]
 refine ⟨_,rfl,?_⟩
 rw [Bool.eq_iff_iff]
 simp only [decide_eq_true_eq,Bool.not_eq_true',orV]
 rw [show (flt a b=false)↔¬(flt a b=true) by simp,zn4]
 by_cases h1:a.Kind<b.Kind
 ·simp [h1]
 ·by_cases h2:a.Kind>b.Kind
  ·simp [h1,h2,show ¬a.Kind=b.Kind by omega]
  ·have h3:a.Kind=b.Kind:=by omega
   by_cases h4:a.A<b.A
   ·simp [h3,h4]
   ·by_cases h5:a.A>b.A
    ·simp [h3,h4,h5,show ¬a.A=b.A by omega]
    ·have h6:a.A=b.A:=by omega
     by_cases h7:a.B<b.B
     ·simp [h3,h6,h7]
     ·by_cases h8:a.B>b.B
      ·simp [h3,h6,h7,h8]
      ·have h9:a.B=b.B:=by omega
       simp [h3,h6,h9]
theorem zn5 (l:List WireFault) (f:WireFault) (hs:l.length<20000):zbW 20000 l f=some (decide (f∈l)):=by
 have h1:(zbO 20000 l f).map (fun r=>decide (r≥0))=some (decide (f∈l)):=by
  unfold zbO
  refine zkV (F:=fun q i (_:Unit)=>(zaV l f q i).map (fun r=>decide (r≥0))) (xs:=l) (spec:=fun t _=>some (decide (f∈t))) (by omega) hs () (fun q s=>?_) (fun q i g t s hx hi hi' hd hrec=>?_)
  ·simp [zaV,zbI,zbV]
  ·simp only [zaV,zbI]
   rw [if_pos (by simpa using hi),hx,zal]
   by_cases hg:g=f
   ·subst hg
    simp
   ·rw [if_neg (by
     obtain ⟨u1,u2,u3⟩:=g
     obtain ⟨v1,v2,v3⟩:=f
     have:¬(v1=u1/\v2=u2/\v3=u3):=fun ⟨a,b,c⟩=>hg (by subst a b c;rfl)
     simpa using this),hrec ()]
    have:f≠g:=fun e=>hg e.symm
    simp [this]
 unfold zbW
 cases h:zbO 20000 l f with
 | none=>rw [h] at h1;cases h1
 | some r=>rw [h] at h1;simpa using h1
def zk7 (f:WireFault):List WireFault->Int->Int
 | [],_=>-1
 | g::l,i=>if g=f then i else zk7 f l (i+1)
theorem zr9 (l:List WireFault) (f:WireFault) (hs:l.length<20000):zek 20000 l f=some (zk7 f l 0):=by
 unfold zek
 have key:∀(t:List WireFault) (i m:Nat),i<=l.length->l.drop i=t->t.length<m->zbZ l f m (i:Int)=some (zk7 f t i):=by
  intro t
  induction t with
  | nil =>
   intro i m hi hd hm
   obtain ⟨m,rfl⟩:∃k,m=k+1:=⟨m-1,by omega⟩
   have:=List.drop_eq_nil_iff.1 hd
   have:i=l.length:=by omega
   subst this
   simp [zbZ,zc5,zeE,zk7]
  | cons g t ih =>
   intro i m hi hd hm
   obtain ⟨m,rfl⟩:∃k,m=k+1:=⟨m-1,by omega⟩
   simp only [List.length_cons] at hm
   have hlt:i<l.length:=by
    rcases Nat.lt_or_ge i l.length with h | h
    ·exact h
    ·rw [List.drop_eq_nil_of_le h] at hd;cases hd
   rw [List.drop_eq_getElem_cons hlt] at hd
   injection hd with h5 h6
   simp only [zbZ,zc5,zk7]
   rw [if_pos (by simpa using hlt),zjt hlt,zal,h5]
   by_cases hg:g=f
   ·rw [if_pos (by subst hg;simp),if_pos hg]
   ·rw [if_neg (by
     obtain ⟨u1,u2,u3⟩:=g
     obtain ⟨v1,v2,v3⟩:=f
     have:¬(u1=v1/\u2=v2/\u3=v3):=fun ⟨a,b,c⟩=>hg (by subst a b c;rfl)
     simpa using this),if_neg hg,zaH (by omega) (by omega),show (i:Int)+1=((i+1:Nat):Int) by omega]
    exact ih (i+1) m (by omega) h6 (by omega)
 exact key l 0 20000 (by omega) rfl hs
theorem zkY (f:WireFault):∀(l:List WireFault) (i:Int),0<=i->(f∈l->i<=zk7 f l i)/\(f∉l->zk7 f l i=-1)
 | [],i,_=>⟨fun h=>by simp at h,fun _=>rfl⟩
 | g::l,i,hi=>by
  obtain ⟨h1,h2⟩:=zkY f l (i+1) (by omega)
  simp only [zk7]
  by_cases hg:g=f
  ·rw [if_pos hg]
   exact ⟨fun _=>Int.le_refl _,fun h=>absurd (by simp [hg]) h⟩
  ·rw [if_neg hg]
   have hg':f≠g:=fun e=>hg e.symm
   exact ⟨fun h=>by have:=h1 (by simpa [hg'] using h);omega,fun h=>h2 fun h'=>h (by simp [h'])⟩
theorem zq2 {R:WireFault->WireFault->Prop} (hirr:∀a,¬R a a) (hasy:∀a b,R a b->¬R b a) {f g:WireFault}:∀(l:List WireFault) (i:Int),0<=i->l.Pairwise R->f∈l->g∈l->(zk7 g l i<zk7 f l i↔R g f)
 | [],_,_,_,h,_=>by simp at h
 | x::l,i,hi,hp,hf,hg=>by
  obtain ⟨h1,h2⟩:=List.pairwise_cons.1 hp
  simp only [zk7]
  by_cases hxf:x=f
  ·subst hxf
   rw [if_pos rfl]
   by_cases hxg:x=g
   ·subst hxg
    rw [if_pos rfl]
    exact ⟨fun h=>by omega,fun h=>absurd h (hirr _)⟩
   ·rw [if_neg hxg]
    have hg':g∈l:=by
     rcases List.mem_cons.1 hg with e | h
     ·exact absurd e.symm hxg
     ·exact h
    have:=(zkY g l (i+1) (by omega)).1 hg'
    exact ⟨fun h=>by omega,fun h=>absurd h (hasy _ _ (h1 g hg'))⟩
  ·rw [if_neg hxf]
   have hf':f∈l:=by
    rcases List.mem_cons.1 hf with e | h
    ·exact absurd e.symm hxf
    ·exact h
   by_cases hxg:x=g
   ·subst hxg
    rw [if_pos rfl]
    have:=(zkY f l (i+1) (by omega)).1 hf'
    exact ⟨fun _=>h1 f hf',fun _=>by omega⟩
   ·rw [if_neg hxg]
    have hg':g∈l:=by
     rcases List.mem_cons.1 hg with e | h
     ·exact absurd e.symm hxg
     ·exact h
    exact zq2 hirr hasy l (i+1) (by omega) h2 hf' hg'
set_option maxRecDepth 100000 in
theorem zpv {w:Wire} (h:zdS w):(ziA w).Pairwise fun a b=>flt a b=true:=by
 obtain ⟨L,N,p,f⟩:=w
 obtain ⟨⟨h1,h2⟩,h3,h4⟩:=h
 simp only at h1 h2 h3 h4
 have hL:L=1\/L=2\/L=3\/L=4\/L=5:=by omega
 have hN:N=1\/N=2\/N=3\/N=4\/N=5:=by omega
 rcases hL with rfl | rfl | rfl | rfl | rfl<;>rcases hN with rfl | rfl | rfl | rfl | rfl<;>exact of_decide_eq_true (by kernel_rfl)
theorem ztq {w:Wire} (h:zdS w) {f g:WireFault} (hf:f∈ziA w) (hg:g∈ziA w):zk7 g (ziA w) 0<zk7 f (ziA w) 0↔flt g f=true :=
 zq2 (R:=fun a b=>flt a b=true) (fun a h=>by rw [zn4] at h;omega) (fun a b h1 h2=>by rw [zn4] at h1 h2;omega) (ziA w) 0 (by omega) (zpv h) hf hg
def zrl (w:Wire):List WireFault->List WireFault->Bool
 | _,[]=>true
 | pre,f::l=>decide (f∈ziA w)&&((match pre.getLast? with | none=>true | some g=>flt g f)&&(!pre.any (clash f)&&zrl w (pre++[f]) l))
def zmB (w:Wire) (l:List WireFault):Bool:=zrl w [] l
theorem nil_or_last {α:Type} (pre:List α):pre=[]\/∃q y,pre=q++[y]:=by
 rcases List.eq_nil_or_concat pre with h | ⟨q,y,h⟩
 ·exact .inl h
 ·exact .inr ⟨q,y,by simpa using h⟩
theorem zoJ {w:Wire} (hw:zdS w) (l:List WireFault) (hs:l.length<20000):zda 20000 (some ⟨w,ziA w⟩) l=some (zmB w l):=by
 have ha:=zqR hw
 unfold zda zmB
 have key:∀(t pre:List WireFault) (m:Nat),l=pre++t->t.length<m->za5 20000 (some ⟨w,ziA w⟩) l m (pre.length:Int)=some (zrl w pre t):=by
  intro t
  induction t with
  | nil =>
   intro pre m he hm
   obtain ⟨m,rfl⟩:∃k,m=k+1:=⟨m-1,by omega⟩
   simp [za5,zcH,zc9,he,zrl]
  | cons f t ih =>
   intro pre m he hm
   obtain ⟨m,rfl⟩:∃k,m=k+1:=⟨m-1,by omega⟩
   simp only [List.length_cons] at hm
   have hl:l.length=pre.length+(t.length+1):=by rw [he];simp
   have hcut:cut l 0 (pre.length:Int)=some pre:=by
    unfold cut
    rw [if_pos (by omega),he]
    simp
   have hc:zaS 20000 (fun x0 (_:Unit)=>(zbg x0 f).map fun y=>(y,())) pre ()=some (pre.any (clash f),()) :=
    zqT (fun x0=>zbg x0 f) (clash f) pre (fun y _=>by unfold zbg;rw [zoF];rfl) (by omega) (by omega)
   have hrec:=ih (pre++[f]) m (by simp [he]) (by omega)
   rw [show (((pre++[f]).length:Nat):Int)=(pre.length:Int)+1 by simp] at hrec
   simp only [za5,zcH,zal]
   rw [if_pos (by simp;omega),show idx l (pre.length:Int)=some f by rw [he,zb3],zal,zn5 _ _ (by omega),zal]
   simp only [zrl,zbw]
   rw [zaH (x:=(pre.length:Int)+1) (by omega) (by omega)]
   by_cases hm1:f∈ziA w
   ·rw [if_neg (by simp [hm1])]
    simp only [hm1,decide_true,Bool.true_and]
    rcases nil_or_last pre with rfl | ⟨q,y,rfl⟩
    ·rw [if_neg (by simp),hcut,zal,hc,zal]
     simp only [List.any_nil,Bool.false_eq_true,if_false]
     simpa using hrec
    ·have hql:(q++[y]).length=q.length+1:=by simp
     rw [if_pos (by simp<;>omega),zaH (x:=(((q++[y]).length:Nat):Int)-1) (by omega) (by omega),show (((q++[y]).length:Nat):Int)-1=(q.length:Int) by simp,show idx l (q.length:Int)=some y by rw [he,show q++[y]++f::t=q++y::(f::t) by simp,zb3],zal]
     obtain ⟨r,hr1,hr2⟩:=zr8 y f
     rw [hr1,zal,hr2,hcut,zal,hc,zal]
     simp only [List.getLast?_concat]
     cases hfl:flt y f with
     | false=>simp
     | true =>
      simp only [Bool.not_true,Bool.false_eq_true,if_false,Bool.true_and]
      by_cases hcl:(q++[y]).any (clash f)=true
      ·rw [if_pos hcl]
       simp only [hcl,Bool.not_true,Bool.false_and]
      ·rw [if_neg hcl,hrec]
       simp only [show (q++[y]).any (clash f)=false by simpa using hcl,Bool.not_false,Bool.true_and]
   ·rw [if_pos (by simp [hm1])]
    simp [hm1]
 exact key l [] 20000 rfl hs
theorem zq3 {w:Wire} (hw:zdS w) (l:List WireFault) (hs:l.length<20000):zhu 20000 w l=some (zmB w l):=by
 have ha:=zqR hw
 unfold zhu zmB
 rw [znb hw,zal]
 have key:∀(t pre:List WireFault) (m:Nat) (last:Int),l=pre++t->t.length<m->(∀g,g∈pre->g∈ziA w)->(match pre.getLast? with | none=>last=-1 | some g=>last=zk7 g (ziA w) 0)->zbd 20000 l (ziA w) m last (pre.length:Int)=some (zrl w pre t):=by
  intro t
  induction t with
  | nil =>
   intro pre m last he hm hpre hla
   obtain ⟨m,rfl⟩:∃k,m=k+1:=⟨m-1,by omega⟩
   simp [zbd,zeP,zfJ,he,zrl]
  | cons f t ih =>
   intro pre m last he hm hpre hla
   obtain ⟨m,rfl⟩:∃k,m=k+1:=⟨m-1,by omega⟩
   simp only [List.length_cons] at hm
   have hl:l.length=pre.length+(t.length+1):=by rw [he];simp
   simp only [zbd,zeP]
   rw [if_pos (by simp;omega),show idx l (pre.length:Int)=some f by rw [he,zb3],zal,zr9 _ _ (by omega),zal]
   simp only [zrl]
   have hin:=zkY f (ziA w) 0 (by omega)
   by_cases hm1:f∈ziA w
   ·simp only [hm1,decide_true,Bool.true_and]
    have hlt:(zk7 f (ziA w) 0<=last)↔(match pre.getLast? with | none=>true | some g=>flt g f)=false:=by
     rcases nil_or_last pre with rfl | ⟨q,y,rfl⟩
     ·simp only [List.getLast?_nil] at hla ⊢
      have:=hin.1 hm1
      subst hla
      simp;omega
     ·simp only [List.getLast?_concat] at hla ⊢
      subst hla
      have:=ztq hw hm1 (hpre y (by simp))
      constructor
      ·intro h
       by_cases hx:flt y f=true
       ·have:=this.2 hx;omega
       ·simpa using hx
      ·intro h
       by_cases h2:zk7 y (ziA w) 0<zk7 f (ziA w) 0
       ·rw [this.1 h2] at h;cases h
       ·omega
    have hfree:=zv2 (fun q j (_:Unit)=>zdj (zbd 20000 l (ziA w) m) l (pre.length:Int) (zk7 f (ziA w) 0) q j) pre.length (fun j _=>if (pre.drop j).any (fun g=>clash g f)=true then some false else zeF (zbd 20000 l (ziA w) m) (pre.length:Int) (zk7 f (ziA w) 0)) (by omega) (fun q s=>by
      simp [zdj,zeO]) (fun q j s hj hrec=>by
      simp only [zdj,zeO]
      have hix:idx l (j:Int)=some pre[j]:=by
       rw [zjt (by omega)]
       congr 1
       subst he
       exact List.getElem_append_left hj
      rw [if_pos (by simpa using hj),hix,zal,show idx l (pre.length:Int)=some f by rw [he,zb3],zal,zqS,zal,List.drop_eq_getElem_cons hj,List.any_cons]
      by_cases hc:clash pre[j] f=true
      ·rw [if_pos hc,if_pos (by simp [hc])]
      ·rw [if_neg hc,hrec ()]
       simp [show clash pre[j] f=false by simpa using hc])
    have h3:=hfree pre.length 0 20000 () (by omega) (by omega) (by omega)
    by_cases hle:zk7 f (ziA w) 0<=last
    ·rw [if_pos (by simpa using hle),hlt.1 hle]
     simp
    ·rw [if_neg (by simpa using hle)]
     have hT:(match pre.getLast? with | none=>true | some g=>flt g f)=true:=by
      cases hx:(match pre.getLast? with | none=>true | some g=>flt g f) with
      | true=>rfl
      | false=>exact absurd (hlt.2 hx) hle
     rw [hT,Bool.true_and]
     refine Eq.trans h3 ?_
     rw [List.drop_zero]
     have hany:(pre.any fun g=>clash g f)=pre.any (clash f):=by
      congr 1
      funext g
      exact zjC g f
     rw [hany]
     by_cases hcl:pre.any (clash f)=true
     ·rw [if_pos hcl]
      simp [hcl]
     ·rw [if_neg hcl]
      unfold zeF
      have hrec:=ih (pre++[f]) m (zk7 f (ziA w) 0) (by simp [he]) (by omega) (fun g hg=>by
       rcases List.mem_append.1 hg with h | h
       ·exact hpre g h
       ·simp at h;subst h;exact hm1) (by simp)
      rw [show (((pre++[f]).length:Nat):Int)=(pre.length:Int)+1 by simp] at hrec
      rw [zaH (by omega) (by omega),hrec]
      simp [show pre.any (clash f)=false by simpa using hcl]
   ·have hle:zk7 f (ziA w) 0<=last:=by
     rw [hin.2 hm1]
     rcases nil_or_last pre with rfl | ⟨q,y,rfl⟩
     ·simp at hla;omega
     ·simp only [List.getLast?_concat] at hla
      have:=(zkY y (ziA w) 0 (by omega)).1 (hpre y (by simp))
      omega
    rw [if_pos (by simpa using hle)]
    simp [hm1]
 have:=key l [] 20000 (-1) rfl hs (fun g hg=>by simp at hg) rfl
 exact this
theorem zne {w:Wire} (hw:zdS w):∀(t pre:List WireFault),zq0 w pre->zrl w pre t=true->zq0 w (pre++t)
 | [],pre,h,_=>by simpa using h
 | f::t,pre,h,hs=>by
  simp only [zrl,Bool.and_eq_true,Bool.not_eq_true',decide_eq_true_eq] at hs
  obtain ⟨h1,_,h3,h4⟩:=hs
  have:=zne hw t (pre++[f]) ⟨fun g hg=>by
   rcases List.mem_append.1 hg with hg | hg
   ·exact h.1 g hg
   ·simp at hg;subst hg;exact (ztm hw).1 h1,(znd h.2).2 h3⟩ h4
  simpa using this
theorem zkZ {w:Wire} (hw:zdS w) {l:List WireFault} (h:zmB w l=true):zq0 w l:=by
 have:=zne hw l [] ⟨fun g hg=>by simp at hg,.nil⟩ h
 simpa using this
def zq4 (w:Wire) (l:List WireFault) (a b:Int):Int×Int:=if okW w=true then (if zmB w l=true/\okB w a b=true then (zli w l a b,0) else (0,1)) else (0,110)
theorem zsa (w:Wire) (l:List WireFault) (hs:l.length<20000) (a b:Int):zgF 20000 w l a b=some (zq4 w l a b):=by
 unfold zgF zq4
 rw [Check_eq w (by omega),zal]
 by_cases h:okW w=true
 ·have hw:=zkX h
  rw [if_pos h,if_neg (by simp [h]),open_eq hw,zal,zoJ hw l hs,zal]
  by_cases h1:zmB w l=true
  ·rw [if_neg (by simp [h1]),zlH hw,zal]
   unfold zdU
   by_cases h2:okB w a b=true
   ·have hg:=zkZ hw h1
    have hin:∀f,f∈l->inF f:=fun f hf=>zoG hw (hg.1 f hf)
    have hab:(0<=a/\a<5)/\(0<=b/\b<5):=by
     simp only [okB,Bool.and_eq_true,zcQ] at h2
     unfold zdS at hw
     omega
    rw [if_neg (by simp [h2]),if_pos ⟨h1,h2⟩,zqX l hin hs,zal,zoH hw l hin hab.1 hab.2,zal,znc hw hg hab.1 hab.2]
   ·rw [if_pos (by simp [h2]),if_neg (by simp [h2])]
  ·rw [if_pos (by simp [h1]),if_neg (by simp [h1])]
   simp [zdU]
 ·have h':okW w=false:=by simpa using h
  rw [if_neg h,if_pos (by simp [h'])]
  simp [h']
def ztr (w:Wire) (l:List WireFault):Bool×Int:=if okW w=true then (if zmB w l=true then (zv6 w w.Presses l,0) else (false,1)) else (false,110)
theorem zn6 (w:Wire) (l:List WireFault) (hs:l.length<20000):zfI 20000 w l=some (ztr w l):=by
 unfold zfI ztr
 rw [Check_eq w (by omega),zal]
 by_cases h:okW w=true
 ·have hw:=zkX h
  have hP:=(zmu.1 h).2.2.1
  rw [if_pos h,if_neg (by simp [h]),open_eq hw,zal,zoJ hw l hs,zal]
  by_cases h1:zmB w l=true
  ·rw [if_neg (by simp [h1]),if_pos h1,zn3 hw (zkZ hw h1) hs (ztp h) (by omega),zal]
  ·rw [if_pos (by simp [h1]),if_neg h1]
 ·have h':okW w=false:=by simpa using h
  rw [if_neg h,if_pos (by simp [h'])]
  simp [h']
namespace Pu
theorem works_eq:zhp 20000=some true:=by decide +kernel
theorem zuG (pa pb:List Int) (hp:pa.length=pb.length):∀(l k:List Int) (m:Nat),l.length=k.length->(pa++l).length<1048576->l.length<m ->
  zba (pa++l) (pb++k) m (pa.length:Int)=some (decide (l=k)):=by
 intro l
 induction l generalizing pa pb with
 | nil =>
  intro k m hk hs hm
  obtain ⟨m,rfl⟩:∃k,m=k+1:=⟨m-1,by omega⟩
  have:k=[]:=List.eq_nil_of_length_eq_zero (by simpa using hk.symm)
  subst this
  simp [zba,zch,zdp]
 | cons x l ih =>
  intro k m hk hs hm
  obtain ⟨m,rfl⟩:∃k,m=k+1:=⟨m-1,by omega⟩
  cases k with
  | nil=>simp at hk
  | cons y k =>
   simp at hk hs hm
   simp only [zba,zch]
   rw [if_pos (by simp<;>omega),zb3,show idx (pb++y::k) (pa.length:Int)=some y by rw [hp,zb3]]
   simp only [Option.bind_some]
   by_cases hb:x=y
   ·subst hb
    have h:=ih (pa++[x]) (pb++[x]) (by simp [hp]) k m hk (by simp<;>omega) (by omega)
    rw [if_neg (by simp),zaH (by omega) (by omega)]
    simpa using h
   ·rw [if_pos (by simpa using hb)]
    simp [hb]
theorem SameInts_eq {n:Nat} (a b:List Int) (hs:a.length<1048576) (hn:a.length<n):zbN n a b=some (decide (a=b)):=by
 unfold zbN
 by_cases h:a.length=b.length
 ·rw [if_neg (by simp [h])]
  exact zuG [] [] rfl a b n h (by simpa using hs) hn
 ·rw [if_pos (by simp<;>omega)]
  have:a≠b:=fun e=>h (by rw [e])
  simp [this]
theorem SameInts_self {n:Nat} (a:List Int) (hs:a.length<1048576) (hn:a.length<n):zbN n a a=some true:=by rw [SameInts_eq a a hs hn];simp
theorem same_self {n:Nat} (p:Pulse) (hs:p.Times.length<1048576) (hn:p.Times.length<n):zin n p p=some true:=by
 simp [zin,zb9,SameInts_self p.Times hs hn]
theorem Copy_eq (p:Pulse) (hs:p.Times.length<1048576):zik p=some p:=by
 unfold zik
 rw [zg9 (by simp<;>omega)]
 rfl
theorem within_eq (a b c:Int):zck a b c=some (inR a b c):=by
 unfold zck zdL inR
 by_cases h:b<=a<;>simp [h]
theorem Within_eq (a b c:Int):zef a b c=some (inR a b c):=by
 unfold zef zdo inR
 by_cases h:b<=a<;>simp [h]
theorem zhh (a b c:Int):zbS a b c=some (inR a b c):=by simp [zbS,Within_eq]
def zoK:Option Int->List Int->Bool
 | _,[]=>true
 | prev,x::l=>inR x 0 99999&&(match prev with | none=>true | some y=>decide (y<x))&&zoK (some x) l
theorem nil_or_last (pre:List Int):pre=[]\/∃q y,pre=q++[y]:=by
 rcases List.eq_nil_or_concat pre with h | ⟨q,y,h⟩
 ·exact .inl h
 ·exact .inr ⟨q,y,by simpa using h⟩
theorem zoL (q:List Int) (y:Int) (l:List Int) (h:(q++[y]++l).length<1048576):idx (q++[y]++l) (w64 (((q++[y]).length:Int)-1))=some y:=by
 simp at h
 rw [zaH (by simp<;>omega) (by simp<;>omega),show (((q++[y]).length:Int)-1)=(q.length:Int) by simp,show q++[y]++l=q++y::l by simp,zb3]
theorem zn7 (p:Pulse):∀(l pre:List Int) (m:Nat),p.Times=pre++l->p.Times.length<1048576->l.length<m ->
  zb5 p m (pre.length:Int)=some (cond (zoK pre.getLast? l) 0 130):=by
 intro l
 induction l with
 | nil =>
  intro pre m he hs hm
  obtain ⟨m,rfl⟩:∃k,m=k+1:=⟨m-1,by omega⟩
  simp [zb5,zer,ze0,he,zoK]
 | cons x l ih =>
  intro pre m he hs hm
  simp at hm
  have hl:p.Times.length=pre.length+(l.length+1):=by simp [he]
  obtain ⟨m,rfl⟩:∃k,m=k+1:=⟨m-1,by omega⟩
  have h:=ih (pre++[x]) m (by simp [he]) hs (by omega)
  rw [show (((pre++[x]).length:Nat):Int)=(pre.length:Int)+1 by simp,List.getLast?_concat] at h
  simp only [zb5,zer]
  rw [if_pos (by simp<;>omega),show idx p.Times (pre.length:Int)=some x by rw [he,zb3]]
  simp only [Option.bind_some,within_eq,zoK]
  by_cases hr:inR x 0 99999=true
  ·rw [if_neg (by simp [hr])]
   rcases nil_or_last pre with rfl | ⟨q,y,rfl⟩
   ·rw [if_neg (by simp)]
    simp only [zcs]
    rw [if_neg (by simp),zaH (by simp) (by simp),h]
    simp [hr]
   ·rw [if_pos (by simp<;>omega),show idx p.Times (w64 (((q++[y]).length:Int)-1))=some y by rw [he];exact zoL q y _ (by rw [←he];exact hs)]
    simp only [Option.bind_some,zcs,List.getLast?_concat]
    by_cases hb:x<=y
    ·rw [if_pos (by simpa using hb)]
     simp [hr,show ¬y<x by omega]
    ·rw [if_neg (by simpa using hb),zaH (by omega) (by omega),h]
     simp [hr,show y<x by omega]
  ·have hr':inR x 0 99999=false:=by simpa using hr
   rw [if_pos (by simp [hr'])]
   simp [zcs,hr']
theorem znf:∀(l pre:List Int) (m:Nat),(pre++l).length<1048576->l.length<m ->
  zb4 (pre++l) 0 99999 m (pre.length:Int)=some (zoK pre.getLast? l):=by
 intro l
 induction l with
 | nil =>
  intro pre m hs hm
  obtain ⟨m,rfl⟩:∃k,m=k+1:=⟨m-1,by omega⟩
  simp [zb4,zeq,zeZ,zoK]
 | cons x l ih =>
  intro pre m hs hm
  obtain ⟨m,rfl⟩:∃k,m=k+1:=⟨m-1,by omega⟩
  have h:=ih (pre++[x]) m (by simpa using hs) (by simp at hm;omega)
  rw [show (((pre++[x]).length:Nat):Int)=(pre.length:Int)+1 by simp,List.getLast?_concat,show pre++[x]++l=pre++x::l by simp] at h
  simp at hs hm
  simp only [zb4,zeq]
  rw [if_pos (by simp<;>omega),zb3]
  simp only [Option.bind_some,Within_eq,zoK]
  by_cases hr:inR x 0 99999=true
  ·rw [if_neg (by simp [hr])]
   rcases nil_or_last pre with rfl | ⟨q,y,rfl⟩
   ·rw [if_neg (by simp)]
    simp only [zcr]
    rw [if_neg (by simp),zaH (by simp) (by simp),h]
    simp [hr]
   ·rw [if_pos (by simp<;>omega),zoL q y (x::l) (by simp at hs ⊢;omega)]
    simp only [Option.bind_some,zcr,List.getLast?_concat]
    by_cases hb:x<=y
    ·rw [if_pos (by simpa using hb)]
     simp [hr,show ¬y<x by omega]
    ·rw [if_neg (by simpa using hb),zaH (by omega) (by omega),h]
     simp [hr,show y<x by omega]
  ·have hr':inR x 0 99999=false:=by simpa using hr
   rw [if_pos (by simp [hr'])]
   simp [zcr,hr']
def valid (p:Pulse):Bool:=inR p.Letters 1 5&&inR p.Numbers 1 5&&inR p.Pitch 1 99&&inR p.Slack 0 (p.Pitch-1)&&inR p.Gap (p.Pitch+p.Slack+1) (p.Pause-1)&&inR p.Pause 0 999&&inR p.Sparks 0 3&&decide (p.Times.length<=24)&&zoK none p.Times
end Pu
namespace Pu
theorem zuH {a b:Bool} {x y:Option Int}:(if (!a)=true then x else y)=cond a y x:=by cases a<;>rfl
def zn8 (p:Pulse):List An103:=[⟨p.Letters,1,5⟩,⟨p.Numbers,1,5⟩,⟨p.Pitch,1,99⟩,⟨p.Slack,0,w64 (p.Pitch-1)⟩,⟨p.Gap,w64 ((w64 (p.Pitch+p.Slack))+1),w64 (p.Pause-1)⟩,⟨p.Pause,0,999⟩,⟨p.Sparks,0,3⟩,⟨(p.Times.length:Int),0,24⟩]
theorem zeW (n:Nat) (p:Pulse) (k v:Nat) (x:An103) (hx:(zn8 p)[v]?=some x) (hv:v<8) :
  zbv n p (k+1) (v:Int)=cond (inR x.n x.low x.high) (zbv n p k ((v+1:Nat):Int)) (some 130):=by
 simp only [zbv,zes]
 rw [if_pos (by simp;omega)]
 have:idx (zn8 p) (v:Int)=some x:=by unfold idx;rw [if_pos (by omega),Int.toNat_natCast,hx]
 have h2:=this
 unfold zn8 at h2
 rw [h2]
 simp only [Option.bind_some,within_eq,zuH]
 rw [zaH (by omega) (by omega)]
 cases inR x.n x.low x.high<;>simp
theorem Check_eq {n:Nat} (p:Pulse) (hs:p.Times.length<1048576) (hn:p.Times.length<n) (hn2:10<=n):zfU n p=some (cond (valid p) 0 130):=by
 obtain ⟨k,hk⟩:∃k,n=k+9:=⟨n-9,by omega⟩
 have ht:=zn7 p p.Times [] n rfl hs hn
 simp only [List.getLast?_nil] at ht
 unfold zfU
 have h0:zbv n p n 0=zbv n p (k+8+1) ((0:Nat):Int):=by rw [hk];rfl
 rw [h0,zeW n p (k+8) 0 _ rfl (by omega),zeW n p (k+7) 1 _ rfl (by omega),zeW n p (k+6) 2 _ rfl (by omega),zeW n p (k+5) 3 _ rfl (by omega),
  zeW n p (k+4) 4 _ rfl (by omega),zeW n p (k+3) 5 _ rfl (by omega),zeW n p (k+2) 6 _ rfl (by omega),zeW n p (k+1) 7 _ rfl (by omega)]
 have h8:zbv n p (k+1) ((7+1:Nat):Int)=some (cond (zoK none p.Times) 0 130):=by
  simp only [zbv,zes]
  rw [if_neg (by decide)]
  exact ht
 rw [h8]
 simp only [valid]
 cases h1:inR p.Letters 1 5
 ·simp
 cases h2:inR p.Numbers 1 5
 ·simp
 cases h3:inR p.Pitch 1 99
 ·simp
 have b3:=zcQ.1 h3
 rw [zaH (x:=p.Pitch-1) (by omega) (by omega)]
 cases h4:inR p.Slack 0 (p.Pitch-1)
 ·simp
 have b4:=zcQ.1 h4
 rw [zaH (x:=p.Pitch+p.Slack) (by omega) (by omega),zaH (x:=p.Pitch+p.Slack+1) (by omega) (by omega)]
 cases h6:inR p.Pause 0 999
 ·cases inR p.Gap (p.Pitch+p.Slack+1) (w64 (p.Pause-1))<;>simp
 have b6:=zcQ.1 h6
 rw [zaH (x:=p.Pause-1) (by omega) (by omega)]
 have h7:inR (p.Times.length:Int) 0 24=decide (p.Times.length<=24):=by
  unfold inR
  by_cases h:p.Times.length<=24
  ·simp [h];omega
  ·simp [h];omega
 simp only [h7]
 cases inR p.Gap (p.Pitch+p.Slack+1) (p.Pause-1)<;>cases inR p.Sparks 0 3<;>cases decide (p.Times.length<=24)<;>simp
theorem rCheck_eq {n:Nat} (p:Pulse) (hs:p.Times.length<1048576) (hn:p.Times.length<n):zfy n p=some (cond (valid p) 0 130):=by
 have ht:=znf p.Times [] n (by simpa using hs) hn
 simp only [List.getLast?_nil,List.nil_append,List.length_nil] at ht
 replace ht:zh1 n p.Times 0 99999=some (zoK none p.Times):=ht
 unfold zfy
 simp only [zhh,ht,Option.bind_some,zby,valid]
 cases h1:inR p.Letters 1 5
 ·simp
 cases h2:inR p.Numbers 1 5
 ·simp
 cases h3:inR p.Pitch 1 99
 ·simp
 have b3:=zcQ.1 h3
 rw [zaH (x:=p.Pitch-1) (by omega) (by omega)]
 cases h4:inR p.Slack 0 (p.Pitch-1)
 ·simp
 have b4:=zcQ.1 h4
 rw [zaH (x:=p.Pitch+p.Slack) (by omega) (by omega),zaH (x:=p.Pitch+p.Slack+1) (by omega) (by omega)]
 cases h6:inR p.Pause 1 999
 ·cases h5:inR p.Gap (p.Pitch+p.Slack+1) (p.Pause-1)
  ·simp
  ·have b5:=zcQ.1 h5
   have:inR p.Pause 0 999=false:=by
    cases hh:inR p.Pause 0 999 with
    | false=>rfl
    | true =>
     have b:=zcQ.1 hh
     have:inR p.Pause 1 999=true:=zcQ.2 ⟨by omega,b.2⟩
     rw [this] at h6
     cases h6
   simp [this]
 have b6:=zcQ.1 h6
 have h6':inR p.Pause 0 999=true:=zcQ.2 ⟨by omega,b6.2⟩
 rw [zaH (x:=p.Pause-1) (by omega) (by omega),h6']
 by_cases hl:p.Times.length<=24
 ·rw [if_neg (show ¬decide ((p.Times.length:Int)>24)=true by simp;omega)]
  cases inR p.Gap (p.Pitch+p.Slack+1) (p.Pause-1)<;>cases inR p.Sparks 0 3<;>cases zoK none p.Times<;>simp [hl]
 ·rw [if_pos (show decide ((p.Times.length:Int)>24)=true by simp;omega)]
  cases inR p.Gap (p.Pitch+p.Slack+1) (p.Pause-1)<;>cases inR p.Sparks 0 3<;>simp [hl]
theorem valid_iff {p:Pulse} (h:valid p=true):(1<=p.Letters/\p.Letters<=5)/\(1<=p.Numbers/\p.Numbers<=5)/\(1<=p.Pitch/\p.Pitch<=99)/\(0<=p.Slack/\p.Slack<=p.Pitch-1)/\(p.Pitch+p.Slack+1<=p.Gap/\p.Gap<=p.Pause-1) /\
  (0<=p.Pause/\p.Pause<=999)/\(0<=p.Sparks/\p.Sparks<=3)/\p.Times.length<=24/\zoK none p.Times=true:=by
 simp only [valid,Bool.and_eq_true,zcQ,decide_eq_true_eq] at h
 obtain ⟨⟨⟨⟨⟨⟨⟨⟨h1,h2⟩,h3⟩,h4⟩,h5⟩,h6⟩,h7⟩,h8⟩,h9⟩:=h
 exact ⟨h1,h2,h3,h4,h5,h6,h7,h8,h9⟩
end Pu
namespace Pu
def selOf (p:Pulse) (g h:Int):Int:=(g-1)*p.Numbers+h-1
def good (p:Pulse) (g h:Int):Bool:=inR g 1 p.Letters&&inR h 1 p.Numbers
def ziq (p:Pulse) (d:Int):Bool:=inR d (p.Pitch-p.Slack) (p.Pitch+p.Slack)
def cl (p:Pulse):Int->Int->Int->List Int->List Int->Option (List Int)
 | _,g,h,out,[]=>if good p g h then some (out++[selOf p g h]) else none
 | y,g,h,out,x::l =>
  if x-y≥p.Pause then (if good p g h then cl p x 1 0 (out++[selOf p g h]) l else none)
  else if x-y≥p.Gap then (if h>0 then none else cl p x g 1 out l)
  else if ziq p (x-y) then (if h>0 then cl p x g (h+1) out l else cl p x (g+1) h out l)
  else none
def clean (p:Pulse):List Int->Option (List Int)
 | []=>some []
 | x::l=>cl p x 1 0 [] l
def zfs:Option (List Int)->List Int×Bool
 | none=>([],false)
 | some l=>(l,true)
theorem zlI (p:Pulse) (hv:valid p=true) (g h:Int) (hg:1<=g/\g<=100000) (hh:0<=h/\h<=100000) (out:List Int) (ho:out.length<100000) :
  zcC (⟨g,h⟩:Groups_) (⟨p⟩:Train_) out=some (good p g h,out++[selOf p g h]):=by
 obtain ⟨v1,v2,_⟩:=valid_iff hv
 have hm:0<=(g-1)*p.Numbers/\(g-1)*p.Numbers<=100000*5:=⟨Int.mul_nonneg (by omega) (by omega),Int.mul_le_mul (by omega) v2.2 (by omega) (by omega)⟩
 unfold zcC
 simp only
 rw [zaH (x:=g-1) (by omega) (by omega),zaH (x:=(g-1)*p.Numbers) (by omega) (by omega),zaH (x:=(g-1)*p.Numbers+h) (by omega) (by omega),zaH (by omega) (by omega),zg9 (by simp;omega)]
 simp only [Option.bind_some,within_eq,zb6,good,selOf]
 cases inR g 1 p.Letters<;>simp
theorem zts (p:Pulse) (hv:valid p=true) (d:Int):zet (⟨p⟩:Train_) d=some (if d≥p.Pause then 3 else if d≥p.Gap then 2 else if ziq p d then 1 else 0):=by
 obtain ⟨v1,v2,v3,v4,v5,v6,_⟩:=valid_iff hv
 unfold zet
 simp only [within_eq,Option.bind_some]
 rw [zaH (x:=p.Pitch-p.Slack) (by omega) (by omega),zaH (x:=p.Pitch+p.Slack) (by omega) (by omega)]
 simp only [decide_eq_true_eq]
 split
 ·rfl
 ·split
  ·rfl
  ·show (if ziq p d=true then _ else _)=_
   cases ziq p d<;>rfl
theorem zuI (p:Pulse) (hv:valid p=true) (a1:List Int) (ha:a1.length<=1000) (htm:∀x,x∈a1->0<=x/\x<=99999):∀(l pre:List Int) (m:Nat) (y g h:Int) (out:List Int),a1=pre++y::l->l.length<m ->
  1<=g/\g<=pre.length+1->0<=h/\h<=pre.length+1->out.length<=pre.length->zaM (⟨p⟩:Train_) a1 m ((pre.length:Int)+1) g h out=some (zfs (cl p y g h out l)):=by
 intro l
 induction l with
 | nil =>
  intro pre m y g h out he hm hg hh ho
  have hl:a1.length=pre.length+1:=by simp [he]
  obtain ⟨m,rfl⟩:∃k,m=k+1:=⟨m-1,by omega⟩
  simp only [zaM,zbK,zcD]
  rw [if_neg (by simp;omega),if_pos (by simp;omega),zlI p hv g h (by omega) (by omega) out (by omega)]
  simp only [Option.bind_some,zcc,cl]
  cases good p g h<;>simp [zfs]
 | cons x l ih =>
  intro pre m y g h out he hm hg hh ho
  simp at hm
  have hl:a1.length=pre.length+(l.length+2):=by simp [he]
  obtain ⟨m,rfl⟩:∃k,m=k+1:=⟨m-1,by omega⟩
  have hx:=htm x (by simp [he])
  have hy:=htm y (by simp [he])
  have i1:idx a1 ((pre.length:Int)+1)=some x:=by
   have:=zb3 (pre++[y]) x l
   rw [show (((pre++[y]).length:Nat):Int)=(pre.length:Int)+1 by simp] at this
   rw [he];simpa using this
  have i2:idx a1 (w64 ((pre.length:Int)+1-1))=some y:=by
   rw [zaH (by omega) (by omega),show (pre.length:Int)+1-1=pre.length by omega,he,zb3]
  have hr:∀(g' h':Int) (out':List Int),1<=g'/\g'<=pre.length+2->0<=h'/\h'<=pre.length+2->out'.length<=pre.length+1 ->
    zaX (zaM (⟨p⟩:Train_) a1 m) ((pre.length:Int)+1) g' h' out'=some (zfs (cl p x g' h' out' l)):=fun g' h' out' hg' hh' ho'=>by
   have:=ih (pre++[y]) m x g' h' out' (by simp [he]) (by omega) (by simp;omega) (by simp;omega) (by simp;omega)
   rw [show (((pre++[y]).length:Nat):Int)=(pre.length:Int)+1 by simp] at this
   simp only [zaX]
   rw [zaH (by omega) (by omega)]
   exact this
  simp only [zaM,zbK]
  rw [if_pos (by simp;omega),i1]
  simp only [Option.bind_some]
  rw [if_neg (by simp;omega),i2]
  simp only [Option.bind_some]
  rw [zaH (x:=x-y) (by omega) (by omega),zts p hv]
  simp only [Option.bind_some,cl]
  by_cases d1:x-y≥p.Pause
  ·simp only [d1,if_true]
   rw [if_neg (by decide),if_neg (by decide),if_pos (by decide),zlI p hv g h (by omega) (by omega) out (by omega)]
   simp only [Option.bind_some]
   cases good p g h with
   | false=>simp [zfs]
   | true=>simpa using hr 1 0 (out++[selOf p g h]) (by omega) (by omega) (by simp;omega)
  ·simp only [d1,if_false]
   by_cases d2:x-y≥p.Gap
   ·simp only [d2,if_true]
    rw [if_neg (by decide),if_pos (by decide)]
    by_cases hp:h>0
    ·simp [hp,zfs]
    ·simp only [hp,if_false]
     rw [if_neg (by simpa using hp)]
     exact hr g 1 out (by omega) (by omega) (by omega)
   ·simp only [d2,if_false]
    cases hsd:ziq p (x-y) with
    | false=>simp [zfs]
    | true =>
     simp only [if_true]
     rw [if_pos (by decide)]
     by_cases hp:h>0
     ·rw [if_pos (by simpa using hp),zaH (by omega) (by omega)]
      simp only [hp,if_true]
      exact hr g (h+1) out (by omega) (by omega) (by omega)
     ·rw [if_neg (by simpa using hp),zaH (by omega) (by omega)]
      simp only [hp,if_false]
      exact hr (g+1) h out (by omega) (by omega) (by omega)
theorem ztt {n:Nat} (p:Pulse) (hv:valid p=true) (l:List Int) (ha:l.length<=1000) (htm:∀x,x∈l->0<=x/\x<=99999) (hn:1002<=n):zeu n (⟨p⟩:Train_) l=some (zfs (clean p l)):=by
 obtain ⟨n,rfl⟩:∃k,n=k+1:=⟨n-1,by omega⟩
 unfold zeu
 cases l with
 | nil=>simp [zaM,zbK,zcD,zcc,clean,zfs]
 | cons x l =>
  have h:=zuI p hv (x::l) ha htm l [] n x 1 0 [] rfl (by simp at ha;omega) (by simp) (by simp) (by simp)
  simp only [zaM,zbK]
  rw [if_pos (by simp<;>omega),show idx (x::l) 0=some x from rfl]
  simp only [Option.bind_some]
  rw [if_pos (by decide)]
  simp only [zaX]
  rw [show w64 (0+1)=1 by decide]
  simpa [clean] using h
end Pu
namespace Pu
def run (p:Pulse):Int->List Int->Nat×Int×List Int
 | y,[]=>(0,y,[])
 | y,x::l=>if ziq p (x-y) then ((run p x l).1+1,(run p x l).2) else (0,y,x::l)
theorem zk0 (p:Pulse):∀(l:List Int) (y:Int),∃q,y::l=q++(run p y l).2.1::(run p y l).2.2/\q.length=(run p y l).1
 | [],y=>⟨[],rfl,rfl⟩
 | x::l,y=>by
  simp only [run]
  cases h:ziq p (x-y) with
  | false=>exact ⟨[],rfl,rfl⟩
  | true =>
   obtain ⟨q,h1,h2⟩:=zk0 p l x
   exact ⟨y::q,by simp only [if_true,List.cons_append];rw [←h1],by simp [h2]⟩
theorem zmw (p:Pulse):∀(l:List Int) (y x:Int) (l':List Int),(run p y l).2.2=x::l'->ziq p (x-(run p y l).2.1)=false
 | [],y,x,l',h=>by simp [run] at h
 | z::l,y,x,l',h=>by
  simp only [run] at h ⊢
  cases hs:ziq p (z-y) with
  | true =>
   rw [hs] at h
   simp only [if_true] at h ⊢
   exact zmw p l z x l' h
  | false =>
   rw [hs] at h
   simp only [Bool.false_eq_true,if_false] at h ⊢
   injection h with h1 h2
   rw [←h1]
   exact hs
theorem zq5 {p:Pulse} (hv:valid p=true) {d:Int} (h:ziq p d=true):¬d≥p.Pause/\¬d≥p.Gap:=by
 obtain ⟨v1,v2,v3,v4,v5,v6,_⟩:=valid_iff hv
 have:=zcQ.1 h
 omega
theorem clA {p:Pulse} (hv:valid p=true):∀(l:List Int) (y g:Int) (out:List Int),cl p y g 0 out l=cl p (run p y l).2.1 (g+(run p y l).1) 0 out (run p y l).2.2
 | [],y,g,out=>by simp [run]
 | x::l,y,g,out=>by
  cases hs:ziq p (x-y) with
  | true =>
   obtain ⟨d1,d2⟩:=zq5 hv hs
   have h:=clA hv l x (g+1) out
   simp only [run,hs,if_true]
   rw [cl]
   simp only [d1,d2,hs,if_false,if_true]
   rw [if_neg (by omega),h,show g+1+((run p x l).1:Int)=g+(((run p x l).1+1:Nat):Int) by push_cast;omega]
  | false=>simp [run,hs]
theorem clB {p:Pulse} (hv:valid p=true):∀(l:List Int) (y g h:Int) (out:List Int),0<h->cl p y g h out l=cl p (run p y l).2.1 g (h+(run p y l).1) out (run p y l).2.2
 | [],y,g,h,out,_=>by simp [run]
 | x::l,y,g,h,out,hp=>by
  cases hs:ziq p (x-y) with
  | true =>
   obtain ⟨d1,d2⟩:=zq5 hv hs
   have h':=clB hv l x g (h+1) out (by omega)
   simp only [run,hs,if_true]
   rw [cl]
   simp only [d1,d2,hs,if_false,if_true]
   rw [if_pos hp,h',show h+1+((run p x l).1:Int)=h+(((run p x l).1+1:Nat):Int) by push_cast;omega]
  | false=>simp [run,hs]
theorem ztu (p:Pulse) (hv:valid p=true) (a1:List Int) (ha:a1.length<=1000) (htm:∀x,x∈a1->0<=x/\x<=99999) (at_:Nat):∀(l pre:List Int) (m i:Nat) (y:Int),a1=pre++y::l->pre.length+1=at_+i->l.length<m ->
  zcn p a1 (at_:Int) m (i:Int)=some ((i:Int)+(run p y l).1):=by
 obtain ⟨v1,v2,v3,v4,v5,v6,_⟩:=valid_iff hv
 intro l
 induction l with
 | nil =>
  intro pre m i y he hi hm
  have hl:a1.length=pre.length+1:=by simp [he]
  obtain ⟨m,rfl⟩:∃k,m=k+1:=⟨m-1,by omega⟩
  simp only [zcn,zeQ,zdV,zeG]
  rw [zaH (x:=(at_:Int)+i) (by omega) (by omega),if_neg (by simp;omega),if_neg (by simp)]
  simp [run]
 | cons x l ih =>
  intro pre m i y he hi hm
  simp at hm
  have hl:a1.length=pre.length+(l.length+2):=by simp [he]
  obtain ⟨m,rfl⟩:∃k,m=k+1:=⟨m-1,by omega⟩
  have hx:=htm x (by simp [he])
  have hy:=htm y (by simp [he])
  have i1:idx a1 ((at_:Int)+i)=some x:=by
   have:=zb3 (pre++[y]) x l
   rw [show (((pre++[y]).length:Nat):Int)=(at_:Int)+i by simp;omega] at this
   rw [he];simpa using this
  have i2:idx a1 ((at_:Int)+i-1)=some y:=by
   rw [show (at_:Int)+i-1=pre.length by omega,he,zb3]
  simp only [zcn,zeQ,zdV,zeG]
  rw [zaH (x:=(at_:Int)+i) (by omega) (by omega),if_pos (by simp;omega),i1]
  simp only [Option.bind_some]
  rw [zaH (x:=(at_:Int)+i-1) (by omega) (by omega),i2]
  simp only [Option.bind_some,zhh]
  rw [zaH (x:=x-y) (by omega) (by omega),zaH (x:=p.Pitch-p.Slack) (by omega) (by omega),zaH (x:=p.Pitch+p.Slack) (by omega) (by omega)]
  show (if ziq p (x-y)=true then _ else _)=_
  simp only [run]
  cases hs:ziq p (x-y) with
  | false=>simp
  | true =>
   simp only [if_true]
   rw [zaH (by omega) (by omega)]
   have h:=ih (pre++[y]) m (i+1) x (by simp [he]) (by simp;omega) (by omega)
   push_cast at h ⊢
   rw [h]
   congr 1
   omega
theorem zoM {n:Nat} (p:Pulse) (hv:valid p=true) (a1:List Int) (ha:a1.length<=1000) (htm:∀x,x∈a1->0<=x/\x<=99999) (hn:1002<=n) (l pre:List Int) (y:Int) (he:a1=pre++y::l) :
  zhv n p a1 (pre.length:Int)=some (1+((run p y l).1:Int)):=by
 have hl:a1.length=pre.length+(l.length+1):=by simp [he]
 exact ztu p hv a1 ha htm pre.length l pre n 1 y he rfl (by omega)
theorem zng (p:Pulse) (g:Int):good p g 0=false:=by
 unfold good
 have:inR 0 1 p.Numbers=false:=by simp [inR]
 rw [this,Bool.and_false]
theorem zuJ {p:Pulse} {y g h:Int} {out l:List Int} (hg:good p g h=false) (hh:0<h) (hs:∀x l',l=x::l'->ziq p (x-y)=false):cl p y g h out l=none:=by
 cases l with
 | nil=>simp [cl,hg]
 | cons x l =>
  simp only [cl,hg,hs x l rfl,hh,if_true]
  simp
theorem ztv {n:Nat} (p:Pulse) (hv:valid p=true) (a1:List Int) (ha:a1.length<=1000) (htm:∀x,x∈a1->0<=x/\x<=99999) (hn:1002<=n):∀(N:Nat) (l pre:List Int) (m:Nat) (y:Int) (out:List Int),l.length<N->a1=pre++y::l->l.length+1<m ->
  out.length<=pre.length->zaY n p a1 m out (pre.length:Int)=some (zfs (cl p y 1 0 out l)):=by
 obtain ⟨v1,v2,v3,v4,v5,v6,_⟩:=valid_iff hv
 intro N
 induction N with
 | zero=>intro l pre m y out hN;omega
 | succ N ih =>
  intro l pre m y out hN he hm ho
  obtain ⟨m,rfl⟩:∃k,m=k+1:=⟨m-1,by omega⟩
  have hl:a1.length=pre.length+(l.length+1):=by simp [he]
  obtain ⟨q1,hq1,hq1l⟩:=zk0 p l y
  have hst:=zmw p l y
  rw [clA hv]
  simp only [zaY,zdO]
  rw [if_pos (by simp;omega),zoM p hv a1 ha htm hn l pre y he]
  simp only [Option.bind_some]
  have he1:a1=(pre++q1)++(run p y l).2.1::(run p y l).2.2:=by rw [List.append_assoc,←hq1];exact he
  have hlen1:l.length+1=(run p y l).1+((run p y l).2.2.length+1):=by
   have:=congrArg List.length hq1
   simp at this
   omega
  generalize (run p y l).1=r1 at hq1l hlen1 ⊢
  generalize (run p y l).2.1=y1 at he1 hst ⊢
  generalize (run p y l).2.2=l1 at he1 hst hlen1 ⊢
  have hL:(pre++q1).length=pre.length+r1:=by simp [hq1l]
  have hpos:w64 ((pre.length:Int)+(1+(r1:Int)))=(((pre++q1).length:Nat):Int)+1:=by rw [zaH (by omega) (by omega),hL];push_cast;omega
  rw [hpos]
  have hzero:∀rec1:List Int->Int->Option (List Int×Bool),zdk n rec1 p a1 out (pre.length:Int) (1+(r1:Int)) false=some ([],false):=fun rec1=>by
   simp only [zdk,zdX,zhh,Option.bind_some,zb0]
   rw [if_neg (by simp)]
   split
   ·simp
   ·rw [show inR 0 1 p.Numbers=false by simp [inR]];simp
  cases l1 with
  | nil =>
   have:a1.length=(pre++q1).length+1:=by rw [he1];simp;omega
   rw [if_neg (by simp only [decide_eq_true_eq];omega),hzero]
   simp [cl,zng,zfs]
  | cons x l2 =>
   have hs1:=hst x l2 rfl
   have hlen:a1.length=(pre++q1).length+(l2.length+2):=by rw [he1];simp;omega
   have hx:=htm x (by rw [he1];simp)
   have hy1:=htm y1 (by rw [he1];simp)
   have i1:idx a1 ((((pre++q1).length:Nat):Int)+1)=some x:=by
    have:=zb3 ((pre++q1)++[y1]) x l2
    rw [show (((pre++q1++[y1]).length:Nat):Int)=(((pre++q1).length:Nat):Int)+1 by simp;omega] at this
    rw [he1];simpa using this
   have i2:idx a1 (w64 ((((pre++q1).length:Nat):Int)+1-1))=some y1:=by
    rw [zaH (by omega) (by omega),show (((pre++q1).length:Nat):Int)+1-1=((pre++q1).length:Nat) by omega,he1,zb3]
   rw [if_pos (by simp only [decide_eq_true_eq];omega),i1]
   simp only [Option.bind_some]
   rw [i2]
   simp only [Option.bind_some,zhh]
   rw [zaH (x:=x-y1) (by omega) (by omega),zaH (x:=p.Pause-1) (by omega) (by omega)]
   cases hw:inR (x-y1) p.Gap (p.Pause-1) with
   | false =>
    rw [hzero,cl]
    have:cl p y1 (1+(r1:Int)) 0 out (x::l2)=none:=by
     simp only [cl,hs1,zng]
     split
     ·simp
     ·split
      ·rename_i d1 d2
       have:inR (x-y1) p.Gap (p.Pause-1)=true:=zcQ.2 ⟨d2,by omega⟩
       rw [this] at hw;cases hw
      ·simp
    rw [cl] at this
    rw [this]
    rfl
   | true =>
    have hw':=zcQ.1 hw
    obtain ⟨q2,hq2,hq2l⟩:=zk0 p l2 x
    have hst2:=zmw p l2 x
    have hcl:cl p y1 (1+(r1:Int)) 0 out (x::l2)=cl p (run p x l2).2.1 (1+(r1:Int)) (1+((run p x l2).1:Int)) out (run p x l2).2.2:=by
     rw [cl,if_neg (by omega),if_pos (by omega),if_neg (by omega),clB hv l2 x _ 1 out (by omega)]
    rw [hcl]
    simp only [zdk,if_true]
    have hg2:=zoM (n:=n) p hv a1 ha htm hn l2 (pre++q1++[y1]) x (by rw [he1];simp)
    rw [show (((pre++q1++[y1]).length:Nat):Int)=(((pre++q1).length:Nat):Int)+1 by simp;omega] at hg2
    rw [hpos,hg2]
    simp only [Option.bind_some]
    have he2:a1=(pre++q1++[y1]++q2)++(run p x l2).2.1::(run p x l2).2.2:=by
     rw [List.append_assoc,←hq2,he1];simp
    have hlen2:l2.length+1=(run p x l2).1+((run p x l2).2.2.length+1):=by
     have:=congrArg List.length hq2
     simp at this
     omega
    generalize (run p x l2).1=r2 at hq2l hlen2 ⊢
    generalize (run p x l2).2.1=y2 at he2 hst2 ⊢
    generalize (run p x l2).2.2=l3 at he2 hst2 hlen2 ⊢
    have hP:(pre++q1++[y1]++q2).length=pre.length+r1+1+r2:=by simp [hq1l,hq2l];omega
    simp only [zdX,zhh,Option.bind_some]
    have hsel:∀b,(if decide (1+(r1:Int)>p.Letters)=true then zb0 b p a1 out (pre.length:Int) (1+(r1:Int)) (1+(r2:Int)) true else zb0 b p a1 out (pre.length:Int) (1+(r1:Int)) (1+(r2:Int)) (!inR (1+(r2:Int)) 1 p.Numbers))=zb0 b p a1 out (pre.length:Int) (1+(r1:Int)) (1+(r2:Int)) (!good p (1+(r1:Int)) (1+(r2:Int))):=fun b=>by
     unfold good
     by_cases hL:1+(r1:Int)>p.Letters
     ·have:inR (1+(r1:Int)) 1 p.Letters=false:=by simp [inR];omega
      rw [if_pos (by simpa using hL),this];simp
     ·have:inR (1+(r1:Int)) 1 p.Letters=true:=zcQ.2 ⟨by omega,by omega⟩
      rw [if_neg (by simpa using hL),this];simp
    rw [hsel]
    cases hgd:good p (1+(r1:Int)) (1+(r2:Int)) with
    | false =>
     rw [zuJ hgd (by omega) hst2]
     simp [zb0,zfs]
    | true =>
     have hpos2:w64 ((pre.length:Int)+w64 (1+(r1:Int)+(1+(r2:Int))))=(((pre++q1++[y1]++q2).length:Nat):Int)+1:=by
      rw [zaH (x:=1+(r1:Int)+(1+(r2:Int))) (by omega) (by omega),zaH (by omega) (by omega),hP];push_cast;omega
     have hmul:0<=(r1:Int)*p.Numbers/\(r1:Int)*p.Numbers<=1000*5:=⟨Int.mul_nonneg (by omega) (by omega),Int.mul_le_mul (by omega) v2.2 (by omega) (by omega)⟩
     have hso:w64 (w64 (w64 (w64 (1+(r1:Int)-1)*p.Numbers)+(1+(r2:Int)))-1)=selOf p (1+(r1:Int)) (1+(r2:Int)):=by
      unfold selOf
      rw [show (1:Int)+r1-1=r1 by omega,zaH (x:=(r1:Int)) (by omega) (by omega),zaH (x:=(r1:Int)*p.Numbers) (by omega) (by omega),zaH (x:=(r1:Int)*p.Numbers+(1+(r2:Int))) (by omega) (by omega),zaH (by omega) (by omega)]
     simp only [Bool.not_true,zb0,Bool.false_eq_true,if_false]
     rw [hso,zg9 (by simp;omega)]
     simp only [Option.bind_some]
     rw [hpos2]
     cases l3 with
     | nil =>
      have hend:a1.length=(pre++q1++[y1]++q2).length+1:=by rw [he2];simp;omega
      rw [if_neg (by simp only [decide_eq_true_eq];omega)]
      simp only [zdW,Bool.false_eq_true,if_false]
      rw [hpos2]
      obtain ⟨m,rfl⟩:∃k,m=k+1:=⟨m-1,by omega⟩
      simp only [zaY,zdO,zeH]
      rw [if_neg (by simp only [decide_eq_true_eq];omega)]
      simp [cl,hgd,zfs]
     | cons z l4 =>
      have hs2:=hst2 z l4 rfl
      have hend:a1.length=(pre++q1++[y1]++q2).length+(l4.length+2):=by rw [he2];simp;omega
      have hz:=htm z (by rw [he2];simp)
      have hy2:=htm y2 (by rw [he2];simp)
      have i3:idx a1 ((((pre++q1++[y1]++q2).length:Nat):Int)+1)=some z:=by
       have:=zb3 ((pre++q1++[y1]++q2)++[y2]) z l4
       rw [show (((pre++q1++[y1]++q2++[y2]).length:Nat):Int)=(((pre++q1++[y1]++q2).length:Nat):Int)+1 by simp;omega] at this
       rw [he2];simpa using this
      have i4:idx a1 (w64 ((((pre++q1++[y1]++q2).length:Nat):Int)+1-1))=some y2:=by
       rw [zaH (by omega) (by omega),show (((pre++q1++[y1]++q2).length:Nat):Int)+1-1=((pre++q1++[y1]++q2).length:Nat) by omega,he2,zb3]
      rw [if_pos (by simp only [decide_eq_true_eq];omega),i3]
      simp only [Option.bind_some]
      rw [i4]
      simp only [Option.bind_some]
      rw [zaH (x:=z-y2) (by omega) (by omega)]
      simp only [zdW]
      by_cases hd:z-y2<p.Pause
      ·rw [if_pos (by simpa using hd),cl,if_neg (by omega)]
       have:¬(ziq p (z-y2)=true):=by rw [hs2];simp
       simp only [this,if_false]
       rw [if_pos (show 1+(r2:Int)>0 by omega)]
       simp [zfs]
      ·rw [if_neg (by simpa using hd),hpos2,cl,if_pos (by omega)]
       have h:=ih l4 (pre++q1++[y1]++q2++[y2]) m z (out++[selOf p (1+(r1:Int)) (1+(r2:Int))]) (by omega) (by rw [he2];simp) (by omega) (by simp;omega)
       rw [show (((pre++q1++[y1]++q2++[y2]).length:Nat):Int)=(((pre++q1++[y1]++q2).length:Nat):Int)+1 by simp;omega] at h
       rw [h]
       simp [hgd]
theorem zsb {n:Nat} (p:Pulse) (hv:valid p=true) (l:List Int) (ha:l.length<=1000) (htm:∀x,x∈l->0<=x/\x<=99999) (hn:1010<=n):zhw n p l=some (zfs (clean p l)):=by
 unfold zhw
 cases l with
 | nil =>
  obtain ⟨n,rfl⟩:∃k,n=k+1:=⟨n-1,by omega⟩
  simp [zaY,zdO,zeH,clean,zfs]
 | cons x l=>exact ztv (n:=n) p hv (x::l) ha htm (by omega) (l.length+1) l [] n x [] (by omega) rfl (by simp at ha;omega) (by simp)
end Pu
namespace Pu
theorem ztw {x:Int} (h0:0<=x) (h1:x<18446744073709551616):IntKind.u64.wrap x=x:=by
 have:IntKind.u64.wrap x=x % 18446744073709551616:=by simp [IntKind.wrap,IntKind.bits,IntKind.signed]
 rw [this]
 omega
theorem ztx {i:Nat} (h:i<60):zp8 1 (i:Int)=some ((2 ^ i:Nat):Int):=by
 unfold zp8
 rw [if_pos (by omega),Int.toNat_natCast,Nat.min_eq_left (by omega)]
 have h2:(2:Nat) ^ i<2 ^ 60:=Nat.pow_lt_pow_right (by omega) h
 have h3:(2:Int) ^ i=((2 ^ i:Nat):Int):=by push_cast;rfl
 have h60:(2:Nat) ^ 60=1152921504606846976:=by decide
 rw [h3]
 generalize (2:Nat) ^ i=w at h2 ⊢
 rw [show (1:Int)*(w:Int)=w by omega,ztw (by omega) (by omega)]
theorem zuK {a b:Nat} (ha:a<2 ^ 60) (hb:b<2 ^ 60):ztZ (a:Int) (b:Int)=((a ||| b:Nat):Int):=by
 have h60:(2:Nat) ^ 60=1152921504606846976:=by decide
 have hab:a ||| b<2 ^ 60:=Nat.or_lt_two_pow ha hb
 unfold ztZ
 have:(BitVec.ofInt 64 (a:Int) ||| BitVec.ofInt 64 (b:Int)).toNat=a ||| b:=by
  rw [BitVec.toNat_or]
  simp only [BitVec.ofInt_natCast,BitVec.toNat_ofNat]
  rw [Nat.mod_eq_of_lt (by omega),Nat.mod_eq_of_lt (by omega)]
 rw [this,ztw (by omega) (by omega)]
theorem zty {a i:Nat} (ha:a<2 ^ 60) (hi:i<60):zfH (a:Int) (i:Int)=some (a.testBit i):=by
 have h60:(2:Nat) ^ 60=1152921504606846976:=by decide
 unfold zfH zrG
 rw [if_pos (by omega),Int.toNat_natCast,Nat.min_eq_left (by omega)]
 have h3:((a:Int)).fdiv (2 ^ i)=((a / 2 ^ i:Nat):Int):=by
  rw [show ((2:Int) ^ i)=((2 ^ i:Nat):Int) by push_cast;rfl]
  generalize (2:Nat) ^ i=w
  rw [Int.fdiv_eq_ediv_of_nonneg _ (by omega)]
  rfl
 rw [h3]
 simp only [Option.bind_some]
 have h4:zmU ((a / 2 ^ i:Nat):Int) 1=((a / 2 ^ i % 2:Nat):Int):=by
  unfold zmU
  have hd:a / 2 ^ i<=a:=Nat.div_le_self _ _
  have:(BitVec.ofInt 64 ((a / 2 ^ i:Nat):Int) &&& BitVec.ofInt 64 1).toNat=a / 2 ^ i % 2:=by
   rw [BitVec.toNat_and]
   simp only [BitVec.ofInt_natCast,BitVec.toNat_ofNat]
   rw [Nat.mod_eq_of_lt (by omega),show (BitVec.ofInt 64 1).toNat=1 by decide,Nat.and_one_is_mod]
  rw [this,ztw (by omega) (by omega)]
 rw [h4,Nat.testBit_eq_decide_div_mod_eq]
 congr 1
 rcases Nat.mod_two_eq_zero_or_one (a / 2 ^ i) with h | h<;>rw [h]<;>decide
def cmb:Nat->List Nat->List (List Nat)
 | 0,_=>[[]]
 | _+1,[]=>[]
 | k+1,i::ps=>(cmb k ps).map (i::·)++cmb (k+1) ps
def bits (first:Nat) (is:List Nat):Nat:=is.foldl (fun a i=>a ||| 2 ^ i) first
end Pu
namespace Pu
def yieldAll {S:Type} (aF:Int->S->Option (Bool×S)):List Int->S->Option (Bool×S)
 | [],s=>some (true,s)
 | x::l,s=>(aF x s).bind fun r=>if r.1=true then yieldAll aF l r.2 else some (false,r.2)
theorem yieldAll_append {S:Type} (aF:Int->S->Option (Bool×S)):∀(l k:List Int) (s:S),yieldAll aF (l++k) s=(yieldAll aF l s).bind fun r=>if r.1=true then yieldAll aF k r.2 else some (false,r.2)
 | [],k,s=>by simp [yieldAll]
 | x::l,k,s=>by
  simp only [List.cons_append,yieldAll]
  cases h:aF x s with
  | none=>rfl
  | some r =>
   simp only [Option.bind_some]
   cases hr:r.1 with
   | true=>simp only [if_true];exact yieldAll_append aF l k r.2
   | false=>simp
def zjZ (first k a m:Nat):List Int:=(cmb k (List.range' a m)).map fun is=>((bits first is:Nat):Int)
theorem zpw (first k a m:Nat):zjZ first (k+1) a (m+1)=zjZ (first ||| 2 ^ a) k (a+1) m++zjZ first (k+1) (a+1) m:=by
 unfold zjZ
 rw [List.range'_succ]
 simp only [cmb,List.map_append,List.map_map]
 rfl
theorem ztz {S:Type} (aF:Int->S->Option (Bool×S)) (p:Pulse) (hl:p.Times.length<=40):∀(k n first a:Nat) (s:S),k+50<=n->k<=1000->first<2 ^ 60->a<=p.Times.length ->
  zbB n aF (⟨p⟩:Train_) (first:Int) (a:Int) (k:Int) s=yieldAll aF (zjZ first k a (p.Times.length-a)) s:=by
 intro k
 induction k with
 | zero =>
  intro n first a s hn hk hf ha
  obtain ⟨n,rfl⟩:∃j,n=j+1:=⟨n-1,by omega⟩
  simp only [zbB,zdC]
  rw [if_pos (by simp)]
  have:zjZ first 0 a (p.Times.length-a)=[(first:Int)]:=by simp [zjZ,cmb,bits]
  rw [this]
  simp only [yieldAll]
  cases h:aF (first:Int) s with
  | none=>rfl
  | some r =>
   simp only [Option.bind_some]
   rcases r with ⟨b,s'⟩
   cases b<;>rfl
 | succ k ih =>
  intro n first a s hn hk hf ha
  obtain ⟨n,rfl⟩:∃j,n=j+1:=⟨n-1,by omega⟩
  simp only [zbB,zdC]
  rw [if_neg (by simp;omega)]
  have key:∀(d m a:Nat) (s:S),d=p.Times.length-a->a<=p.Times.length->d<m ->
    zbE (zbB n aF) (⟨p⟩:Train_) (first:Int) ((k+1:Nat):Int) m (a:Int) s=yieldAll aF (zjZ first (k+1) a d) s:=by
   intro d
   induction d with
   | zero =>
    intro m a s hd ha' hm
    obtain ⟨m,rfl⟩:∃j,m=j+1:=⟨m-1,by omega⟩
    simp only [zbE,zcY,zdn]
    rw [if_neg (by simp;omega)]
    rfl
   | succ d ihd =>
    intro m a s hd ha' hm
    obtain ⟨m,rfl⟩:∃j,m=j+1:=⟨m-1,by omega⟩
    simp only [zbE,zcY]
    rw [if_pos (by simp;omega),ztx (by omega)]
    simp only [Option.bind_some]
    have h2:(2:Nat) ^ a<2 ^ 60:=Nat.pow_lt_pow_right (by omega) (by omega)
    rw [zuK hf h2,zaH (x:=(a:Int)+1) (by omega) (by omega),zaH (x:=((k+1:Nat):Int)-1) (by omega) (by omega)]
    have h3:=ih n (first ||| 2 ^ a) (a+1) s (by omega) (by omega) (Nat.or_lt_two_pow hf h2) (by omega)
    rw [show (((k+1:Nat):Int)-1)=(k:Int) by omega,show ((a:Int)+1)=((a+1:Nat):Int) by omega,h3,zpw,yieldAll_append,show p.Times.length-(a+1)=d by omega]
    cases hy:yieldAll aF (zjZ (first ||| 2 ^ a) k (a+1) d) s with
    | none=>rfl
    | some r =>
     simp only [Option.bind_some]
     cases hr:r.1 with
     | true =>
      simp only [Bool.not_true,Bool.false_eq_true,if_false,if_true]
      exact ihd m (a+1) r.2 (by omega) (by omega) (by omega)
     | false=>simp
  exact key (p.Times.length-a) n a s rfl ha (by omega)
end Pu
namespace Pu
def less (f:Nat->Bool):Nat->List Int->List Int
 | _,[]=>[]
 | i,t::l=>if f i then less f (i+1) l else t::less f (i+1) l
theorem zkc (f:Nat->Bool):∀(l:List Int) (i:Nat) (x:Int),x∈less f i l->x∈l
 | [],_,_,h=>by simp [less] at h
 | t::l,i,x,h=>by
  simp only [less] at h
  split at h
  ·exact List.mem_cons_of_mem _ (zkc f l (i+1) x h)
  ·rcases List.mem_cons.1 h with rfl | h
   ·simp
   ·exact List.mem_cons_of_mem _ (zkc f l (i+1) x h)
theorem zkd (f:Nat->Bool):∀(l:List Int) (i:Nat),(less f i l).length<=l.length
 | [],_=>by simp [less]
 | t::l,i=>by
  have:=zkd f l (i+1)
  simp only [less]
  split<;>simp<;>omega
theorem zmx:∀(l:List Int) (prev:Option Int),zoK prev l=true->∀x,x∈l->0<=x/\x<=99999
 | [],_,_,x,h=>by simp at h
 | t::l,prev,h,x,hx=>by
  simp only [zoK,Bool.and_eq_true] at h
  rcases List.mem_cons.1 hx with rfl | hx
  ·exact zcQ.1 h.1.1
  ·exact zmx l _ h.2 x hx
def zn9 {S:Type} (p:Pulse) (aF:Reading_->S->Option (Bool×S)) (b:Nat) (s:S):Option (Bool×S) :=
 match clean p (less b.testBit 0 p.Times) with
 | none=>some (true,s)
 | some l=>aF (⟨(b:Int),l⟩:Reading_) s
theorem zsc {S:Type} {n:Nat} (p:Pulse) (hv:valid p=true) (hn:1010<=n) (aF:Reading_->S->Option (Bool×S)) (b:Nat) (hb:b<2 ^ 60) (s:S) :
  zbb n aF (b:Int) (⟨p⟩:Train_) s=zn9 p aF b s:=by
 obtain ⟨v1,v2,v3,v4,v5,v6,v7,v8,v9⟩:=valid_iff hv
 have htm:=zmx p.Times none v9
 have key:∀(l pre:List Int) (m:Nat) (left:List Int),p.Times=pre++l->l.length<m->left.length<=pre.length ->
   (left++less b.testBit pre.length l=less b.testBit 0 p.Times)->zaD n (b:Int) aF s (⟨p⟩:Train_) m left (pre.length:Int)=zn9 p aF b s:=by
  intro l
  induction l with
  | nil =>
   intro pre m left he hm hlen hle
   obtain ⟨m,rfl⟩:∃k,m=k+1:=⟨m-1,by omega⟩
   simp only [zaD,zbs]
   rw [if_neg (by simp [he])]
   simp only [less,List.append_nil] at hle
   subst hle
   simp only [zbG]
   rw [ztt p hv _ (by have:=zkd b.testBit p.Times 0;omega) (fun x hx=>htm x (zkc _ _ _ _ hx)) (by omega)]
   simp only [Option.bind_some,zn9]
   cases clean p (less b.testBit 0 p.Times) with
   | none=>simp [zfs,zbe]
   | some l =>
    simp only [zfs,Bool.not_true,Bool.false_eq_true,if_false]
    cases aF (⟨(b:Int),l⟩:Reading_) s with
    | none=>rfl
    | some r=>rfl
  | cons x l ih =>
   intro pre m left he hm hlen hle
   simp at hm
   have hl:p.Times.length=pre.length+(l.length+1):=by simp [he]
   obtain ⟨m,rfl⟩:∃k,m=k+1:=⟨m-1,by omega⟩
   simp only [zaD,zbs]
   rw [if_pos (by simp;omega),show idx p.Times (pre.length:Int)=some x by rw [he,zb3]]
   simp only [Option.bind_some]
   rw [zty hb (by omega)]
   simp only [Option.bind_some,zbf]
   have hc:(((pre++[x]).length:Nat):Int)=(pre.length:Int)+1:=by simp
   cases hbit:b.testBit pre.length with
   | true =>
    simp only [Bool.not_true,Bool.false_eq_true,if_false]
    rw [zaH (by omega) (by omega)]
    have h:=ih (pre++[x]) m left (by simp [he]) (by omega) (by simp;omega) (by rw [←hle];simp [less,hbit])
    rw [hc] at h
    exact h
   | false =>
    simp only [Bool.not_false,if_true]
    rw [zg9 (by simp;omega)]
    simp only [Option.bind_some]
    rw [zaH (by omega) (by omega)]
    have h:=ih (pre++[x]) m (left++[x]) (by simp [he]) (by omega) (by simp;omega) (by rw [←hle];simp [less,hbit])
    rw [hc] at h
    exact h
 exact key p.Times [] n [] rfl (by omega) (by simp) (by simp)
theorem yieldAll_congr {S:Type} {aF bF:Int->S->Option (Bool×S)}:∀(l:List Int) (s:S),(∀x,x∈l->∀s,aF x s=bF x s)->yieldAll aF l s=yieldAll bF l s
 | [],_,_=>rfl
 | x::l,s,h=>by
  simp only [yieldAll]
  rw [h x (by simp) s]
  congr 1
  funext r
  rw [yieldAll_congr l r.2 fun y hy=>h y (by simp [hy])]
theorem zoa:∀(k:Nat) (ps:List Nat) (is:List Nat),is∈cmb k ps->∀i,i∈is->i∈ps
 | 0,_,is,h,i,hi=>by simp [cmb] at h;subst h;simp at hi
 | k+1,[],is,h,_,_=>by simp [cmb] at h
 | k+1,j::ps,is,h,i,hi=>by
  simp only [cmb,List.mem_append,List.mem_map] at h
  rcases h with ⟨is',h1,rfl⟩ | h
  ·rcases List.mem_cons.1 hi with rfl | hi
   ·simp
   ·exact List.mem_cons_of_mem _ (zoa k ps is' h1 i hi)
  ·exact List.mem_cons_of_mem _ (zoa (k+1) ps is h i hi)
theorem zq6:∀(is:List Nat) (first:Nat),first<2 ^ 60->(∀i,i∈is->i<60)->bits first is<2 ^ 60
 | [],_,h,_=>h
 | i::is,first,h,hi=>zq6 is (first ||| 2 ^ i) (Nat.or_lt_two_pow h (Nat.pow_lt_pow_right (by omega) (hi i (by simp)))) fun j hj=>hi j (by simp [hj])
def zk1 (p:Pulse) (k:Nat):List Reading_:=(cmb k (List.range' 0 p.Times.length)).filterMap fun is=>(clean p (less (bits 0 is).testBit 0 p.Times)).map fun l=>(⟨((bits 0 is:Nat):Int),l⟩:Reading_)
end Pu
namespace Pu
theorem zk2:∀(k:Nat) (ps:List Nat),(cmb k ps).length<=(ps.length+1) ^ k
 | 0,ps=>by simp [cmb]
 | k+1,[]=>by simp [cmb]
 | k+1,i::ps=>by
  have h1:=zk2 k ps
  have h2:=zk2 (k+1) ps
  simp only [cmb,List.length_append,List.length_map,List.length_cons]
  have h3:(ps.length+1) ^ k<=(ps.length+1+1) ^ k:=Nat.pow_le_pow_left (by omega) k
  calc (cmb k ps).length+(cmb (k+1) ps).length<=(ps.length+1) ^ k+(ps.length+1) ^ (k+1):=by omega
   _=(ps.length+1) ^ k*(ps.length+1+1):=by rw [Nat.pow_succ,Nat.mul_add (_ ^ k) (ps.length+1) 1];omega
   _<=(ps.length+1+1) ^ k*(ps.length+1+1):=Nat.mul_le_mul_right _ h3
   _=(ps.length+1+1) ^ (k+1):=(Nat.pow_succ ..).symm
theorem zuL {p:Pulse} (hl:p.Times.length<=40) {k:Nat} {is:List Nat} (h:is∈cmb k (List.range' 0 p.Times.length)):bits 0 is<2 ^ 60 :=
 zq6 is 0 (by omega) fun i hi=>by
  have:=zoa k _ is h i hi
  simp at this
  omega
theorem zob {S:Type} {n:Nat} (p:Pulse) (hv:valid p=true) (hn:1100<=n) (aF:Reading_->S->Option (Bool×S)) (k:Nat) (hk:k<=1000) (s:S) :
  zcw n aF (⟨p⟩:Train_) (k:Int) s=(yieldAll (fun x s=>zn9 p aF x.toNat s) (zjZ 0 k 0 p.Times.length) s).bind fun r=>some ((),r.2):=by
 obtain ⟨v1,v2,v3,v4,v5,v6,v7,v8,v9⟩:=valid_iff hv
 unfold zcw
 have h:=ztz (fun (x0:Int) s=>zbb n aF x0 (⟨p⟩:Train_) s) p (by omega) k n 0 0 s (by omega) hk (by decide) (by omega)
 rw [show p.Times.length-0=p.Times.length by omega] at h
 rw [show zbB n (fun (x0:Int) s=>zbb n aF x0 (⟨p⟩:Train_) s) (⟨p⟩:Train_) 0 0 (k:Int) s=_ from h]
 rw [yieldAll_congr (bF:=fun x s=>zn9 p aF x.toNat s) _ _ fun x hx s=>?_]
 unfold zjZ at hx
 obtain ⟨is,his,rfl⟩:=List.mem_map.1 hx
 rw [zsc p hv (by omega) aF (bits 0 is) (zuL (by omega) his) s]
 simp
theorem zjE (p:Pulse):∀(L:List (List Nat)) (out:List Reading_),out.length+L.length<=1048576 ->
  yieldAll (fun x s=>zn9 p za4 x.toNat s) (L.map fun is=>((bits 0 is:Nat):Int)) out =
   some (true,out++L.filterMap fun is=>(clean p (less (bits 0 is).testBit 0 p.Times)).map fun l=>(⟨((bits 0 is:Nat):Int),l⟩:Reading_))
 | [],out,_=>by simp [yieldAll]
 | is::L,out,h=>by
  simp at h
  simp only [List.map_cons,yieldAll,zn9,Int.toNat_natCast,List.filterMap_cons]
  cases clean p (less (bits 0 is).testBit 0 p.Times) with
  | none =>
   simp only [Option.bind_some,if_true,Option.map_none]
   exact zjE p L out (by omega)
  | some l =>
   simp only [za4]
   rw [zg9 (by simp;omega)]
   simp only [Option.bind_some,if_true,Option.map_some]
   refine Eq.trans (zjE p L (out++[(⟨((bits 0 is:Nat):Int),l⟩:Reading_)]) (by simp;omega)) ?_
   simp
theorem znh {n:Nat} (p:Pulse) (hv:valid p=true) (hn:1100<=n) (k:Nat) (hk:k<=3) (out:List Reading_) (ho:out.length<=500000) :
  zbH n out (⟨p⟩:Train_) (k:Int)=some (out++zk1 p k):=by
 obtain ⟨v1,v2,v3,v4,v5,v6,v7,v8,v9⟩:=valid_iff hv
 unfold zbH
 rw [zob p hv hn _ k (by omega) out]
 have hlen:=zk2 k (List.range' 0 p.Times.length)
 have hb:((List.range' 0 p.Times.length).length+1) ^ k<=25 ^ 3:=Nat.le_trans (Nat.pow_le_pow_left (by simp;omega) k) (Nat.pow_le_pow_right (by omega) hk)
 have h25:25 ^ 3=15625:=by decide
 unfold zjZ
 rw [zjE p _ out (by omega)]
 rfl
theorem zpx (p:Pulse) (hl:p.Times.length<=24) (k:Nat) (hk:k<=3):(zk1 p k).length<=15625:=by
 unfold zk1
 have h1:=List.length_filterMap_le (fun is=>(clean p (less (bits 0 is).testBit 0 p.Times)).map fun l=>(⟨((bits 0 is:Nat):Int),l⟩:Reading_)) (cmb k (List.range' 0 p.Times.length))
 have hlen:=zk2 k (List.range' 0 p.Times.length)
 have hb:((List.range' 0 p.Times.length).length+1) ^ k<=25 ^ 3:=Nat.le_trans (Nat.pow_le_pow_left (by simp;omega) k) (Nat.pow_le_pow_right (by omega) hk)
 have h25:25 ^ 3=15625:=by decide
 omega
def readsTo (p:Pulse) (a:Nat):Nat->List Reading_
 | 0=>[]
 | d+1=>zk1 p a++readsTo p (a+1) d
theorem zuM {S:Type} {n:Nat} (p:Pulse) (hv:valid p=true) (hn:1100<=n) (r3:Bool×S):∀(d k m:Nat) (out:List Reading_),(d:Int)+k=p.Sparks+1->d<m->out.length<=20000*k ->
  zcL n p r3 m out (k:Int)=zeC r3 (out++readsTo p k d):=by
 obtain ⟨v1,v2,v3,v4,v5,v6,v7,v8,v9⟩:=valid_iff hv
 intro d
 induction d with
 | zero =>
  intro k m out hd hm ho
  obtain ⟨m,rfl⟩:∃j,m=j+1:=⟨m-1,by omega⟩
  simp only [zcL,zeN]
  rw [zaH (x:=p.Sparks+1) (by omega) (by omega),if_neg (by simp;omega)]
  simp [readsTo]
 | succ d ih =>
  intro k m out hd hm ho
  obtain ⟨m,rfl⟩:∃j,m=j+1:=⟨m-1,by omega⟩
  simp only [zcL,zeN]
  rw [zaH (x:=p.Sparks+1) (by omega) (by omega),if_pos (by simp;omega),znh p hv hn k (by omega) out (by omega)]
  simp only [Option.bind_some]
  rw [zaH (by omega) (by omega)]
  have hl:=zpx p v8 k (by omega)
  have h:=ih (k+1) m (out++zk1 p k) (by push_cast at hd ⊢;omega) (by omega) (by simp;omega)
  push_cast at h
  rw [h,readsTo,List.append_assoc]
theorem open_eq {S:Type} {n:Nat} (p:Pulse) (hs:p.Times.length<=1000) (hn:1100<=n) (aF:Train_->S->Option (Bool×S)) (st:S) (b:Bool) (st':S) (hF:valid p=true->aF (⟨p⟩:Train_) st=some (b,st')) :
  ∃s'',zeg n aF p st=some ((if valid p=true then (if b=true then (if readsTo p 0 (p.Sparks+1).toNat=[] then ([],3) else (readsTo p 0 (p.Sparks+1).toNat,0)) else ([],1)) else ([],130)),s''):=by
 unfold zeg
 rw [Check_eq p (by omega) (by omega) (by omega)]
 simp only [Option.bind_some]
 cases hv:valid p with
 | false=>exact ⟨st,by simp⟩
 | true =>
  obtain ⟨v1,v2,v3,v4,v5,v6,v7,v8,v9⟩:=valid_iff hv
  simp only [cond_true,bne_self_eq_false,Bool.false_eq_true,if_false,hF hv,Option.bind_some,if_true]
  cases b with
  | false=>exact ⟨st',by simp⟩
  | true =>
   have h:=zuM (n:=n) p hv hn (true,st') (p.Sparks+1).toNat 0 n [] (by simp;omega) (by omega) (by simp)
   simp only [Bool.not_true,Bool.false_eq_true,if_false,if_true]
   rw [show zcL n p (true,st') n [] 0=_ from h]
   simp only [List.nil_append,zeC]
   by_cases hr:readsTo p 0 (p.Sparks+1).toNat=[]
   ·exact ⟨st',by simp [hr]⟩
   ·refine ⟨st',?_⟩
    rw [if_neg (by have:=List.length_pos_iff.2 hr;simp;omega),if_neg hr]
end Pu
namespace Pu
def sgo (f:List Nat->List (List Nat)):List Nat->List (List Nat)
 | []=>[]
 | i::ps=>(f ps).map (i::·)++sgo f ps
def sub:Nat->List Nat->List (List Nat)
 | 0,_=>[[]]
 | k+1,ps=>[]::sgo (sub k) ps
def zvx (k:Nat) (ps:List Nat):List (List Nat):=(List.range (k+1)).flatMap fun j=>cmb j ps
theorem zoN {f g:List Nat->List (List Nat)} (h:∀ps,(f ps).Perm (g ps)):∀ps,(sgo f ps).Perm (sgo g ps)
 | []=>.refl _
 | i::ps=>((h ps).map _).append (zoN h ps)
theorem zoO {α β:Type} (f g:α->List β):∀L:List α,(L.flatMap f++L.flatMap g).Perm (L.flatMap fun x=>f x++g x)
 | []=>.refl _
 | x::L=>by
  simp only [List.flatMap_cons,List.append_assoc]
  refine List.Perm.append_left _ ?_
  exact (List.perm_append_comm_assoc (L.flatMap f) (g x) (L.flatMap g)).trans (List.Perm.append_left _ (zoO f g L))
theorem zoP (L:List Nat):∀ps,(sgo (fun ps=>L.flatMap fun j=>cmb j ps) ps).Perm (L.flatMap fun j=>cmb (j+1) ps)
 | []=>by
  simp only [sgo]
  have:(L.flatMap fun j=>cmb (j+1) ([]:List Nat))=[]:=by simp [cmb]
  rw [this]
 | i::ps=>by
  simp only [sgo,cmb]
  have h:=zoP L ps
  refine ((List.Perm.refl _).append h).trans ?_
  rw [List.map_flatMap]
  exact zoO _ _ L
theorem zke:∀(k:Nat) (ps:List Nat),(sub k ps).Perm (zvx k ps)
 | 0,ps=>by simp [sub,zvx,cmb]
 | k+1,ps=>by
  have h1:=zoN (fun ps=>zke k ps) ps
  have h2:=zoP (List.range (k+1)) ps
  simp only [sub]
  unfold zvx
  rw [List.range_succ_eq_map]
  simp only [List.flatMap_cons,cmb,List.singleton_append,List.flatMap_map]
  exact (h1.trans h2).cons _
theorem zmy (m K:Nat) (ps:List Nat) (hm:ps.length<=m):∀(k:Nat),k<=K+1->((List.range k).flatMap fun j=>cmb j ps).length<=k*(m+1) ^ K
 | 0,_=>by simp
 | k+1,hk=>by
  have h:=zmy m K ps hm k (by omega)
  have h1:=zk2 k ps
  have h2:(ps.length+1) ^ k<=(m+1) ^ k:=Nat.pow_le_pow_left (by omega) k
  have h3:(m+1) ^ k<=(m+1) ^ K:=Nat.pow_le_pow_right (by omega) (by omega)
  rw [List.range_succ,List.flatMap_append,List.length_append,Nat.add_mul]
  simp only [List.flatMap_cons,List.flatMap_nil,List.append_nil]
  omega
theorem zq7 {k:Nat} {ps:List Nat} (hk:k<=3) (hp:ps.length<=24):(sub k ps).length<=62500:=by
 rw [(zke k ps).length_eq]
 refine Nat.le_trans (zmy 24 3 ps hp (k+1) (by omega)) ?_
 have h25:(24+1) ^ 3=15625:=by decide
 rw [h25]
 omega
def zgU (is:List Nat):List Int:=List.map (fun (i:Nat)=>(i:Int)) is
theorem zsd (many:Nat) (hmany:many<=24):∀(k n a:Nat) (first:List Int),k<=3->k+50<=n->a<=many->first.length<=100-k ->
  zey n first (a:Int) (many:Int) (k:Int)=some ((sub k (List.range' a (many-a))).map fun is=>first++zgU is):=by
 intro k
 induction k with
 | zero =>
  intro n a first hk hn ha hf
  obtain ⟨n,rfl⟩:∃j,n=j+2:=⟨n-2,by omega⟩
  simp only [zey,zgZ,zcm,zel,zdH,zfi,sub,zgU]
  split<;>simp
 | succ k ih =>
  intro n a first hk hn ha hf
  obtain ⟨n,rfl⟩:∃j,n=j+1:=⟨n-1,by omega⟩
  simp only [zey,zgZ]
  have key:∀(d m a:Nat) (out:List (List Int)),d=many-a->a<=many->d<m->out.length+(sgo (sub k) (List.range' a d)).length<=1000000 ->
    zcm (zey n) first (many:Int) ((k+1:Nat):Int) m out (a:Int)=some (out++(sgo (sub k) (List.range' a d)).map fun is=>first++zgU is):=by
   intro d
   induction d with
   | zero =>
    intro m a out hd ha' hm hlen
    obtain ⟨m,rfl⟩:∃j,m=j+1:=⟨m-1,by omega⟩
    simp only [zcm,zel,zdH,zfi]
    rw [if_neg (by simp;omega)]
    simp [sgo]
   | succ d ihd =>
    intro m a out hd ha' hm hlen
    obtain ⟨m,rfl⟩:∃j,m=j+1:=⟨m-1,by omega⟩
    rw [List.range'_succ] at hlen ⊢
    simp only [sgo,List.length_append,List.length_map] at hlen
    simp only [zcm,zel,zdH]
    rw [if_pos (by simp<;>omega),if_pos (by simp<;>omega),zg9 (by simp<;>omega)]
    simp only [Option.bind_some,List.nil_append]
    rw [zg9 (by simp;omega)]
    simp only [Option.bind_some]
    rw [zaH (x:=(a:Int)+1) (by omega) (by omega),zaH (x:=((k+1:Nat):Int)-1) (by omega) (by omega)]
    have h:=ih n (a+1) (first++[(a:Int)]) (by omega) (by omega) (by omega) (by simp;omega)
    rw [show (((k+1:Nat):Int)-1)=(k:Int) by omega,show ((a:Int)+1)=((a+1:Nat):Int) by omega,h,show many-(a+1)=d by omega]
    simp only [Option.bind_some]
    rw [zg9 (by simp;omega)]
    simp only [Option.bind_some]
    rw [ihd m (a+1) _ (by omega) (by omega) (by omega) (by simp;omega)]
    simp [sgo,zgU]
  have hl:=zq7 (k:=k+1) (ps:=List.range' a (many-a)) (by omega) (by simp;omega)
  simp only [sub,List.length_cons] at hl
  rw [key (many-a) n a [first] rfl ha (by omega) (by simp;omega)]
  simp [sub,zgU]
end Pu
namespace Pu
theorem zni:∀(is:List Nat) (first j:Nat),(bits first is).testBit j=(first.testBit j || is.contains j)
 | [],first,j=>by simp [bits]
 | i::is,first,j=>by
  have h:=zni is (first ||| 2 ^ i) j
  rw [show bits first (i::is)=bits (first ||| 2 ^ i) is from rfl,h,Nat.testBit_or,Nat.testBit_two_pow]
  simp only [List.contains_cons,Bool.or_assoc]
  congr 1
  congr 1
  by_cases e:i=j
  ·subst e;simp
  ·have e':¬j=i:=fun h=>e h.symm
   simp [e,e']
theorem zjF {f g:Nat->Bool} (h:∀j,f j=g j):∀(l:List Int) (i:Nat),less f i l=less g i l
 | [],_=>rfl
 | t::l,i=>by simp only [less,h i,zjF h l]
def rd (p:Pulse) (is:List Nat):Option (List Int):=clean p (less (fun j=>is.contains j) 0 p.Times)
theorem ztA (p:Pulse) (is:List Nat):clean p (less (bits 0 is).testBit 0 p.Times)=rd p is:=by
 unfold rd
 rw [zjF (g:=fun j=>is.contains j) fun j=>by rw [zni];simp]
theorem zmz (is:List Nat) (j:Nat):(zgU is).contains (j:Int)=is.contains j:=by
 induction is with
 | nil=>rfl
 | cons i is ih =>
  simp only [zgU,List.map_cons,List.contains_cons] at ih ⊢
  rw [ih]
  congr 1
  by_cases e:j=i
  ·simp [e]
  ·have h1:(((j:Int))==(i:Int))=false:=by simp;omega
   have h2:(j==i)=false:=by simpa using e
   rw [h1,h2]
theorem zv9 {n:Nat} {l:List Int} (x:Int) (hs:l.length<1048576) (hn:l.length<n):zmb n l x=some (l.contains x):=by
 have key:∀(k pre:List Int) (m:Nat),l=pre++k->k.length<m->zeU l x m (pre.length:Int)=some (k.contains x):=by
  intro k
  induction k with
  | nil =>
   intro pre m he hm
   obtain ⟨m,rfl⟩:∃k,m=k+1:=⟨m-1,by omega⟩
   simp [zeU,zgl,zhx,he]
  | cons y k ih =>
   intro pre m he hm
   simp at hm
   have hl:l.length=pre.length+(k.length+1):=by simp [he]
   obtain ⟨m,rfl⟩:∃k,m=k+1:=⟨m-1,by omega⟩
   have h:=ih (pre++[y]) m (by simp [he]) (by omega)
   simp only [zeU,zgl]
   rw [if_pos (by simp<;>omega),show idx l (pre.length:Int)=some y by rw [he,zb3],zaH (by omega) (by omega)]
   simp only [Option.bind_some]
   by_cases hb:y=x
   ·simp [hb]
   ·rw [if_neg (by simpa using hb)]
    have hb':¬x=y:=fun e=>hb e.symm
    simpa [hb'] using h
 exact key l [] n rfl hn
theorem zse {n:Nat} (times sparks:List Int) (hl:times.length<=1000) (hsp:sparks.length<=1000) (hn:1010<=n):zju n times sparks=some (less (fun j=>sparks.contains (j:Int)) 0 times):=by
 have key:∀(l pre:List Int) (m:Nat) (left:List Int),times=pre++l->l.length<m->left.length<=pre.length ->
   zcK n times sparks m left (pre.length:Int)=some (left++less (fun j=>sparks.contains (j:Int)) pre.length l):=by
  intro l
  induction l with
  | nil =>
   intro pre m left he hm hlen
   obtain ⟨m,rfl⟩:∃k,m=k+1:=⟨m-1,by omega⟩
   simp only [zcK,zfk,zgm]
   rw [if_neg (by simp [he])]
   simp [less]
  | cons x l ih =>
   intro pre m left he hm hlen
   simp at hm
   have hl:times.length=pre.length+(l.length+1):=by simp [he]
   obtain ⟨m,rfl⟩:∃k,m=k+1:=⟨m-1,by omega⟩
   simp only [zcK,zfk]
   rw [if_pos (by simp;omega),zv9 (pre.length:Int) (by omega) (by omega)]
   simp only [Option.bind_some,zfj]
   have hc:(((pre++[x]).length:Nat):Int)=(pre.length:Int)+1:=by simp
   cases hbit:sparks.contains (pre.length:Int) with
   | true =>
    simp only [Bool.not_true,Bool.false_eq_true,if_false]
    rw [zaH (by omega) (by omega)]
    have h:=ih (pre++[x]) m left (by simp [he]) (by omega) (by simp;omega)
    rw [hc] at h
    rw [h]
    simp only [less,hbit,if_true]
    simp
   | false =>
    simp only [Bool.not_false,if_true]
    rw [show idx times (pre.length:Int)=some x by rw [he,zb3]]
    simp only [Option.bind_some]
    rw [zg9 (by simp;omega)]
    simp only [Option.bind_some]
    rw [zaH (by omega) (by omega)]
    have h:=ih (pre++[x]) m (left++[x]) (by simp [he]) (by omega) (by simp;omega)
    rw [hc] at h
    rw [h]
    simp only [less,hbit,Bool.false_eq_true,if_false]
    simp
 exact key times [] n [] rfl (by omega) (by simp)
end Pu
namespace Pu
def mkR (p:Pulse) (is:List Nat):Option Reading:=(rd p is).map fun l=>(⟨zgU is,l⟩:Reading)
def zlJ (p:Pulse) (most:Nat):List Reading:=(sub most (List.range' 0 p.Times.length)).filterMap (mkR p)
theorem znj:∀(k:Nat) (ps is:List Nat),is∈sub k ps->is.length<=k
 | 0,ps,is,h=>by simp [sub] at h;simp [h]
 | k+1,ps,is,h=>by
  simp only [sub,List.mem_cons] at h
  rcases h with rfl | h
  ·simp
  ·have:∀ps,is∈sgo (sub k) ps->is.length<=k+1:=by
    intro ps
    induction ps with
    | nil=>intro h;simp [sgo] at h
    | cons i ps ih =>
     intro h
     simp only [sgo,List.mem_append,List.mem_map] at h
     rcases h with ⟨is',h1,rfl⟩ | h
     ·have:=znj k ps is' h1
      simp;omega
     ·exact ih h
   exact this ps h
theorem zq8 {n:Nat} (p:Pulse) (hv:valid p=true) (hn:1100<=n) (k:Nat) (hk:k<=3) (hfuel:(sub k (List.range' 0 p.Times.length)).length<n):zfK n p (k:Int)=some (zlJ p k):=by
 obtain ⟨v1,v2,v3,v4,v5,v6,v7,v8,v9⟩:=valid_iff hv
 have htm:=zmx p.Times none v9
 have h:=zsd p.Times.length v8 k n 0 [] hk (by omega) (by omega) (by simp)
 unfold zfK
 rw [show zey n [] 0 (p.Times.length:Int) (k:Int)=_ from h]
 simp only [Option.bind_some,List.nil_append,Nat.sub_zero]
 have hsub:=zq7 (k:=k) (ps:=List.range' 0 p.Times.length) hk (by simp;omega)
 have hshort:=znj k (List.range' 0 p.Times.length)
 unfold zlJ
 generalize sub k (List.range' 0 p.Times.length)=L at hfuel hsub hshort ⊢
 have key:∀(l pre:List (List Nat)) (m:Nat) (out:List Reading),L=pre++l->l.length<m->out.length<=pre.length ->
   zbC n p (L.map zgU) m out (pre.length:Int)=some (out++l.filterMap (mkR p)):=by
  intro l
  induction l with
  | nil =>
   intro pre m out he hm ho
   obtain ⟨m,rfl⟩:∃k,m=k+1:=⟨m-1,by omega⟩
   simp only [zbC,zdI,zez]
   rw [if_neg (by simp [he])]
   simp
  | cons is l ih =>
   intro pre m out he hm ho
   simp at hm
   have hl:L.length=pre.length+(l.length+1):=by simp [he]
   obtain ⟨m,rfl⟩:∃k,m=k+1:=⟨m-1,by omega⟩
   have hi:idx (L.map zgU) (pre.length:Int)=some (zgU is):=by
    have:=zb3 (pre.map zgU) (zgU is) (l.map zgU)
    rw [List.length_map] at this
    rw [he];simpa using this
   have hsh:(zgU is).length<=1000:=by
    have:=hshort is (by rw [he];simp)
    simp [zgU];omega
   simp only [zbC,zdI]
   rw [if_pos (by simp;omega),hi]
   simp only [Option.bind_some]
   rw [zse p.Times (zgU is) (by omega) hsh (by omega),zjF (g:=fun j=>is.contains j) fun j=>zmz is j]
   simp only [Option.bind_some]
   rw [zsb p hv _ (by have:=zkd (fun j=>is.contains j) p.Times 0;omega) (fun x hx=>htm x (zkc _ _ _ _ hx)) (by omega)]
   simp only [Option.bind_some,zdv,List.filterMap_cons]
   have hmk:mkR p is=(clean p (less (fun j=>is.contains j) 0 p.Times)).map fun l=>(⟨zgU is,l⟩:Reading):=rfl
   rw [hmk]
   have hc:(((pre++[is]).length:Nat):Int)=(pre.length:Int)+1:=by simp
   cases clean p (less (fun j=>is.contains j) 0 p.Times) with
   | none =>
    simp only [zfs,Bool.false_eq_true,if_false,Option.map_none]
    rw [zaH (by omega) (by omega)]
    have h:=ih (pre++[is]) m out (by simp [he]) (by omega) (by simp;omega)
    rw [hc] at h
    exact h
   | some q =>
    simp only [zfs,if_true,Option.map_some]
    rw [zg9 (by simp;omega)]
    simp only [Option.bind_some]
    rw [zaH (by omega) (by omega)]
    have h:=ih (pre++[is]) m (out++[(⟨zgU is,q⟩:Reading)]) (by simp [he]) (by omega) (by simp;omega)
    rw [hc] at h
    rw [h]
    simp
 exact key L [] n [] rfl hfuel (by simp)
end Pu
namespace Pu
def mkP (p:Pulse) (is:List Nat):Option Reading_:=(rd p is).map fun l=>(⟨((bits 0 is:Nat):Int),l⟩:Reading_)
def zmA (p:Pulse):List Nat:=List.range' 0 p.Times.length
theorem zq9 (p:Pulse) (k:Nat):zk1 p k=(cmb k (zmA p)).filterMap (mkP p):=by
 unfold zk1 mkP zmA
 congr 1
 funext is
 rw [ztA]
theorem zlK (p:Pulse):∀(d a:Nat),readsTo p a d=((List.range' a d).flatMap fun j=>cmb j (zmA p)).filterMap (mkP p)
 | 0,a=>by simp [readsTo]
 | d+1,a=>by
  rw [List.range'_succ]
  simp only [readsTo,zlK p d (a+1),zq9,List.flatMap_cons,List.filterMap_append]
def znk (p:Pulse) (k:Nat):List (List Nat):=(zvx k (zmA p)).filter fun is=>(rd p is).isSome
def zra (p:Pulse) (k:Nat):List (List Nat):=(sub k (zmA p)).filter fun is=>(rd p is).isSome
theorem zjg (p:Pulse) (k:Nat):(zra p k).Perm (znk p k):=(zke k (zmA p)).filter _
def listOf (p:Pulse) (is:List Nat):List Int:=(rd p is).getD []
theorem zfP {α:Type} (p:Pulse) (g:List Nat->List Int->α):∀L:List (List Nat),(L.filterMap fun is=>(rd p is).map (g is))=(L.filter fun is=>(rd p is).isSome).map fun is=>g is (listOf p is)
 | []=>rfl
 | is::L=>by
  simp only [List.filterMap_cons,List.filter_cons,listOf]
  cases h:rd p is with
  | none=>simp only [Option.map_none,Option.isSome_none,Bool.false_eq_true,if_false];exact zfP p g L
  | some l=>simp only [Option.map_some,Option.isSome_some,if_true,List.map_cons,h,Option.getD_some];rw [zfP p g L];rfl
theorem znl (p:Pulse) (k:Nat):readsTo p 0 (k+1)=(znk p k).map fun is=>(⟨((bits 0 is:Nat):Int),listOf p is⟩:Reading_):=by
 rw [zlK,←List.range_eq_range']
 exact zfP p (fun is l=>(⟨((bits 0 is:Nat):Int),l⟩:Reading_)) _
theorem zoc (p:Pulse) (k:Nat):zlJ p k=(zra p k).map fun is=>(⟨zgU is,listOf p is⟩:Reading) :=
 zfP p (fun is l=>(⟨zgU is,l⟩:Reading)) _
end Pu
namespace Pu
theorem znm {k:Nat} {ps:List Nat} (hk:k<=3) (hp:ps.length<=14):(sub k ps).length<=13500:=by
 rw [(zke k ps).length_eq]
 refine Nat.le_trans (zmy 14 3 ps hp (k+1) (by omega)) ?_
 have h25:(14+1) ^ 3=3375:=by decide
 rw [h25]
 omega
theorem zsf {n:Nat} (p:Pulse) (hs:p.Times.length<=40) (hf:valid p=true->p.Times.length<=14) (hn:15000<=n) (b:Bool) :
  zgH n p b=some (if valid p=true then (if b=true then (if zlJ p p.Sparks.toNat=[] then ([],3) else (zlJ p p.Sparks.toNat,0)) else ([],1)) else ([],130)):=by
 unfold zgH
 rw [rCheck_eq p (by omega) (by omega)]
 simp only [Option.bind_some]
 cases hv:valid p with
 | false=>simp
 | true =>
  obtain ⟨v1,v2,v3,v4,v5,v6,v7,v8,v9⟩:=valid_iff hv
  simp only [cond_true,bne_self_eq_false,Bool.false_eq_true,if_false,if_true]
  cases b with
  | false=>simp
  | true =>
   have hl:=znm (k:=p.Sparks.toNat) (ps:=List.range' 0 p.Times.length) (by omega) (by simp;exact hf hv)
   have h:=zq8 (n:=n) p hv (by omega) p.Sparks.toNat (by omega) (by omega)
   rw [show ((p.Sparks.toNat:Nat):Int)=p.Sparks by omega] at h
   simp only [Bool.not_true,Bool.false_eq_true,if_false,if_true,h,Option.bind_some]
   by_cases hr:zlJ p p.Sparks.toNat=[]
   ·simp [hr]
   ·rw [if_neg (by have:=List.length_pos_iff.2 hr;simp;omega),if_neg hr]
end Pu
namespace Pu
def openR (p:Pulse):List Reading_×Int :=
 if valid p=true then (if znk p p.Sparks.toNat=[] then ([],3) else ((znk p p.Sparks.toNat).map fun is=>(⟨((bits 0 is:Nat):Int),listOf p is⟩:Reading_),0)) else ([],130)
theorem readsTo_valid {p:Pulse} (hv:valid p=true):readsTo p 0 (p.Sparks+1).toNat=(znk p p.Sparks.toNat).map fun is=>(⟨((bits 0 is:Nat):Int),listOf p is⟩:Reading_):=by
 obtain ⟨v1,v2,v3,v4,v5,v6,v7,v8,v9⟩:=valid_iff hv
 rw [show (p.Sparks+1).toNat=p.Sparks.toNat+1 by omega,znl]
def zhG (p:Pulse):List Reading×Int :=
 if valid p=true then (if znk p p.Sparks.toNat=[] then ([],3) else ((zra p p.Sparks.toNat).map fun is=>(⟨zgU is,listOf p is⟩:Reading),0)) else ([],130)
theorem ztB (p:Pulse) (k:Nat):zra p k=[]↔znk p k=[]:=by
 constructor
 ·intro h;have:=(zjg p k);rw [h] at this;exact this.symm.eq_nil
 ·intro h;have:=(zjg p k);rw [h] at this;exact this.eq_nil
theorem zrb {n:Nat} (p:Pulse) (hs:p.Times.length<=40) (hf:valid p=true->p.Times.length<=14) (hn:15000<=n):zgH n p true=some (zhG p):=by
 rw [zsf p hs hf hn true]
 unfold zhG
 simp only [if_true,zoc,List.map_eq_nil_iff,ztB]
end Pu
namespace Pu
theorem ztC (pa pb:List Int) (hp:pa.length=pb.length):∀(l k:List Int) (m:Nat),l.length=k.length->(pa++l).length<1048576->l.length<m ->
  zbQ (pa++l) (pb++k) m (pa.length:Int)=some (decide (l=k)):=by
 intro l
 induction l generalizing pa pb with
 | nil =>
  intro k m hk hs hm
  obtain ⟨m,rfl⟩:∃k,m=k+1:=⟨m-1,by omega⟩
  have:k=[]:=List.eq_nil_of_length_eq_zero (by simpa using hk.symm)
  subst this
  simp [zbQ,zc7,zdD]
 | cons x l ih =>
  intro k m hk hs hm
  obtain ⟨m,rfl⟩:∃k,m=k+1:=⟨m-1,by omega⟩
  cases k with
  | nil=>simp at hk
  | cons y k =>
   simp at hk hs hm
   simp only [zbQ,zc7]
   rw [if_pos (by simp;omega),zb3,show idx (pb++y::k) (pa.length:Int)=some y by rw [hp,zb3]]
   simp only [Option.bind_some]
   by_cases hb:x=y
   ·subst hb
    have h:=ih (pa++[x]) (pb++[x]) (by simp [hp]) k m hk (by simp;omega) (by omega)
    rw [if_neg (by simp),zaH (by omega) (by omega)]
    simpa using h
   ·rw [if_pos (by simpa using hb)]
    simp [hb]
theorem zsg {n:Nat} (a b:List Int) (hs:a.length<1048576) (hn:a.length<n):slices_Equal_int n a b=some (decide (a=b)):=by
 unfold slices_Equal_int
 by_cases h:a.length=b.length
 ·rw [if_neg (by simp [h])]
  exact ztC [] [] rfl a b n h (by simpa using hs) hn
 ·rw [if_pos (by simp;omega)]
  have:a≠b:=fun e=>h (by rw [e])
  simp [this]
end Pu
namespace Pu
def firsts {α:Type} [DecidableEq α]:List α->List α->List α
 | out,[]=>out
 | out,x::l=>if x∈out then firsts out l else firsts (out++[x]) l
theorem firsts_mem {α:Type} [DecidableEq α]:∀(l out:List α) (x:α),x∈firsts out l↔x∈out\/x∈l
 | [],out,x=>by simp [firsts]
 | y::l,out,x=>by
  simp only [firsts]
  split
  ·rw [firsts_mem l out x,List.mem_cons]
   constructor
   ·rintro (h | h)
    ·exact .inl h
    ·exact .inr (.inr h)
   ·rintro (h | rfl | h)
    ·exact .inl h
    ·exact .inl (by assumption)
    ·exact .inr h
  ·rw [firsts_mem l _ x]
   simp [or_assoc]
theorem zg4 {α:Type} [DecidableEq α]:∀(l out:List α),out.Nodup->(firsts out l).Nodup
 | [],out,h=>h
 | y::l,out,h=>by
  simp only [firsts]
  split
  ·exact zg4 l out h
  ·rename_i hy
   refine zg4 l _ (List.nodup_append.2 ⟨h,by simp,?_⟩)
   intro a ha b hb
   rw [List.mem_singleton] at hb
   subst hb
   intro e
   subst e
   exact hy ha
theorem zod {α:Type} [DecidableEq α] {l k:List α} (h:l.Perm k):(firsts [] l).Perm (firsts [] k):=by
 refine (List.perm_ext_iff_of_nodup (zg4 l [] (by simp)) (zg4 k [] (by simp))).2 fun x=>?_
 rw [firsts_mem,firsts_mem,h.mem_iff]
theorem zsH (p:Pulse):∀(l:List Int) (y g h:Int) (out q:List Int),cl p y g h out l=some q->q.length<=out.length+l.length+1
 | [],y,g,h,out,q,e=>by
  simp only [cl] at e
  split at e
  ·cases e;simp
  ·cases e
 | x::l,y,g,h,out,q,e=>by
  simp only [cl] at e
  repeat' split at e
  all_goals first | (cases e;done) | (have:=zsH p l _ _ _ _ _ e;simp at this ⊢;omega)
theorem zrc (p:Pulse) (l q:List Int) (e:clean p l=some q):q.length<=l.length:=by
 cases l with
 | nil=>simp [clean] at e;simp [←e]
 | cons x l=>have:=zsH p l _ _ _ _ _ e;simpa using this
theorem zlL (p:Pulse) (is:List Nat):(listOf p is).length<=p.Times.length:=by
 unfold listOf
 cases h:rd p is with
 | none=>simp
 | some l =>
  have h1:=zrc p _ _ h
  have h2:=zkd (fun j=>is.contains j) p.Times 0
  simp;omega
theorem zuN (aF:List Int->Unit->Option (Bool×Unit)) (f:List Int->Bool):∀(l pre:List (List Int)) (m:Nat),(∀x,x∈l->aF x ()=some (f x,()))->(pre++l).length<1048576->l.length<m ->
  ∃r,zbc (pre++l) aF m (pre.length:Int) ()=some (r,())/\decide (r≥0)=l.any f:=by
 intro l
 induction l with
 | nil =>
  intro pre m hf hs hm
  obtain ⟨m,rfl⟩:∃k,m=k+1:=⟨m-1,by omega⟩
  exact ⟨-1,by simp [zbc,zcg,zcx],by simp⟩
 | cons c l ih =>
  intro pre m hf hs hm
  obtain ⟨m,rfl⟩:∃k,m=k+1:=⟨m-1,by omega⟩
  obtain ⟨r,h1,h2⟩:=ih (pre++[c]) m (fun x hx=>hf x (List.mem_cons_of_mem _ hx)) (by simpa using hs) (by simp at hm;omega)
  rw [show (((pre++[c]).length:Nat):Int)=(pre.length:Int)+1 by simp,show pre++[c]++l=pre++c::l by simp] at h1
  simp at hs hm
  simp only [zbc,zcg]
  rw [if_pos (by simp<;>omega),zb3]
  simp only [Option.bind_some,hf c (by simp)]
  by_cases hb:f c=true
  ·exact ⟨pre.length,by simp [hb],by simp [hb]⟩
  ·refine ⟨r,?_,by rw [h2];simp [hb]⟩
   rw [zaH (by omega) (by omega),if_neg hb]
   exact h1
theorem zrd {n:Nat} (r:Reading_) (L:List (List Int)) (hl:∀x,x∈L->x.length<1000) (hs:L.length<1048576) (hn:L.length<n) (hn':1000<=n) :
  zcy n (fun (x0:List Int) (_:Unit)=>(zdq n x0 r).map fun y=>(y,())) L ()=some (decide (r.list∈L),()):=by
 obtain ⟨v,h1,h2⟩:=zuN (fun (x0:List Int) (_:Unit)=>(zdq n x0 r).map fun y=>(y,())) (fun x=>decide (x=r.list)) L [] n (fun x hx=>by
  have:=hl x hx
  simp [zdq,zsg x r.list (by omega) (show x.length<n by omega)]) (by simpa using hs) hn
 have h1:zeh n _ L ()=some (v,()):=h1
 simp only [zcy,h1,Option.bind_some,h2]
 congr 2
 by_cases hm:r.list∈L
 ·simp only [hm,decide_true,List.any_eq_true]
  exact ⟨_,hm,by simp⟩
 ·simp only [hm,decide_false,List.any_eq_false]
  intro x hx
  simp only [decide_eq_true_eq]
  intro e
  exact hm (e▸hx)
theorem zsh {n:Nat} (L:List Reading_) (hl:∀x,x∈L->x.list.length<1000) (hs:L.length<1000000) (hn:L.length<n) (hn':1000<=n) :
  zgX n L=some (firsts [] (L.map (·.list))):=by
 have key:∀(l pre:List Reading_) (m:Nat) (out:List (List Int)),L=pre++l->l.length<m->(∀x,x∈out->x.length<1000)->out.length<=pre.length ->
   zb7 n L m out (pre.length:Int)=some (firsts out (l.map (·.list))):=by
  intro l
  induction l with
  | nil =>
   intro pre m out he hm ho hlen
   obtain ⟨m,rfl⟩:∃k,m=k+1:=⟨m-1,by omega⟩
   simp only [zb7,zev,ze1]
   rw [if_neg (by simp [he])]
   simp [firsts]
  | cons x l ih =>
   intro pre m out he hm ho hlen
   simp at hm
   have hl':L.length=pre.length+(l.length+1):=by simp [he]
   obtain ⟨m,rfl⟩:∃k,m=k+1:=⟨m-1,by omega⟩
   have hx:=hl x (by simp [he])
   have hc:(((pre++[x]).length:Nat):Int)=(pre.length:Int)+1:=by simp
   simp only [zb7,zev]
   rw [if_pos (by simp;omega),show idx L (pre.length:Int)=some x by rw [he,zb3]]
   simp only [Option.bind_some]
   rw [zrd x out ho (by omega) (by omega) hn']
   simp only [Option.bind_some,List.map_cons,firsts]
   by_cases hmem:x.list∈out
   ·simp only [hmem,decide_true,Bool.not_true,Bool.false_eq_true,if_false,if_true,zdr]
    rw [zaH (by omega) (by omega)]
    have h:=ih (pre++[x]) m out (by simp [he]) (by omega) ho (by simp;omega)
    rw [hc] at h
    exact h
   ·simp only [hmem,decide_false,Bool.not_false,if_true,if_false,zdr]
    rw [zg9 (by simp;omega)]
    simp only [Option.bind_some]
    rw [zaH (by omega) (by omega)]
    have h:=ih (pre++[x]) m (out++[x.list]) (by simp [he]) (by omega) (fun y hy=>by
     rcases List.mem_append.1 hy with hy | hy
     ·exact ho y hy
     ·rw [List.mem_singleton] at hy;subst hy;exact hx) (by simp;omega)
    rw [hc] at h
    exact h
 exact key L [] n [] rfl hn (by simp) (by simp)
end Pu
namespace Pu
theorem zsi {p:Pulse} (hk:p.Sparks.toNat<=3) (hl:p.Times.length<=14):(znk p p.Sparks.toNat).length<=13500:=by
 rw [←(zjg p p.Sparks.toNat).length_eq]
 have h1:=znm (k:=p.Sparks.toNat) (ps:=zmA p) hk (by simp [zmA];exact hl)
 have h2:(zra p p.Sparks.toNat).length<=(sub p.Sparks.toNat (zmA p)).length:=List.length_filter_le _ _
 omega
theorem openR_len {p:Pulse} (hf:valid p=true->p.Times.length<=14):(openR p).1.length<=13500:=by
 unfold openR
 cases hv:valid p with
 | false=>simp
 | true =>
  obtain ⟨v1,v2,v3,v4,v5,v6,v7,v8,v9⟩:=valid_iff hv
  simp only [if_true]
  split
  ·simp
  ·simp only [List.length_map]
   exact zsi (by omega) (hf hv)
theorem openR_list {p:Pulse} (hs:p.Times.length<=40):∀x,x∈(openR p).1->x.list.length<1000:=by
 intro x hx
 unfold openR at hx
 split at hx
 ·split at hx
  ·simp at hx
  ·obtain ⟨is,_,rfl⟩:=List.mem_map.1 hx
   have:=zlL p is
   simp only
   omega
 ·simp at hx
theorem zoe {p:Pulse} (hs:p.Times.length<=40):∀x,x∈(zhG p).1->x.List_.length<1000:=by
 intro x hx
 unfold zhG at hx
 split at hx
 ·split at hx
  ·simp at hx
  ·obtain ⟨is,_,rfl⟩:=List.mem_map.1 hx
   have:=zlL p is
   simp only
   omega
 ·simp at hx
theorem zk3 (p:Pulse):((zhG p).1.map (·.List_)).Perm ((openR p).1.map (·.list)):=by
 unfold zhG openR
 split
 ·split
  ·exact .refl _
  ·simp only [List.map_map]
   exact (zjg p p.Sparks.toNat).map _
 ·exact .refl _
theorem zoQ (p:Pulse):(zhG p).2=(openR p).2:=by
 unfold zhG openR
 split
 ·split<;>rfl
 ·rfl
theorem open_none {p:Pulse} (h:(openR p).2=0):(openR p).1≠[]:=by
 unfold openR at h ⊢
 split at h
 ·split at h
  ·cases h
  ·rename_i hv hg
   rw [if_pos hv,if_neg hg]
   simpa using hg
 ·cases h
def oneR (L:List (List Int)):List Int×Int:=if 1<(firsts [] L).length then ([],2) else ((firsts [] L).headD [],0)
theorem zre {L K:List (List Int)} (h:L.Perm K):oneR L=oneR K:=by
 have hp:=zod h
 have hl:=hp.length_eq
 unfold oneR
 rw [hl]
 by_cases h1:1<(firsts [] K).length
 ·rw [if_pos h1,if_pos h1]
 ·rw [if_neg h1,if_neg h1]
  generalize firsts [] L=a at hp hl
  generalize firsts [] K=b at hp hl h1
  match b,hp,h1 with
  | [],hp,_=>rw [hp.eq_nil]
  | [y],hp,_=>rw [List.perm_singleton.1 hp]
  | _::_::_,_,h1=>simp at h1
theorem ztD (a:List Int):∀l:List (List Int),oneR (a::l)=if l.all (fun x=>decide (x=a))=true then (a,0) else ([],2):=by
 intro l
 unfold oneR
 have e:firsts [] (a::l)=firsts [a] l:=by simp [firsts]
 rw [e]
 by_cases h:l.all (fun x=>decide (x=a))=true
 ·have:firsts [a] l=[a]:=by
   clear e
   induction l with
   | nil=>rfl
   | cons x l ih =>
    simp only [List.all_cons,Bool.and_eq_true,decide_eq_true_eq] at h
    rw [firsts,if_pos (by rw [h.1];simp)]
    exact ih (by simpa using h.2)
  rw [if_pos h,this]
  rfl
 ·rw [if_neg h]
  have:∃x,x∈l/\x≠a:=by
   simp only [List.all_eq_true,decide_eq_true_eq] at h
   exact Classical.byContradiction fun hc=>h fun x hx=>Classical.byContradiction fun hne=>hc ⟨x,hx,hne⟩
  obtain ⟨x,hx,hne⟩:=this
  have m1:a∈firsts [a] l:=(firsts_mem l [a] a).2 (.inl (by simp))
  have m2:x∈firsts [a] l:=(firsts_mem l [a] x).2 (.inr hx)
  rw [if_pos ?_]
  generalize firsts [a] l=f at m1 m2
  match f with
  | []=>simp at m1
  | [y] =>
   rw [List.mem_singleton] at m1 m2
   exact absurd (m2.trans m1.symm) hne
  | _::_::_=>simp
def readR (p:Pulse):List Int×Int:=if (openR p).2≠0 then ([],(openR p).2) else oneR ((openR p).1.map (·.list))
theorem zrf {L:List (List Int)} (h:L≠[]):firsts [] L≠[]:=by
 cases L with
 | nil=>exact absurd rfl h
 | cons a l =>
  have:a∈firsts [] (a::l):=(firsts_mem _ _ a).2 (.inr (by simp))
  intro e
  rw [e] at this
  simp at this
theorem one_eq {n:Nat} (L:List Reading_) (hne:L≠[]) (hl:∀x,x∈L->x.list.length<1000) (hs:L.length<1000000) (hn:L.length<n) (hn':1000<=n):zfz n L=some (oneR (L.map (·.list))):=by
 unfold zfz oneR
 rw [zsh L hl hs hn hn']
 simp only [Option.bind_some]
 by_cases h1:1<(firsts [] (L.map (·.list))).length
 ·rw [if_pos (by simp;omega),if_pos h1]
 ·rw [if_neg (by simp;omega),if_neg h1]
  have:=zrf (L:=L.map (·.list)) (by simpa using hne)
  generalize firsts [] (L.map (·.list))=f at this
  cases f with
  | nil=>exact absurd rfl this
  | cons a l=>rfl
theorem rRead_eq {n:Nat} (p:Pulse) (hs:p.Times.length<=40) (hf:valid p=true->p.Times.length<=14) (hn:15000<=n):zhd n p=some (readR p):=by
 unfold zhd
 rw [zrb p hs hf hn]
 simp only [Option.bind_some]
 have hl:=openR_len hf
 have hlen:(zhG p).1.length<=13500:=by
  have:=(zk3 p).length_eq
  simp at this
  omega
 have hll:=zoe hs
 have hne:(zhG p).2=0->(zhG p).1≠[]:=fun e h=>by
  have:=(zk3 p).length_eq
  rw [h] at this
  rw [zoQ] at e
  exact open_none e (List.eq_nil_of_length_eq_zero (by simpa using this.symm))
 unfold readR
 rw [←zoQ,←zre (zk3 p)]
 generalize zhG p=r1 at hlen hll hne ⊢
 by_cases h0:r1.2=0
 ·rw [if_neg (by simp [h0]),if_neg (by simp [h0])]
  obtain ⟨L,e⟩:=r1
  have hne:=hne h0
  simp only at hne hlen hll h0 ⊢
  cases L with
  | nil=>exact absurd rfl hne
  | cons a L =>
   rw [List.map_cons,ztD]
   have key:∀(l pre:List Reading) (m:Nat),a::L=pre++l->l.length<m ->
     zdg n (a::L,e) m (pre.length:Int)=some (if (l.map (·.List_)).all (fun x=>decide (x=a.List_))=true then (a.List_,0) else ([],2)):=by
    intro l
    induction l with
    | nil =>
     intro pre m he hm
     obtain ⟨m,rfl⟩:∃k,m=k+1:=⟨m-1,by omega⟩
     simp only [zdg,zfl,zgn]
     rw [if_neg (by simp [he])]
     simp [idx]
    | cons x l ih =>
     intro pre m he hm
     simp at hm
     have hl':(a::L).length=pre.length+(l.length+1):=by rw [he];simp
     obtain ⟨m,rfl⟩:∃k,m=k+1:=⟨m-1,by omega⟩
     have hc:(((pre++[x]).length:Nat):Int)=(pre.length:Int)+1:=by simp
     have h:=ih (pre++[x]) m (by simp [he]) (by omega)
     rw [hc] at h
     have hx:=hll x (by rw [he];simp)
     simp only [zdg,zfl]
     rw [if_pos (by simp only [decide_eq_true_eq];omega),show idx (a::L) (pre.length:Int)=some x by rw [he,zb3],show idx (a::L) 0=some a from rfl]
     simp only [Option.bind_some]
     rw [SameInts_eq x.List_ a.List_ (by omega) (by omega),zaH (by omega) (by omega)]
     simp only [Option.bind_some,List.map_cons,List.all_cons]
     by_cases hxa:x.List_=a.List_
     ·simp only [hxa,decide_true,Bool.not_true,Bool.false_eq_true,if_false,Bool.true_and]
      exact h
     ·simp [hxa]
   have h:=key (a::L) [] n rfl (by omega)
   rw [show zdg n (a::L,e) n 0=_ from h]
   simp
 ·rw [if_pos (by simp [h0]),if_pos h0]
end Pu
namespace Pu
theorem Far_eq {n:Nat} (p:Pulse) (hn:1000<=n):ziZ n p=some (decide (p.Times.length>40) || (valid p&&decide (p.Times.length>14))):=by
 unfold ziZ zeV
 by_cases h:p.Times.length>40
 ·rw [if_pos (by simp;omega)]
  simp [h]
 ·rw [if_neg (by simp;omega),rCheck_eq p (by omega) (by omega)]
  simp only [Option.bind_some,h,decide_false,Bool.false_or]
  cases valid p with
  | false=>simp
  | true=>simp<;>omega
end Pu
def zlM (p:Pulse):Wire:=⟨p.Letters,p.Numbers,[],0⟩
def zjh (p:Pulse) (F:List WireFault) (x:Int):Int:=zli (zlM p) F (x / p.Numbers) (x % p.Numbers)
def inS (p:Pulse) (x:Int):Prop:=0<=x/\x<25/\(0<=x / p.Numbers/\x / p.Numbers<p.Letters)/\(0<=x % p.Numbers/\x % p.Numbers<p.Numbers)
theorem zsI {p:Pulse} (hp:(1<=p.Letters/\p.Letters<=5)/\(1<=p.Numbers/\p.Numbers<=5)) {g h:Int} (hg:Pu.good p g h=true):inS p (Pu.selOf p g h):=by
 simp only [Pu.good,Bool.and_eq_true,zcQ] at hg
 unfold Pu.selOf inS
 have hN:0<p.Numbers:=by omega
 have e:(g-1)*p.Numbers+h-1=(h-1)+(g-1)*p.Numbers:=by omega
 have d:((h-1)+(g-1)*p.Numbers) / p.Numbers=g-1:=by
  rw [Int.add_mul_ediv_right _ _ (by omega),Int.ediv_eq_zero_of_lt (by omega) (by omega)]
  omega
 have r:((h-1)+(g-1)*p.Numbers) % p.Numbers=h-1:=by
  rw [Int.add_mul_emod_self_right,Int.emod_eq_of_lt (by omega) (by omega)]
 rw [e,d,r]
 have h1:0<=(g-1)*p.Numbers:=Int.mul_nonneg (by omega) (by omega)
 have h2:(g-1)*p.Numbers<=4*p.Numbers:=Int.mul_le_mul_of_nonneg_right (by omega) (by omega)
 omega
theorem zrg {p:Pulse} (hp:(1<=p.Letters/\p.Letters<=5)/\(1<=p.Numbers/\p.Numbers<=5)):∀(l:List Int) (y g h:Int) (out q:List Int),(∀x,x∈out->inS p x)->Pu.cl p y g h out l=some q->∀x,x∈q->inS p x
 | [],y,g,h,out,q,ho,e=>by
  unfold Pu.cl at e
  split at e
  ·rename_i hg
   injection e with e
   subst e
   intro x hx
   rcases List.mem_append.1 hx with hx | hx
   ·exact ho x hx
   ·simp at hx;subst hx;exact zsI hp hg
  ·cases e
 | z::l,y,g,h,out,q,ho,e=>by
  unfold Pu.cl at e
  split at e
  ·split at e
   ·rename_i hg
    refine zrg hp l _ _ _ _ _ (fun x hx=>?_) e
    rcases List.mem_append.1 hx with hx | hx
    ·exact ho x hx
    ·simp at hx;subst hx;exact zsI hp hg
   ·cases e
  ·split at e
   ·split at e
    ·cases e
    ·exact zrg hp l _ _ _ _ _ ho e
   ·split at e
    ·split at e
     ·exact zrg hp l _ _ _ _ _ ho e
     ·exact zrg hp l _ _ _ _ _ ho e
    ·cases e
theorem zsj {p:Pulse} (hp:(1<=p.Letters/\p.Letters<=5)/\(1<=p.Numbers/\p.Numbers<=5)) {l q:List Int} (e:Pu.clean p l=some q):∀x,x∈q->inS p x:=by
 cases l with
 | nil=>unfold Pu.clean at e;injection e with e;subst e;simp
 | cons x l=>exact zrg hp _ _ _ _ _ _ (by simp) e
theorem zrh {p:Pulse} (hp:(1<=p.Letters/\p.Letters<=5)/\(1<=p.Numbers/\p.Numbers<=5)) (is:List Nat):∀x,x∈Pu.listOf p is->inS p x:=by
 unfold Pu.listOf
 cases e:Pu.rd p is with
 | none=>simp
 | some q=>exact zsj hp e
theorem znn {p:Pulse} (hp:(1<=p.Letters/\p.Letters<=5)/\(1<=p.Numbers/\p.Numbers<=5)):zdS (zlM p):=hp
theorem zri {p:Pulse} (hp:(1<=p.Letters/\p.Letters<=5)/\(1<=p.Numbers/\p.Numbers<=5)):okW (zlM p)=true :=
 zmu.2 ⟨hp,⟨show (0:Int)<=0 by decide,show (0:Int)<=3 by decide⟩,show 0<=8 by decide,fun x hx=>by cases hx⟩
theorem zuO {p:Pulse} {x:Int} (h:inS p x):okB (zlM p) (x / p.Numbers) (x % p.Numbers)=true:=by
 unfold inS at h
 simp only [okB,zlM,Bool.and_eq_true,zcQ]
 omega
theorem zsk {p:Pulse} (hp:(1<=p.Letters/\p.Letters<=5)/\(1<=p.Numbers/\p.Numbers<=5)) {F:List WireFault} (hs:F.length<20000) (hF:zmB (zlM p) F=true) {x:Int} (h:inS p x) :
  zgF 20000 (zlM p) F (x / p.Numbers) (x % p.Numbers)=some (zjh p F x,0):=by
 rw [zsa _ F hs]
 unfold zq4
 rw [if_pos (zri hp),if_pos ⟨hF,zuO h⟩]
 rfl
theorem zlN {p:Pulse} (hp:(1<=p.Letters/\p.Letters<=5)/\(1<=p.Numbers/\p.Numbers<=5)) {F:List WireFault} (hs:F.length<20000) (hF:zmB (zlM p) F=true) (r3:List Int×Int) (hin:∀x,x∈r3.1->inS p x) (hlen:r3.1.length<100000) (hne:0<r3.1.length) :
  ∀(l pre:List Int) (m:Nat),r3.1=pre++l->l.length<m->zcS 20000 p F r3 m (pre.length:Int) (pre.map (zjh p F)++l)=some ((pre++l).map (zjh p F),0)
 | [],pre,m,he,hm=>by
  obtain ⟨m,rfl⟩:∃k,m=k+1:=⟨m-1,by simp at hm;omega⟩
  simp only [List.append_nil] at he ⊢
  simp only [zcS,zex,zfb,zuW]
  rw [if_neg (by simp [he]),if_pos (by constructor;simp [he];exact hne),zal]
 | x::l,pre,m,he,hm=>by
  simp only [List.length_cons] at hm
  obtain ⟨m,rfl⟩:∃k,m=k+1:=⟨m-1,by omega⟩
  have hl:r3.1.length=pre.length+(l.length+1):=by rw [he];simp
  have hx:inS p x:=hin x (by rw [he];simp)
  have hx':=hx
  unfold inS at hx'
  have ix:zsE r3.1.length (pre.map (zjh p F)++x::l) (pre.length:Int)=some x:=by
   unfold zsE
   rw [if_pos (by simp [hl])]
   have:=zb3 (pre.map (zjh p F)) x l
   rwa [List.length_map] at this
  have hc:(((pre++[x]).length:Nat):Int)=(pre.length:Int)+1:=by simp
  have ih:=zlN hp hs hF r3 hin hlen hne l (pre++[x]) m (by simp [he]) (by omega)
  rw [hc] at ih
  simp only [zcS,zex]
  rw [if_pos (by simp only [decide_eq_true_eq];omega),ix]
  simp only [zal]
  rw [zsC (by omega) (by omega) (by omega),zsD (by omega) (by omega)]
  rw [show zdN (⟨p⟩:Train_)=some (zlM p) from rfl]
  simp only [zal]
  rw [zsk hp hs hF hx,zaH (by omega) (by omega)]
  simp only [zal]
  have hset:(pre.map (zjh p F)++x::l).set (Int.toNat (pre.length:Int)) (zjh p F x)=(pre++[x]).map (zjh p F)++l:=by
   rw [Int.toNat_natCast,List.set_append_right _ _ (by simp)]
   simp
  rw [hset,ih]
  simp
theorem zk4 {p:Pulse} (hp:(1<=p.Letters/\p.Letters<=5)/\(1<=p.Numbers/\p.Numbers<=5)) {F:List WireFault} (hs:F.length<20000) (hF:zmB (zlM p) F=true) (r6:List Int×Int) (hin:∀x,x∈r6.1->inS p x) (hlen:r6.1.length<100000) :
  ∀(l pre:List Int) (m:Nat),r6.1=pre++l->l.length<m->zdl 20000 p F r6 m (pre.map (zjh p F)) (pre.length:Int)=some ((pre++l).map (zjh p F),0)
 | [],pre,m,he,hm=>by
  obtain ⟨m,rfl⟩:∃k,m=k+1:=⟨m-1,by simp at hm;omega⟩
  simp only [List.append_nil] at he ⊢
  simp only [zdl,zeS,zfM]
  rw [if_neg (by simp [he])]
 | x::l,pre,m,he,hm=>by
  simp only [List.length_cons] at hm
  obtain ⟨m,rfl⟩:∃k,m=k+1:=⟨m-1,by omega⟩
  have hl:r6.1.length=pre.length+(l.length+1):=by rw [he];simp
  have hx:inS p x:=hin x (by rw [he];simp)
  have hx':=hx
  unfold inS at hx'
  have hw:=znn hp
  have hg:=zkZ hw hF
  have ix:idx r6.1 (pre.length:Int)=some x:=by rw [he,zb3]
  have hc:(((pre++[x]).length:Nat):Int)=(pre.length:Int)+1:=by simp
  have ih:=zk4 hp hs hF r6 hin hlen l (pre++[x]) m (by simp [he]) (by omega)
  rw [hc] at ih
  simp only [zdl,zeS]
  rw [if_pos (by simp only [decide_eq_true_eq];omega),ix]
  rw [show zh6 p=some (zlM p) from rfl]
  simp only [zal]
  rw [zsC (by omega) (by omega) (by omega),zsD (by omega) (by omega)]
  simp only [zal]
  rw [zpt hw F (fun f hf=>zoG hw (hg.1 f hf)) (by omega) hs (by omega) (by omega)]
  simp only [zal]
  rw [zg9 (by simp;omega),zaH (by omega) (by omega)]
  simp only [zal]
  rw [List.map_append] at ih
  rw [show (zli (zlM p) F (x / p.Numbers) (x % p.Numbers))=zjh p F x from rfl]
  rw [show ([zjh p F x]:List Int)=[x].map (zjh p F) from rfl,ih]
  simp
def zlj (p:Pulse) (F:List WireFault) (r:List Int×Int):List Int×Int :=
 if Pu.valid p=true then (if zmB (zlM p) F=true then (if r.2≠0 then ([],r.2) else (r.1.map (zjh p F),0)) else ([],1)) else ([],130)
theorem zoR {p:Pulse} (hv:Pu.valid p=true):∀x,x∈(Pu.readR p).1->inS p x:=by
 have hv':=Pu.valid_iff hv
 intro x hx
 unfold Pu.readR at hx
 split at hx
 ·simp at hx
 ·unfold Pu.oneR at hx
  split at hx
  ·simp at hx
  ·cases e:Pu.firsts [] ((Pu.openR p).1.map (·.list)) with
   | nil=>rw [e] at hx;simp at hx
   | cons a L =>
    rw [e] at hx
    have ha:a∈Pu.firsts [] ((Pu.openR p).1.map (·.list)):=by rw [e];simp
    rcases (Pu.firsts_mem _ _ _).1 ha with h | h
    ·simp at h
    ·obtain ⟨r,hr,rfl⟩:=List.mem_map.1 h
     unfold Pu.openR at hr
     split at hr
     ·split at hr
      ·simp at hr
      ·obtain ⟨is,_,rfl⟩:=List.mem_map.1 hr
       exact zrh ⟨hv'.1,hv'.2.1⟩ is x hx
     ·rename_i h;exact absurd hv h
theorem zk5 {p:Pulse} (hs:p.Times.length<=40):(Pu.readR p).1.length<1000:=by
 unfold Pu.readR
 split
 ·simp
 ·unfold Pu.oneR
  split
  ·simp
  ·cases e:Pu.firsts [] ((Pu.openR p).1.map (·.list)) with
   | nil=>simp
   | cons a L =>
    have ha:a∈Pu.firsts [] ((Pu.openR p).1.map (·.list)):=by rw [e];simp
    rcases (Pu.firsts_mem _ _ _).1 ha with h | h
    ·simp at h
    ·obtain ⟨r,hr,rfl⟩:=List.mem_map.1 h
     exact Pu.openR_list hs r hr
theorem zno {p:Pulse} (hv:Pu.valid p=true) {F:List WireFault} (hs:F.length<20000):zdu 20000 (⟨p⟩:Train_) F=some (zmB (zlM p) F):=by
 have hv':=Pu.valid_iff hv
 unfold zdu
 rw [show zdN (⟨p⟩:Train_)=some (zlM p) from rfl,zal,zn6 _ F hs,zal]
 unfold ztr
 rw [if_pos (zri ⟨hv'.1,hv'.2.1⟩)]
 cases zmB (zlM p) F<;>simp
theorem znp (p:Pulse) (F:List WireFault) (hs:p.Times.length<=40) (hF:F.length<20000) (hone:(Pu.openR p).2=0->zfz 20000 (Pu.openR p).1=some (Pu.oneR ((Pu.openR p).1.map (·.list)))) :
  zgY 20000 p F=some (zlj p F (Pu.readR p)):=by
 obtain ⟨s'',h⟩:=Pu.open_eq (n:=20000) p (by omega) (by omega) (fun (x0:Train_) (_:Unit)=>(zdu 20000 x0 F).map fun y=>(y,())) () (zmB (zlM p) F) () (fun hv=>by rw [zno hv hF];rfl)
 unfold zgY
 rw [h,zal]
 unfold zlj
 cases hv:Pu.valid p with
 | false=>simp
 | true =>
  have hv':=Pu.valid_iff hv
  have hp:=And.intro hv'.1 hv'.2.1
  rw [if_pos rfl]
  cases hset:zmB (zlM p) F with
  | false=>simp
  | true =>
   have ho:(if Pu.readsTo p 0 (p.Sparks+1).toNat=[] then (([],3):List Reading_×Int) else (Pu.readsTo p 0 (p.Sparks+1).toNat,0))=Pu.openR p:=by
    unfold Pu.openR
    rw [if_pos hv,Pu.readsTo_valid hv]
    simp only [List.map_eq_nil_iff]
   simp only [if_true]
   rw [ho]
   have hin:=zoR hv
   have hlen:=zk5 hs
   by_cases h0:(Pu.openR p).2=0
   ·rw [if_neg (by simp [h0]),hone h0,zal]
    have hR:Pu.readR p=Pu.oneR ((Pu.openR p).1.map (·.list)):=by unfold Pu.readR;rw [if_neg (by simp [h0])]
    rw [hR] at hin hlen ⊢
    generalize Pu.oneR ((Pu.openR p).1.map (·.list))=r3 at hin hlen ⊢
    by_cases h2:r3.2=0
    ·rw [if_neg (show ¬((r3.2 != 0)=true) by simp [h2]),if_neg (show ¬(r3.2≠0) by simp [h2])]
     by_cases hz:r3.1.length=0
     ·rw [if_pos (by simp [hz]),List.eq_nil_of_length_eq_zero hz]
      rfl
     ·rw [if_neg (by simp [hz])]
      have:=zlN hp hF hset r3 hin (by omega) (by omega) r3.1 [] 20000 rfl (by omega)
      simpa using this
    ·rw [if_pos (by simp [h2]),if_pos h2]
   ·have hR:Pu.readR p=([],(Pu.openR p).2):=by unfold Pu.readR;rw [if_pos h0]
    rw [if_pos (by simp [h0]),hR]
    simp [h0]
theorem zof (p:Pulse) (F:List WireFault) (hs:p.Times.length<=40) (hF:F.length<20000) (hread:Pu.valid p=true->zhd 20000 p=some (Pu.readR p)):zhy 20000 p F=some (zlj p F (Pu.readR p)):=by
 unfold zhy zlj
 rw [Pu.rCheck_eq p (by omega) (by omega),zal]
 cases hv:Pu.valid p with
 | false=>simp
 | true =>
  have hv':=Pu.valid_iff hv
  have hp:=And.intro hv'.1 hv'.2.1
  rw [show zh6 p=some (zlM p) from rfl]
  simp only [cond_true,bne_self_eq_false,Bool.false_eq_true,if_false,zal,if_true]
  rw [zq3 (znn hp) F hF,zal]
  cases hset:zmB (zlM p) F with
  | false=>simp
  | true =>
   simp only [Bool.not_true,Bool.false_eq_true,if_false,if_true]
   rw [hread hv,zal]
   have hin:=zoR hv
   have hlen:=zk5 hs
   by_cases h2:(Pu.readR p).2=0
   ·rw [if_neg (by simp [h2]),if_neg (by simp [h2])]
    have:=zk4 hp hF hset (Pu.readR p) hin (by omega) (Pu.readR p).1 [] 20000 rfl (by omega)
    simpa using this
   ·rw [if_pos (by simp [h2]),if_pos h2]
theorem zsl (p:Pulse) (hs:p.Times.length<=40) (hf:Pu.valid p=true->p.Times.length<=14) (h0:(Pu.openR p).2=0):zfz 20000 (Pu.openR p).1=some (Pu.oneR ((Pu.openR p).1.map (·.list))):=by
 have:=Pu.openR_len hf
 exact Pu.one_eq _ (Pu.open_none h0) (Pu.openR_list hs) (by omega) (by omega) (by omega)
theorem zrj {p:Pulse} (hs:p.Times.length<=40) (F:List WireFault):(zlj p F (Pu.readR p)).1.length<1000:=by
 have:=zk5 hs
 unfold zlj
 split
 ·split
  ·split
   ·simp
   ·simpa using this
  ·simp
 ·simp
theorem zhH (p:Pulse) (F:List WireFault) (hF:F.length<=40) (r4:Pulse) (r6 r7:List Int×Int):∀(l pre:List WireFault) (m:Nat),F=pre++l->l.length<m ->
  zbm 20000 p F r4 F r6 r7 m (pre.length:Int)=zcE 20000 p r4 r6 r7
 | [],pre,m,he,hm=>by
  obtain ⟨m,rfl⟩:∃k,m=k+1:=⟨m-1,by simp at hm;omega⟩
  simp only [List.append_nil] at he
  simp only [zbm,zcZ]
  rw [if_neg (by simp [he])]
 | x::l,pre,m,he,hm=>by
  simp only [List.length_cons] at hm
  obtain ⟨m,rfl⟩:∃k,m=k+1:=⟨m-1,by omega⟩
  have hl:F.length=pre.length+(l.length+1):=by rw [he];simp
  have ix:idx F (pre.length:Int)=some x:=by rw [he,zb3]
  have hc:(((pre++[x]).length:Nat):Int)=(pre.length:Int)+1:=by simp
  have ih:=zhH p F hF r4 r6 r7 l (pre++[x]) m (by simp [he]) (by omega)
  rw [hc] at ih
  simp only [zbm,zcZ]
  rw [if_pos (by simp only [decide_eq_true_eq];omega),ix]
  simp only [zal]
  rw [if_neg (by simp),zaH (by omega) (by omega),ih]
theorem zk6 (p:Pulse) (F:List WireFault):zfA 20000 p F=some true:=by
 unfold zfA
 rw [Pu.Far_eq p (by omega),zal]
 have far:zbF 20000 p F true=some true:=by
  unfold zbF
  rw [if_pos rfl,Pu.works_eq]
  rfl
 cases hfar:(decide (p.Times.length>40) || (Pu.valid p&&decide (p.Times.length>14))) with
 | true=>rw [if_pos rfl,far]
 | false =>
  rw [if_neg (by decide)]
  by_cases hF:(F.length:Int)>40
  ·rw [decide_eq_true hF,far]
  ·rw [decide_eq_false hF]
   simp only [Bool.or_eq_false_iff,decide_eq_false_iff_not,Bool.and_eq_false_imp] at hfar
   have hs:p.Times.length<=40:=by omega
   have hf:Pu.valid p=true->p.Times.length<=14:=fun h=>by have:=hfar.2 h;omega
   have hF':F.length<=40:=by omega
   unfold zbF
   rw [if_neg (by decide),Pu.Copy_eq p (by omega),zal,zg9 (by simp;omega),zal,List.nil_append]
   rw [znp p F hs (by omega) (zsl p hs hf),zal,zof p F hs (by omega) (fun _=>Pu.rRead_eq p hs hf (by omega)),zal]
   have hloop:=zhH p F hF' p (zlj p F (Pu.readR p)) (zlj p F (Pu.readR p)) F [] 20000 rfl (by omega)
   rw [show zbm 20000 p F p F (zlj p F (Pu.readR p)) (zlj p F (Pu.readR p)) 20000 0=_ from hloop]
   have hlen:=zrj hs F
   unfold zcE
   rw [Pu.SameInts_self _ (by omega) (by omega),zal,if_pos rfl,if_pos (by simp),Pu.same_self p (by omega) (by omega),zal,if_pos rfl,Pu.works_eq]
   rfl
end Go.Law
