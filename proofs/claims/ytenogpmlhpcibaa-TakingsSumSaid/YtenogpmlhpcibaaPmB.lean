/-
  Plain laws.
  Conditions: none.
-/
import Derived.Test.YtenogpmlhpcibaaPmA
set_option linter.all false
namespace Go.Law
open Go Go.AM
theorem same_eq {b:Box} (h:zqA b) {n:Nat} (hn:200<=n):ziG n b b=some true:=by
 obtain ⟨h1,h2,h3,h4,h5⟩:=h
 unfold ziG
 rw [if_pos (by simp),zfy _ (by omega) (by omega),zaa,if_pos rfl,zfy _ (by omega) (by omega),zaa,if_pos rfl,zfy _ (by omega) (by omega),zaa,if_pos rfl,zfy _ (by omega) (by omega),zaa,if_pos rfl,zfy _ (by omega) (by omega),zaa,if_pos rfl,if_pos (by simp)]
 unfold zbZ
 simp
open Classical in
noncomputable def ztF (n:Nat) (l:List Box) (s:Int×Int×Int):Int×Int×Int×Int:=if ∀b,b∈l->BoxOk b then (s.1+(zmT n l).1,s.2.1+(zmT n l).2.1,s.2.2+(zmT n l).2.2,0) else (0,0,0,50)
theorem zuK {n:Nat} {l:List Box} {s:Int×Int×Int} {b:Box} (hb:b∈l) (h:¬BoxOk b):ztF n l s=(0,0,0,50):=if_neg fun hh=>h (hh b hb)
theorem ztD {n:Nat} {l:List Box} {s:Int×Int×Int} {b:Box} (h:BoxOk b):ztF n (b::l) s=ztF n l (s.1+(zkM b).1,s.2.1+(mOf n b).1,s.2.2+(if (mOf n b).2=0 then 0 else 1)):=by
 unfold ztF
 by_cases hh:∀x,x∈l->BoxOk x
 ·rw [if_pos hh,if_pos (fun x hx=>by
   rcases List.mem_cons.1 hx with rfl | hx
   ·exact h
   ·exact hh x hx)]
  simp only [zmT,Int.add_assoc]
 ·rw [if_neg hh,if_neg fun h2=>hh fun x hx=>h2 x (by simp [hx])]
theorem zvW {n:Nat} (hn:200000<=n) {l:List Box} (hl:l.length<=5) (hL:∀b,b∈l->zqA b) (hN:∀b,b∈l->BoxOk b->Near b):zeo n l=some (ztF n l (0,0,0)):=by
 by_cases hh:∀b,b∈l->BoxOk b
 ·rw [zzy (by omega) (fun b hb=>hN b hb (hh b hb)) hl]
  unfold ztF
  rw [if_pos hh]
  simp
 ·unfold zeo ztF
  rw [if_neg (by simp;omega),if_neg hh]
  have key:=zlU (F:=fun m i (s:Unit)=>zbS n l m 0 0 0 i) (xs:=l) (spec:=fun k s=>some (0,0,0,50)) (I:=fun k s=>(∀b,b∈k->zqA b)/\¬∀b,b∈k->BoxOk b) (by omega)
   (fun m s hI=>absurd (fun b hb=>by simp at hb) hI.2)
   (fun m i b k s hI hx hi _ _ hrec=>by
    simp only [zbS,zdR]
    rw [if_pos (by simpa using hi),hx,zaa,zl8 b n (hI.1 b (by simp)) (by omega),zaa]
    by_cases hb:BoxOk b
    ·rw [zgs.2 hb,if_neg (by simp)]
     exact hrec () ⟨fun x hx=>hI.1 x (by simp [hx]),fun h=>hI.2 fun x hx=>by
      rcases List.mem_cons.1 hx with rfl | hx
      ·exact hb
      ·exact h x hx⟩
    ·rw [ziu hb,if_pos (by rfl)]
     rfl)
   l 0 n () (by omega) rfl (by omega) ⟨hL,hh⟩
  exact key
theorem zvX {n:Nat} (hn:200000<=n) {l:List Box} (hl:l.length<=5) (hL:∀b,b∈l->zqA b) (hN:∀b,b∈l->BoxOk b->Near b):zhs n l=some (ztF n l (0,0,0)):=by
 unfold zhs
 rw [if_neg (by simp;omega)]
 have key:=zlU (F:=fun m i (s:Int×Int×Int)=>zcY n l m s.1 s.2.1 s.2.2 i) (xs:=l) (spec:=fun k s=>some (ztF n k s))
  (I:=fun k s=>((∀b,b∈k->zqA b)/\∀b,b∈k->BoxOk b->Near b)/\k.length<=5/\(-1000000*(5-k.length:Int)<=s.1/\s.1<=1000000*(5-k.length:Int))/\(0<=s.2.1/\s.2.1<=1000000*(5-k.length:Int))/\(0<=s.2.2/\s.2.2<=(5-k.length:Int))) (by omega)
  (fun m s hI=>by
   simp only [zcY,zf8,zg9]
   rw [if_neg (by simp)]
   unfold ztF
   rw [if_pos (by simp)]
   simp [zmT])
  (fun m i b k s hI hx hi _ _ hrec=>by
   obtain ⟨⟨i0,i1⟩,i2,i3,i4,i5⟩:=hI
   simp only [List.length_cons] at i2 i3 i4 i5
   simp only [zcY,zf8]
   rw [if_pos (by simpa using hi),hx,zaa]
   by_cases hb:BoxOk b
   ·have N:=i1 b (by simp) hb
    have h1:=zmU hb
    obtain ⟨g,hm⟩:=ztw N (show 100000<=n by omega)
    have h2:=hm.nn hb
    rw [zuy hb (by omega),zaa,if_neg (by simp [zkM]),zaa,znP N hn,zaa,ztD hb]
    unfold zgl
    rw [zaI (x:=s.1+_) (by omega) (by omega),zaI (x:=s.2.1+_) (by omega) (by omega)]
    by_cases e:(mOf n b).2=0
    ·rw [if_neg (by simp [e]),if_pos e]
     have:=hrec (s.1+(zkM b).1,s.2.1+(mOf n b).1,s.2.2) ⟨⟨fun x hx=>i0 x (by simp [hx]),fun x hx=>i1 x (by simp [hx])⟩,by omega,by simp only;omega,by simp only;omega,by simp only;omega⟩
     rw [this,Int.add_zero]
    ·rw [if_pos (by simpa using e),if_neg e,zaI (x:=s.2.2+1) (by omega) (by omega)]
     exact hrec (s.1+(zkM b).1,s.2.1+(mOf n b).1,s.2.2+1) ⟨⟨fun x hx=>i0 x (by simp [hx]),fun x hx=>i1 x (by simp [hx])⟩,by omega,by simp only;omega,by simp only;omega,by simp only;omega⟩
   ·have e5:zgK n b=some (0,0,0,50):=by
     unfold zgK
     rw [zuu b _ (i0 b (by simp)) (by omega),ziu hb]
     rfl
    rw [e5,zaa,if_pos (by rfl),zuK (by simp) hb])
  l 0 n (0,0,0) (by omega) rfl (by omega) ⟨⟨hL,hN⟩,hl,by simp only;omega,by simp only;omega,by simp only;omega⟩
 exact key
theorem zmr (a0:List Box):zgy 1000000 a0=some true:=by
 have hw:=zuA (n:=1000000) (by omega)
 have hj:zbc 1000000 a0 true=some true:=by
  unfold zbc
  rw [if_pos rfl,hw]
  rfl
 unfold zgy
 by_cases h0:(a0.length:Int)>40
 ·rw [if_pos (by simpa using h0),hj]
 rw [if_neg (by simpa using h0)]
 have main:(a0.length<=3\/5<a0.length)->zbc 1000000 a0 false=some true:=fun hlen=>by
  unfold zbc
  rw [if_neg (by simp)]
  have fin:(∀b,b∈a0->zqA b/\(BoxOk b->Near b))->zcM 1000000 a0 a0=some true:=fun h=>by
   have hq:∃r,zeo 1000000 a0=some r/\zhs 1000000 a0=some r:=by
    by_cases h5:5<a0.length
    ·refine ⟨(0,0,0,2),?_,?_⟩
     ·unfold zeo
      rw [if_pos (by simp;omega)]
     ·unfold zhs
      rw [if_pos (by simp;omega)]
    ·exact ⟨_,zvW (by omega) (by omega) (fun b hb=>(h b hb).1) (fun b hb=>(h b hb).2),zvX (by omega) (by omega) (fun b hb=>(h b hb).1) (fun b hb=>(h b hb).2)⟩
   obtain ⟨r,q1,q2⟩:=hq
   unfold zcM
   rw [q1,zaa,q2,zaa]
   have key:=zlU (F:=fun m i (_:Unit)=>zbF 1000000 a0 a0 r r m i) (xs:=a0) (spec:=fun k s=>some true) (I:=fun k s=>∀b,b∈k->zqA b) (by omega)
    (fun m s hI=>by
     simp only [zbF,zcZ]
     rw [if_neg (by simp)]
     unfold zdI
     rw [if_pos (by simp),if_pos (by simp),if_pos (by simp),if_pos (by simp),hw]
     rfl)
    (fun m i b k s hI hx hi _ _ hrec=>by
     simp only [zbF,zcZ]
     rw [if_pos (by simpa using hi),hx,zaa,zaa,same_eq (hI b (by simp)) (by omega),zaa,if_neg (by simp)]
     exact hrec () fun x hx=>hI x (by simp [hx]))
    a0 0 1000000 () (by omega) rfl (by omega) fun b hb=>(h b hb).1
   exact key
  have key:∀(l pre:List Box) (m:Nat),pre++l=a0->l.length<m->(∀b,b∈pre->zqA b/\(BoxOk b->Near b))->zbG 1000000 a0 m pre (pre.length:Int)=some true:=by
   intro l
   induction l with
   | nil =>
    intro pre m he hm hp
    obtain ⟨m,rfl⟩:∃q,m=q+1:=⟨m-1,by omega⟩
    rw [List.append_nil] at he
    subst he
    simp only [zbG,zc0]
    rw [if_neg (by simp)]
    exact fin hp
   | cons b l ih =>
    intro pre m he hm hp
    obtain ⟨m,rfl⟩:∃q,m=q+1:=⟨m-1,by omega⟩
    have hlen':a0.length=pre.length+(l.length+1):=by rw [←he];simp
    have hix:idx a0 (pre.length:Int)=some b:=by rw [←he];exact zgX _ _ _
    simp only [List.length_cons] at hm
    simp only [zbG,zc0]
    rw [if_pos (by simp;omega),hix,zaa]
    rcases zzq b (n:=1000000) (by omega) with h | ⟨h,hL,hN⟩
    ·rw [h,zaa,if_pos rfl,hw]
     rfl
    ·rw [h,zaa,if_neg (by simp),zaa,zuB hL,zaa,zgp (by simp;omega),zaa,zaI (by omega) (by omega)]
     have:=ih (pre++[b]) m (by simpa using he) (by omega) fun x hx=>by
      rcases List.mem_append.1 hx with hx | hx
      ·exact hp x hx
      ·rw [List.mem_singleton.1 hx]
       exact ⟨hL,hN⟩
     rw [show (((pre++[b]).length:Nat):Int)=(pre.length:Int)+1 by simp] at this
     exact this
  exact key a0 [] 1000000 rfl (by omega) (by simp)
 by_cases h3:(a0.length:Int)>3
 ·rw [if_pos (by simpa using h3)]
  by_cases h5:(a0.length:Int)<=5
  ·rw [show decide ((a0.length:Int)<=5)=true by simpa using h5,hj]
  ·rw [show decide ((a0.length:Int)<=5)=false by simpa using h5]
   exact main (.inr (by omega))
 ·rw [if_neg (by simpa using h3)]
  exact main (.inl (by omega))
end Go.Law
