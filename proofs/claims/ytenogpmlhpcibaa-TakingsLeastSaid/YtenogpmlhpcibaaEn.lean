/-
  Plain laws of the ends of the ways.
  Conditions: none.
-/
import Derived.Test.YtenogpmlhpcibaaMd
import Derived.Test.YtenogpmlhpcibaaAmWq
set_option linter.all false
namespace Go.Law
open Go Go.AM
theorem ziM {al:Bag_}:∀(l:List PointT_) (E:List (Int×PointT_)) (Q:Int->Prop),(∀p,p∈l->Q p.bought)->(∀p,p∈E->Q p.1)->(E.map (·.1)).Nodup->(∀p,p∈l.foldl (za5 al) E->Q p.1)/\((l.foldl (za5 al) E).map (·.1)).Nodup
 | [],E,Q,_,h,hn=>⟨h,hn⟩
 | p::l,E,Q,hl,h,hn=>by
  rw [List.foldl_cons]
  refine ziM l _ Q (fun q hq=>hl q (List.mem_cons_of_mem _ hq)) (fun q hq=>?_) ?_
  ·unfold za5 at hq
   split at hq
   ·rcases (ziI hn).1 hq with rfl | ⟨hq,_⟩
    ·exact hl p (List.mem_cons_self ..)
    ·exact h q hq
   ·exact h q hq
  ·unfold za5
   split
   ·exact zh9 hn
   ·exact hn
theorem zsJ {al:Bag_} {M:List (PointT_×Step_)} (hall:∀x,x∈M->okI x.1.bought=true) {q:List Nat} {z:PointT_×Step_} (hz:okI z.1.bought=true:=by decide):∀y,okI y=true->mok okI ((q.map fun e=>(M.getD e z).1).foldl (za5 al) []) y=true:=fun y hy=>by
 obtain ⟨h1,h2⟩:=ziM (al:=al) (q.map fun e=>(M.getD e z).1) [] (fun b=>okI b=true) (fun p hp=>by
  obtain ⟨e,_,rfl⟩:=List.mem_map.1 hp
  rw [List.getD_eq_getElem?_getD]
  cases h:M[e]? with
  | none=>exact hz
  | some x=>exact hall x (List.mem_of_getElem? h)) (fun p hp=>by simp at hp) (by simp)
 unfold mok
 rw [hy,Bool.true_and,Bool.and_eq_true]
 exact ⟨List.all_eq_true.2 h1,decide_eq_true h2⟩
theorem zm0 {x y:Bag_}:zk7 x y=true↔x=y:=by
 unfold zk7
 cases x
 cases y
 simp only [Bool.and_eq_true,beq_iff_eq,and_true,Bag_.mk.injEq]
theorem zcZ {p o:PointT_}:zeY p o=false↔o.Stand.Place<p.Stand.Place\/o.Stand.Place=p.Stand.Place/\o.Stand.Credit<=p.Stand.Credit:=by
 unfold zeY
 simp only [Bool.or_eq_false_iff,decide_eq_false_iff_not,Bool.and_eq_false_iff,beq_eq_false_iff_ne,ne_eq]
 omega
theorem zm1 {p o:PointT_}:zeY p o=true↔p.Stand.Place<o.Stand.Place\/o.Stand.Place=p.Stand.Place/\p.Stand.Credit<o.Stand.Credit:=by
 unfold zeY
 simp only [Bool.or_eq_true,decide_eq_true_eq,Bool.and_eq_true,beq_iff_eq]
 omega
structure EndsOk (al:Bag_) (l:List PointT_) (E:List (Int×PointT_)):Prop where
 nd:(E.map (·.1)).Nodup
 mem:∀b o,(b,o)∈E↔o∈l/\o.in_=al/\o.bought=b/\∀o',o'∈l->o'.in_=al->o'.bought=b->zeY o' o=false
 has:∀o,o∈l->o.in_=al->zcm E o.bought=true
theorem EndsOk.nil (al:Bag_):EndsOk al [] []:=⟨by simp,by simp,by simp⟩
theorem EndsOk.step {al:Bag_} {l:List PointT_} {E:List (Int×PointT_)} (h:EndsOk al l E) (p:PointT_):EndsOk al (l++[p]) (za5 al E p):=by
 have hv:zcm E p.bought=true->(p.bought,zgM zaJ E p.bought)∈E:=zgF _
 unfold za5
 by_cases hp:p.in_=al
 ·have hpb:zk7 p.in_ al=true:=zm0.2 hp
  cases hh:zcm E p.bought with
  | false =>
   have hb:zko al E p=true:=by simp [zko,hpb,hh]
   rw [if_pos hb]
   have hno:∀o,o∈l->o.in_=al->o.bought≠p.bought:=fun o ho hi e=>by
    have:=h.has o ho hi
    rw [e,hh] at this
    cases this
   refine ⟨zh9 h.nd,fun b o=>?_,fun o ho hi=>?_⟩
   ·rw [ziI h.nd]
    constructor
    ·rintro (e | ⟨hm,hne⟩)
     ·injection e with e1 e2
      subst e1 e2
      refine ⟨by simp,hp,rfl,fun o' ho' hi' hb'=>?_⟩
      rcases List.mem_append.1 ho' with ho' | ho'
      ·exact absurd hb' (hno o' ho' hi')
      ·obtain rfl:=List.mem_singleton.1 ho'
       exact zcZ.2 (.inr ⟨rfl,Int.le_refl _⟩)
     ·obtain ⟨h1,h2,h3,h4⟩:=(h.mem b o).1 hm
      refine ⟨List.mem_append_left _ h1,h2,h3,fun o' ho' hi' hb'=>?_⟩
      rcases List.mem_append.1 ho' with ho' | ho'
      ·exact h4 o' ho' hi' hb'
      ·obtain rfl:=List.mem_singleton.1 ho'
       exact absurd hb'.symm hne
    ·rintro ⟨h1,h2,h3,h4⟩
     rcases List.mem_append.1 h1 with h1 | h1
     ·refine .inr ⟨(h.mem b o).2 ⟨h1,h2,h3,fun o' ho'=>h4 o' (List.mem_append_left _ ho')⟩,?_⟩
      show b≠p.bought
      rw [←h3]
      exact hno o h1 h2
     ·obtain rfl:=List.mem_singleton.1 h1
      exact .inl (by rw [h3])
   ·rw [zbb,zgE,hh]
    simp only [Bool.false_eq_true,if_false,List.mem_append,List.mem_singleton]
    rcases List.mem_append.1 ho with ho | ho
    ·exact .inl (zbb.1 (h.has o ho hi))
    ·obtain rfl:=List.mem_singleton.1 ho
     exact .inr rfl
  | true =>
   obtain ⟨q1,q2,q3,q4⟩:=(h.mem _ _).1 (hv hh)
   cases hbt:zeY p (zgM zaJ E p.bought) with
   | true =>
    have hb:zko al E p=true:=by simp [zko,hpb,hbt]
    rw [if_pos hb]
    refine ⟨zh9 h.nd,fun b o=>?_,fun o ho hi=>?_⟩
    ·rw [ziI h.nd]
     constructor
     ·rintro (e | ⟨hm,hne⟩)
      ·injection e with e1 e2
       subst e1 e2
       refine ⟨by simp,hp,rfl,fun o' ho' hi' hb'=>?_⟩
       rcases List.mem_append.1 ho' with ho' | ho'
       ·have h5:=zcZ.1 (q4 o' ho' hi' hb')
        have h6:=zm1.1 hbt
        exact zcZ.2 (by omega)
       ·obtain rfl:=List.mem_singleton.1 ho'
        exact zcZ.2 (.inr ⟨rfl,Int.le_refl _⟩)
      ·obtain ⟨h1,h2,h3,h4⟩:=(h.mem b o).1 hm
       refine ⟨List.mem_append_left _ h1,h2,h3,fun o' ho' hi' hb'=>?_⟩
       rcases List.mem_append.1 ho' with ho' | ho'
       ·exact h4 o' ho' hi' hb'
       ·obtain rfl:=List.mem_singleton.1 ho'
        exact absurd hb'.symm hne
     ·rintro ⟨h1,h2,h3,h4⟩
      rcases List.mem_append.1 h1 with h1 | h1
      ·by_cases hb2:b=p.bought
       ·have h5:=zcZ.1 (h4 p (by simp) hp hb2.symm)
        have h6:=zm1.1 hbt
        have h7:=zcZ.1 (q4 o h1 h2 (h3.trans hb2))
        exfalso
        omega
       ·exact .inr ⟨(h.mem b o).2 ⟨h1,h2,h3,fun o' ho'=>h4 o' (List.mem_append_left _ ho')⟩,hb2⟩
      ·obtain rfl:=List.mem_singleton.1 h1
       exact .inl (by rw [h3])
    ·rw [zbb,zgE,hh]
     simp only [if_true]
     rcases List.mem_append.1 ho with ho | ho
     ·exact zbb.1 (h.has o ho hi)
     ·obtain rfl:=List.mem_singleton.1 ho
      exact zbb.1 hh
   | false =>
    have hb:zko al E p=false:=by simp [zko,hh,hbt]
    rw [if_neg (by rw [hb];simp)]
    refine ⟨h.nd,fun b o=>?_,fun o ho hi=>?_⟩
    ·rw [h.mem]
     constructor
     ·rintro ⟨h1,h2,h3,h4⟩
      refine ⟨List.mem_append_left _ h1,h2,h3,fun o' ho' hi' hb'=>?_⟩
      rcases List.mem_append.1 ho' with ho' | ho'
      ·exact h4 o' ho' hi' hb'
      ·obtain rfl:=List.mem_singleton.1 ho'
       have h5:=zcZ.1 (h4 _ q1 q2 (q3.trans hb'))
       have h6:=zcZ.1 hbt
       exact zcZ.2 (by omega)
     ·rintro ⟨h1,h2,h3,h4⟩
      rcases List.mem_append.1 h1 with h1 | h1
      ·exact ⟨h1,h2,h3,fun o' ho'=>h4 o' (List.mem_append_left _ ho')⟩
      ·obtain rfl:=List.mem_singleton.1 h1
       have h5:=zcZ.1 (h4 _ (List.mem_append_left _ q1) q2 (q3.trans h3))
       have h6:=zcZ.1 hbt
       have e:zgM zaJ E o.bought=o:=by
        have e1:(zgM zaJ E o.bought).Stand.Place=o.Stand.Place:=by omega
        have e2:(zgM zaJ E o.bought).Stand.Credit=o.Stand.Credit:=by omega
        generalize zgM zaJ E o.bought=y at *
        obtain ⟨⟨a,b⟩,c,d⟩:=y
        obtain ⟨⟨a',b'⟩,c',d'⟩:=o
        simp_all
       rw [←h3]
       rw [e] at q1 q4
       exact ⟨q1,hp,rfl,q4⟩
    ·rcases List.mem_append.1 ho with ho | ho
     ·exact h.has o ho hi
     ·obtain rfl:=List.mem_singleton.1 ho
      exact hh
 ·have hpb:zk7 p.in_ al=false:=by
   cases e:zk7 p.in_ al
   ·rfl
   ·exact absurd (zm0.1 e) hp
  have hb:zko al E p=false:=by simp [zko,hpb]
  rw [if_neg (by rw [hb];simp)]
  refine ⟨h.nd,fun b o=>?_,fun o ho hi=>?_⟩
  ·rw [h.mem]
   constructor
   ·rintro ⟨h1,h2,h3,h4⟩
    refine ⟨List.mem_append_left _ h1,h2,h3,fun o' ho' hi' hb'=>?_⟩
    rcases List.mem_append.1 ho' with ho' | ho'
    ·exact h4 o' ho' hi' hb'
    ·obtain rfl:=List.mem_singleton.1 ho'
     exact absurd hi' hp
   ·rintro ⟨h1,h2,h3,h4⟩
    rcases List.mem_append.1 h1 with h1 | h1
    ·exact ⟨h1,h2,h3,fun o' ho'=>h4 o' (List.mem_append_left _ ho')⟩
    ·obtain rfl:=List.mem_singleton.1 h1
     exact absurd h2 hp
  ·rcases List.mem_append.1 ho with ho | ho
   ·exact h.has o ho hi
   ·obtain rfl:=List.mem_singleton.1 ho
    exact absurd hi hp
theorem ztk {al:Bag_}:∀(l pre:List PointT_) (E:List (Int×PointT_)),EndsOk al pre E->EndsOk al (pre++l) (l.foldl (za5 al) E)
 | [],pre,E,h=>by simpa using h
 | p::l,pre,E,h=>by
  have:=ztk l _ _ (h.step p)
  simpa using this
theorem zkB (al:Bag_) (l:List PointT_):EndsOk al l (l.foldl (za5 al) []):=by simpa using ztk l [] [] (EndsOk.nil al)
theorem zm2 {al:Bag_} {l l':List PointT_} (h:l.Perm l'):(l.foldl (za5 al) []).Perm (l'.foldl (za5 al) []):=by
 have h1:=zkB al l
 have h2:=zkB al l'
 refine (List.perm_ext_iff_of_nodup (ziJ h1.nd) (ziJ h2.nd)).2 fun x=>?_
 obtain ⟨b,o⟩:=x
 rw [h1.mem,h2.mem]
 simp only [h.mem_iff]
theorem zrC {κ ν:Type} [DecidableEq κ] (z:ν) {M M':List (κ×ν)} (h:M.Perm M') (hn:(M.map (·.1)).Nodup) (k:κ):zgM z M k=zgM z M' k/\zcm M k=zcm M' k:=by
 have hn':(M'.map (·.1)).Nodup:=(h.map _).nodup_iff.1 hn
 have hm:zcm M k=zcm M' k:=by
  rw [Bool.eq_iff_iff,zbb,zbb]
  exact (h.map _).mem_iff
 refine ⟨?_,hm⟩
 cases hh:zcm M k with
 | true=>exact (zoY z hn' (h.mem_iff.1 (zgF z hh))).symm
 | false=>rw [(zgA z M k hh).1,(zgA z M' k (hm▸hh)).1]
theorem zjU {al:Bag_}:∀(l:List PointT_) (E:List (Int×PointT_)),(l.foldl (za5 al) E).length<=E.length+l.length
 | [],E=>Nat.le_refl _
 | p::l,E=>by
  rw [List.foldl_cons]
  have h1:=zjU (al:=al) l (za5 al E p)
  have h2:(za5 al E p).length<=E.length+1:=by
   unfold za5
   split
   ·have h3:=congrArg List.length (zgE (M:=E) (k:=p.bought) (v:=p))
    simp only [List.length_map] at h3
    rw [h3]
    split<;>simp
   ·omega
  simp only [List.length_cons]
  omega
end Go.Law
