/-
  Plain laws of the ends of the ways.
  Conditions: none.
-/
import Derived.Test.YtenogpmlhpcibaaMd
import Derived.Test.YtenogpmlhpcibaaAmWq
set_option linter.all false
namespace Go.Law
open Go Go.AM
theorem zi8 {al:Bag_}:∀(l:List PointT_) (E:List (Int×PointT_)) (Q:Int->Prop),(∀p,p∈l->Q p.bought)->(∀p,p∈E->Q p.1)->(E.map (·.1)).Nodup->(∀p,p∈l.foldl (za8 al) E->Q p.1)/\((l.foldl (za8 al) E).map (·.1)).Nodup
 | [],E,Q,_,h,hn=>⟨h,hn⟩
 | p::l,E,Q,hl,h,hn=>by
  rw [List.foldl_cons]
  refine zi8 l _ Q (fun q hq=>hl q (List.mem_cons_of_mem _ hq)) (fun q hq=>?_) ?_
  ·unfold za8 at hq
   split at hq
   ·rcases (zi4 hn).1 hq with rfl | ⟨hq,_⟩
    ·exact hl p (List.mem_cons_self ..)
    ·exact h q hq
   ·exact h q hq
  ·unfold za8
   split
   ·exact ziq hn
   ·exact hn
theorem ztI {al:Bag_} {M:List (PointT_×Step_)} (hall:∀x,x∈M->okI x.1.bought=true) {q:List Nat} {z:PointT_×Step_} (hz:okI z.1.bought=true:=by decide):∀y,okI y=true->mok okI ((q.map fun e=>(M.getD e z).1).foldl (za8 al) []) y=true:=fun y hy=>by
 obtain ⟨h1,h2⟩:=zi8 (al:=al) (q.map fun e=>(M.getD e z).1) [] (fun b=>okI b=true) (fun p hp=>by
  obtain ⟨e,_,rfl⟩:=List.mem_map.1 hp
  rw [List.getD_eq_getElem?_getD]
  cases h:M[e]? with
  | none=>exact hz
  | some x=>exact hall x (List.mem_of_getElem? h)) (fun p hp=>by simp at hp) (by simp)
 unfold mok
 rw [hy,Bool.true_and,Bool.and_eq_true]
 exact ⟨List.all_eq_true.2 h1,decide_eq_true h2⟩
theorem znz {x y:Bag_}:zlx x y=true↔x=y:=by
 unfold zlx
 cases x
 cases y
 simp only [Bool.and_eq_true,beq_iff_eq,and_true,Bag_.mk.injEq]
theorem zc7 {p o:PointT_}:zeY p o=false↔o.Stand.Place<p.Stand.Place\/o.Stand.Place=p.Stand.Place/\o.Stand.Credit<=p.Stand.Credit:=by
 unfold zeY
 simp only [Bool.or_eq_false_iff,decide_eq_false_iff_not,Bool.and_eq_false_iff,beq_eq_false_iff_ne,ne_eq]
 omega
theorem znA {p o:PointT_}:zeY p o=true↔p.Stand.Place<o.Stand.Place\/o.Stand.Place=p.Stand.Place/\p.Stand.Credit<o.Stand.Credit:=by
 unfold zeY
 simp only [Bool.or_eq_true,decide_eq_true_eq,Bool.and_eq_true,beq_iff_eq]
 omega
structure EndsOk (al:Bag_) (l:List PointT_) (E:List (Int×PointT_)):Prop where
 nd:(E.map (·.1)).Nodup
 mem:∀b o,(b,o)∈E↔o∈l/\o.in_=al/\o.bought=b/\∀o',o'∈l->o'.in_=al->o'.bought=b->zeY o' o=false
 has:∀o,o∈l->o.in_=al->zbv E o.bought=true
theorem EndsOk.nil (al:Bag_):EndsOk al [] []:=⟨by simp,by simp,by simp⟩
theorem EndsOk.step {al:Bag_} {l:List PointT_} {E:List (Int×PointT_)} (h:EndsOk al l E) (p:PointT_):EndsOk al (l++[p]) (za8 al E p):=by
 have hv:zbv E p.bought=true->(p.bought,zg0 zaN E p.bought)∈E:=zgP _
 unfold za8
 by_cases hp:p.in_=al
 ·have hpb:zlx p.in_ al=true:=znz.2 hp
  cases hh:zbv E p.bought with
  | false =>
   have hb:zkM al E p=true:=by simp [zkM,hpb,hh]
   rw [if_pos hb]
   have hno:∀o,o∈l->o.in_=al->o.bought≠p.bought:=fun o ho hi e=>by
    have:=h.has o ho hi
    rw [e,hh] at this
    cases this
   refine ⟨ziq h.nd,fun b o=>?_,fun o ho hi=>?_⟩
   ·rw [zi4 h.nd]
    constructor
    ·rintro (e | ⟨hm,hne⟩)
     ·injection e with e1 e2
      subst e1 e2
      refine ⟨by simp,hp,rfl,fun o' ho' hi' hb'=>?_⟩
      rcases List.mem_append.1 ho' with ho' | ho'
      ·exact absurd hb' (hno o' ho' hi')
      ·obtain rfl:=List.mem_singleton.1 ho'
       exact zc7.2 (.inr ⟨rfl,Int.le_refl _⟩)
     ·obtain ⟨h1,h2,h3,h4⟩:=(h.mem b o).1 hm
      refine ⟨List.mem_append_left _ h1,h2,h3,fun o' ho' hi' hb'=>?_⟩
      rcases List.mem_append.1 ho' with ho' | ho'
      ·exact h4 o' ho' hi' hb'
      ·obtain rfl:=List.mem_singleton.1 ho'
       exact absurd hb'.symm hne
    ·rintro ⟨h1,h2,h3,h4⟩
     rcases List.mem_append.1 h1 with h1 | h1
     ·refine .inr ⟨(h.mem b o).2 ⟨h1,h2,h3,fun o' ho'=>h4 o' (List.mem_append_left _ ho')⟩,?_⟩
      show b≠p.bought
      rw [←h3]
      exact hno o h1 h2
     ·obtain rfl:=List.mem_singleton.1 h1
      exact .inl (by rw [h3])
   ·rw [zbg,zgO,hh]
    simp only [Bool.false_eq_true,if_false,List.mem_append,List.mem_singleton]
    rcases List.mem_append.1 ho with ho | ho
    ·exact .inl (zbg.1 (h.has o ho hi))
    ·obtain rfl:=List.mem_singleton.1 ho
     exact .inr rfl
  | true =>
   obtain ⟨q1,q2,q3,q4⟩:=(h.mem _ _).1 (hv hh)
   cases hbt:zeY p (zg0 zaN E p.bought) with
   | true =>
    have hb:zkM al E p=true:=by simp [zkM,hpb,hbt]
    rw [if_pos hb]
    refine ⟨ziq h.nd,fun b o=>?_,fun o ho hi=>?_⟩
    ·rw [zi4 h.nd]
     constructor
     ·rintro (e | ⟨hm,hne⟩)
      ·injection e with e1 e2
       subst e1 e2
       refine ⟨by simp,hp,rfl,fun o' ho' hi' hb'=>?_⟩
       rcases List.mem_append.1 ho' with ho' | ho'
       ·have h5:=zc7.1 (q4 o' ho' hi' hb')
        have h6:=znA.1 hbt
        exact zc7.2 (by omega)
       ·obtain rfl:=List.mem_singleton.1 ho'
        exact zc7.2 (.inr ⟨rfl,Int.le_refl _⟩)
      ·obtain ⟨h1,h2,h3,h4⟩:=(h.mem b o).1 hm
       refine ⟨List.mem_append_left _ h1,h2,h3,fun o' ho' hi' hb'=>?_⟩
       rcases List.mem_append.1 ho' with ho' | ho'
       ·exact h4 o' ho' hi' hb'
       ·obtain rfl:=List.mem_singleton.1 ho'
        exact absurd hb'.symm hne
     ·rintro ⟨h1,h2,h3,h4⟩
      rcases List.mem_append.1 h1 with h1 | h1
      ·by_cases hb2:b=p.bought
       ·have h5:=zc7.1 (h4 p (by simp) hp hb2.symm)
        have h6:=znA.1 hbt
        have h7:=zc7.1 (q4 o h1 h2 (h3.trans hb2))
        exfalso
        omega
       ·exact .inr ⟨(h.mem b o).2 ⟨h1,h2,h3,fun o' ho'=>h4 o' (List.mem_append_left _ ho')⟩,hb2⟩
      ·obtain rfl:=List.mem_singleton.1 h1
       exact .inl (by rw [h3])
    ·rw [zbg,zgO,hh]
     simp only [if_true]
     rcases List.mem_append.1 ho with ho | ho
     ·exact zbg.1 (h.has o ho hi)
     ·obtain rfl:=List.mem_singleton.1 ho
      exact zbg.1 hh
   | false =>
    have hb:zkM al E p=false:=by simp [zkM,hh,hbt]
    rw [if_neg (by rw [hb];simp)]
    refine ⟨h.nd,fun b o=>?_,fun o ho hi=>?_⟩
    ·rw [h.mem]
     constructor
     ·rintro ⟨h1,h2,h3,h4⟩
      refine ⟨List.mem_append_left _ h1,h2,h3,fun o' ho' hi' hb'=>?_⟩
      rcases List.mem_append.1 ho' with ho' | ho'
      ·exact h4 o' ho' hi' hb'
      ·obtain rfl:=List.mem_singleton.1 ho'
       have h5:=zc7.1 (h4 _ q1 q2 (q3.trans hb'))
       have h6:=zc7.1 hbt
       exact zc7.2 (by omega)
     ·rintro ⟨h1,h2,h3,h4⟩
      rcases List.mem_append.1 h1 with h1 | h1
      ·exact ⟨h1,h2,h3,fun o' ho'=>h4 o' (List.mem_append_left _ ho')⟩
      ·obtain rfl:=List.mem_singleton.1 h1
       have h5:=zc7.1 (h4 _ (List.mem_append_left _ q1) q2 (q3.trans h3))
       have h6:=zc7.1 hbt
       have e:zg0 zaN E o.bought=o:=by
        have e1:(zg0 zaN E o.bought).Stand.Place=o.Stand.Place:=by omega
        have e2:(zg0 zaN E o.bought).Stand.Credit=o.Stand.Credit:=by omega
        generalize zg0 zaN E o.bought=y at *
        obtain ⟨⟨a,b⟩,c,d⟩:=y
        obtain ⟨⟨a',b'⟩,c',d'⟩:=o
        simp_all
       rw [←h3]
       rw [e] at q1 q4
       exact ⟨q1,hp,rfl,q4⟩
    ·rcases List.mem_append.1 ho with ho | ho
     ·exact h.has o ho hi
     ·obtain rfl:=List.mem_singleton.1 ho
      exact hh
 ·have hpb:zlx p.in_ al=false:=by
   cases e:zlx p.in_ al
   ·rfl
   ·exact absurd (znz.1 e) hp
  have hb:zkM al E p=false:=by simp [zkM,hpb]
  rw [if_neg (by rw [hb];simp)]
  refine ⟨h.nd,fun b o=>?_,fun o ho hi=>?_⟩
  ·rw [h.mem]
   constructor
   ·rintro ⟨h1,h2,h3,h4⟩
    refine ⟨List.mem_append_left _ h1,h2,h3,fun o' ho' hi' hb'=>?_⟩
    rcases List.mem_append.1 ho' with ho' | ho'
    ·exact h4 o' ho' hi' hb'
    ·obtain rfl:=List.mem_singleton.1 ho'
     exact absurd hi' hp
   ·rintro ⟨h1,h2,h3,h4⟩
    rcases List.mem_append.1 h1 with h1 | h1
    ·exact ⟨h1,h2,h3,fun o' ho'=>h4 o' (List.mem_append_left _ ho')⟩
    ·obtain rfl:=List.mem_singleton.1 h1
     exact absurd h2 hp
  ·rcases List.mem_append.1 ho with ho | ho
   ·exact h.has o ho hi
   ·obtain rfl:=List.mem_singleton.1 ho
    exact absurd hi hp
theorem zue {al:Bag_}:∀(l pre:List PointT_) (E:List (Int×PointT_)),EndsOk al pre E->EndsOk al (pre++l) (l.foldl (za8 al) E)
 | [],pre,E,h=>by simpa using h
 | p::l,pre,E,h=>by
  have:=zue l _ _ (h.step p)
  simpa using this
theorem zk5 (al:Bag_) (l:List PointT_):EndsOk al l (l.foldl (za8 al) []):=by simpa using zue l [] [] (EndsOk.nil al)
theorem znB {al:Bag_} {l l':List PointT_} (h:l.Perm l'):(l.foldl (za8 al) []).Perm (l'.foldl (za8 al) []):=by
 have h1:=zk5 al l
 have h2:=zk5 al l'
 refine (List.perm_ext_iff_of_nodup (zi5 h1.nd) (zi5 h2.nd)).2 fun x=>?_
 obtain ⟨b,o⟩:=x
 rw [h1.mem,h2.mem]
 simp only [h.mem_iff]
theorem zsq {κ ν:Type} [DecidableEq κ] (z:ν) {M M':List (κ×ν)} (h:M.Perm M') (hn:(M.map (·.1)).Nodup) (k:κ):zg0 z M k=zg0 z M' k/\zbv M k=zbv M' k:=by
 have hn':(M'.map (·.1)).Nodup:=(h.map _).nodup_iff.1 hn
 have hm:zbv M k=zbv M' k:=by
  rw [Bool.eq_iff_iff,zbg,zbg]
  exact (h.map _).mem_iff
 refine ⟨?_,hm⟩
 cases hh:zbv M k with
 | true=>exact (zpz z hn' (h.mem_iff.1 (zgP z hh))).symm
 | false=>rw [(zgK z M k hh).1,(zgK z M' k (hm▸hh)).1]
theorem zkk {al:Bag_}:∀(l:List PointT_) (E:List (Int×PointT_)),(l.foldl (za8 al) E).length<=E.length+l.length
 | [],E=>Nat.le_refl _
 | p::l,E=>by
  rw [List.foldl_cons]
  have h1:=zkk (al:=al) l (za8 al E p)
  have h2:(za8 al E p).length<=E.length+1:=by
   unfold za8
   split
   ·have h3:=congrArg List.length (zgO (M:=E) (k:=p.bought) (v:=p))
    simp only [List.length_map] at h3
    rw [h3]
    split<;>simp
   ·omega
  simp only [List.length_cons]
  omega
end Go.Law
