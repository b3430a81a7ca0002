/-
  Plain laws of the ends of the ways.
  Conditions: none.
-/
import Derived.Test.YtchhkifidbkjcaaMd
import Derived.Test.YtchhkifidbkjcaaAmWq
set_option linter.all false
namespace Go.Law
open Go Go.AM
theorem zk4 {al:Bag_}:∀(l:List PointT_) (E:List (Int×PointT_)) (Q:Int->Prop),(∀p,p∈l->Q p.bought)->(∀p,p∈E->Q p.1)->(E.map (·.1)).Nodup->(∀p,p∈l.foldl (zbr al) E->Q p.1)/\((l.foldl (zbr al) E).map (·.1)).Nodup
 | [],E,Q,_,h,hn=>⟨h,hn⟩
 | p::l,E,Q,hl,h,hn=>by
  rw [List.foldl_cons]
  refine zk4 l _ Q (fun q hq=>hl q (List.mem_cons_of_mem _ hq)) (fun q hq=>?_) ?_
  ·unfold zbr at hq
   split at hq
   ·rcases (ziK hn).1 hq with rfl | ⟨hq,_⟩
    ·exact hl p (List.mem_cons_self ..)
    ·exact h q hq
   ·exact h q hq
  ·unfold zbr
   split
   ·exact zig hn
   ·exact hn
theorem zt6 {al:Bag_} {M:List (PointT_×Step_)} (hall:∀x,x∈M->okI x.1.bought=true) {q:List Nat} {z:PointT_×Step_} (hz:okI z.1.bought=true:=by decide):∀y,okI y=true->mok okI ((q.map fun e=>(M.getD e z).1).foldl (zbr al) []) y=true:=fun y hy=>by
 obtain ⟨h1,h2⟩:=zk4 (al:=al) (q.map fun e=>(M.getD e z).1) [] (fun b=>okI b=true) (fun p hp=>by
  obtain ⟨e,_,rfl⟩:=List.mem_map.1 hp
  rw [List.getD_eq_getElem?_getD]
  cases h:M[e]? with
  | none=>exact hz
  | some x=>exact hall x (List.mem_of_getElem? h)) (fun p hp=>by simp at hp) (by simp)
 unfold mok
 rw [hy,Bool.true_and,Bool.and_eq_true]
 exact ⟨List.all_eq_true.2 h1,decide_eq_true h2⟩
theorem znS {x y:Bag_}:zlu x y=true↔x=y:=by
 unfold zlu
 cases x
 cases y
 simp only [Bool.and_eq_true,beq_iff_eq,and_true,Bag_.mk.injEq]
theorem zdc {p o:PointT_}:ze0 p o=false↔o.Stand.Place<p.Stand.Place\/o.Stand.Place=p.Stand.Place/\o.Stand.Credit<=p.Stand.Credit:=by
 unfold ze0
 simp only [Bool.or_eq_false_iff,decide_eq_false_iff_not,Bool.and_eq_false_iff,beq_eq_false_iff_ne,ne_eq]
 omega
theorem znT {p o:PointT_}:ze0 p o=true↔p.Stand.Place<o.Stand.Place\/o.Stand.Place=p.Stand.Place/\p.Stand.Credit<o.Stand.Credit:=by
 unfold ze0
 simp only [Bool.or_eq_true,decide_eq_true_eq,Bool.and_eq_true,beq_iff_eq]
 omega
structure EndsOk (al:Bag_) (l:List PointT_) (E:List (Int×PointT_)):Prop where
 nd:(E.map (·.1)).Nodup
 mem:∀b o,(b,o)∈E↔o∈l/\o.in_=al/\o.bought=b/\∀o',o'∈l->o'.in_=al->o'.bought=b->ze0 o' o=false
 has:∀o,o∈l->o.in_=al->zbt E o.bought=true
theorem EndsOk.nil (al:Bag_):EndsOk al [] []:=⟨by simp,by simp,by simp⟩
theorem EndsOk.step {al:Bag_} {l:List PointT_} {E:List (Int×PointT_)} (h:EndsOk al l E) (p:PointT_):EndsOk al (l++[p]) (zbr al E p):=by
 have hv:zbt E p.bought=true->(p.bought,zgO zaG E p.bought)∈E:=zgC _
 unfold zbr
 by_cases hp:p.in_=al
 ·have hpb:zlu p.in_ al=true:=znS.2 hp
  cases hh:zbt E p.bought with
  | false =>
   have hb:zkO al E p=true:=by simp [zkO,hpb,hh]
   rw [if_pos hb]
   have hno:∀o,o∈l->o.in_=al->o.bought≠p.bought:=fun o ho hi e=>by
    have:=h.has o ho hi
    rw [e,hh] at this
    cases this
   refine ⟨zig h.nd,fun b o=>?_,fun o ho hi=>?_⟩
   ·rw [ziK h.nd]
    constructor
    ·rintro (e | ⟨hm,hne⟩)
     ·injection e with e1 e2
      subst e1 e2
      refine ⟨by simp,hp,rfl,fun o' ho' hi' hb'=>?_⟩
      rcases List.mem_append.1 ho' with ho' | ho'
      ·exact absurd hb' (hno o' ho' hi')
      ·obtain rfl:=List.mem_singleton.1 ho'
       exact zdc.2 (.inr ⟨rfl,Int.le_refl _⟩)
     ·obtain ⟨h1,h2,h3,h4⟩:=(h.mem b o).1 hm
      refine ⟨List.mem_append_left _ h1,h2,h3,fun o' ho' hi' hb'=>?_⟩
      rcases List.mem_append.1 ho' with ho' | ho'
      ·exact h4 o' ho' hi' hb'
      ·obtain rfl:=List.mem_singleton.1 ho'
       exact absurd hb'.symm hne
    ·rintro ⟨h1,h2,h3,h4⟩
     rcases List.mem_append.1 h1 with h1 | h1
     ·refine .inr ⟨(h.mem b o).2 ⟨h1,h2,h3,fun o' ho'=>h4 o' (List.mem_append_left _ ho')⟩,?_⟩
      show b≠p.bought
      rw [←h3]
      exact hno o h1 h2
     ·obtain rfl:=List.mem_singleton.1 h1
      exact .inl (by rw [h3])
   ·rw [zbc,zgB,hh]
    simp only [Bool.false_eq_true,if_false,List.mem_append,List.mem_singleton]
    rcases List.mem_append.1 ho with ho | ho
    ·exact .inl (zbc.1 (h.has o ho hi))
    ·obtain rfl:=List.mem_singleton.1 ho
     exact .inr rfl
  | true =>
   obtain ⟨q1,q2,q3,q4⟩:=(h.mem _ _).1 (hv hh)
   cases hbt:ze0 p (zgO zaG E p.bought) with
   | true =>
    have hb:zkO al E p=true:=by simp [zkO,hpb,hbt]
    rw [if_pos hb]
    refine ⟨zig h.nd,fun b o=>?_,fun o ho hi=>?_⟩
    ·rw [ziK h.nd]
     constructor
     ·rintro (e | ⟨hm,hne⟩)
      ·injection e with e1 e2
       subst e1 e2
       refine ⟨by simp,hp,rfl,fun o' ho' hi' hb'=>?_⟩
       rcases List.mem_append.1 ho' with ho' | ho'
       ·have h5:=zdc.1 (q4 o' ho' hi' hb')
        have h6:=znT.1 hbt
        exact zdc.2 (by omega)
       ·obtain rfl:=List.mem_singleton.1 ho'
        exact zdc.2 (.inr ⟨rfl,Int.le_refl _⟩)
      ·obtain ⟨h1,h2,h3,h4⟩:=(h.mem b o).1 hm
       refine ⟨List.mem_append_left _ h1,h2,h3,fun o' ho' hi' hb'=>?_⟩
       rcases List.mem_append.1 ho' with ho' | ho'
       ·exact h4 o' ho' hi' hb'
       ·obtain rfl:=List.mem_singleton.1 ho'
        exact absurd hb'.symm hne
     ·rintro ⟨h1,h2,h3,h4⟩
      rcases List.mem_append.1 h1 with h1 | h1
      ·by_cases hb2:b=p.bought
       ·have h5:=zdc.1 (h4 p (by simp) hp hb2.symm)
        have h6:=znT.1 hbt
        have h7:=zdc.1 (q4 o h1 h2 (h3.trans hb2))
        exfalso
        omega
       ·exact .inr ⟨(h.mem b o).2 ⟨h1,h2,h3,fun o' ho'=>h4 o' (List.mem_append_left _ ho')⟩,hb2⟩
      ·obtain rfl:=List.mem_singleton.1 h1
       exact .inl (by rw [h3])
    ·rw [zbc,zgB,hh]
     simp only [if_true]
     rcases List.mem_append.1 ho with ho | ho
     ·exact zbc.1 (h.has o ho hi)
     ·obtain rfl:=List.mem_singleton.1 ho
      exact zbc.1 hh
   | false =>
    have hb:zkO al E p=false:=by simp [zkO,hh,hbt]
    rw [if_neg (by rw [hb];simp)]
    refine ⟨h.nd,fun b o=>?_,fun o ho hi=>?_⟩
    ·rw [h.mem]
     constructor
     ·rintro ⟨h1,h2,h3,h4⟩
      refine ⟨List.mem_append_left _ h1,h2,h3,fun o' ho' hi' hb'=>?_⟩
      rcases List.mem_append.1 ho' with ho' | ho'
      ·exact h4 o' ho' hi' hb'
      ·obtain rfl:=List.mem_singleton.1 ho'
       have h5:=zdc.1 (h4 _ q1 q2 (q3.trans hb'))
       have h6:=zdc.1 hbt
       exact zdc.2 (by omega)
     ·rintro ⟨h1,h2,h3,h4⟩
      rcases List.mem_append.1 h1 with h1 | h1
      ·exact ⟨h1,h2,h3,fun o' ho'=>h4 o' (List.mem_append_left _ ho')⟩
      ·obtain rfl:=List.mem_singleton.1 h1
       have h5:=zdc.1 (h4 _ (List.mem_append_left _ q1) q2 (q3.trans h3))
       have h6:=zdc.1 hbt
       have e:zgO zaG E o.bought=o:=by
        have e1:(zgO zaG E o.bought).Stand.Place=o.Stand.Place:=by omega
        have e2:(zgO zaG E o.bought).Stand.Credit=o.Stand.Credit:=by omega
        generalize zgO zaG E o.bought=y at *
        obtain ⟨⟨a,b⟩,c,d⟩:=y
        obtain ⟨⟨a',b'⟩,c',d'⟩:=o
        simp_all
       rw [←h3]
       rw [e] at q1 q4
       exact ⟨q1,hp,rfl,q4⟩
    ·rcases List.mem_append.1 ho with ho | ho
     ·exact h.has o ho hi
     ·obtain rfl:=List.mem_singleton.1 ho
      exact hh
 ·have hpb:zlu p.in_ al=false:=by
   cases e:zlu p.in_ al
   ·rfl
   ·exact absurd (znS.1 e) hp
  have hb:zkO al E p=false:=by simp [zkO,hpb]
  rw [if_neg (by rw [hb];simp)]
  refine ⟨h.nd,fun b o=>?_,fun o ho hi=>?_⟩
  ·rw [h.mem]
   constructor
   ·rintro ⟨h1,h2,h3,h4⟩
    refine ⟨List.mem_append_left _ h1,h2,h3,fun o' ho' hi' hb'=>?_⟩
    rcases List.mem_append.1 ho' with ho' | ho'
    ·exact h4 o' ho' hi' hb'
    ·obtain rfl:=List.mem_singleton.1 ho'
     exact absurd hi' hp
   ·rintro ⟨h1,h2,h3,h4⟩
    rcases List.mem_append.1 h1 with h1 | h1
    ·exact ⟨h1,h2,h3,fun o' ho'=>h4 o' (List.mem_append_left _ ho')⟩
    ·obtain rfl:=List.mem_singleton.1 h1
     exact absurd h2 hp
  ·rcases List.mem_append.1 ho with ho | ho
   ·exact h.has o ho hi
   ·obtain rfl:=List.mem_singleton.1 ho
    exact absurd hi hp
theorem zuC {al:Bag_}:∀(l pre:List PointT_) (E:List (Int×PointT_)),EndsOk al pre E->EndsOk al (pre++l) (l.foldl (zbr al) E)
 | [],pre,E,h=>by simpa using h
 | p::l,pre,E,h=>by
  have:=zuC l _ _ (h.step p)
  simpa using this
theorem zmQ (al:Bag_) (l:List PointT_):EndsOk al l (l.foldl (zbr al) []):=by simpa using zuC l [] [] (EndsOk.nil al)
theorem zsz {al:Bag_} {l l':List PointT_} (h:l.Perm l'):(l.foldl (zbr al) []).Perm (l'.foldl (zbr al) []):=by
 have h1:=zmQ al l
 have h2:=zmQ al l'
 refine (List.perm_ext_iff_of_nodup (ziL h1.nd) (ziL h2.nd)).2 fun x=>?_
 obtain ⟨b,o⟩:=x
 rw [h1.mem,h2.mem]
 simp only [h.mem_iff]
theorem zsA {κ ν:Type} [DecidableEq κ] (z:ν) {M M':List (κ×ν)} (h:M.Perm M') (hn:(M.map (·.1)).Nodup) (k:κ):zgO z M k=zgO z M' k/\zbt M k=zbt M' k:=by
 have hn':(M'.map (·.1)).Nodup:=(h.map _).nodup_iff.1 hn
 have hm:zbt M k=zbt M' k:=by
  rw [Bool.eq_iff_iff,zbc,zbc]
  exact (h.map _).mem_iff
 refine ⟨?_,hm⟩
 cases hh:zbt M k with
 | true=>exact (zpB z hn' (h.mem_iff.1 (zgC z hh))).symm
 | false=>rw [(zgA z M k hh).1,(zgA z M' k (hm▸hh)).1]
theorem zmR {al:Bag_}:∀(l:List PointT_) (E:List (Int×PointT_)),(l.foldl (zbr al) E).length<=E.length+l.length
 | [],E=>Nat.le_refl _
 | p::l,E=>by
  rw [List.foldl_cons]
  have h1:=zmR (al:=al) l (zbr al E p)
  have h2:(zbr al E p).length<=E.length+1:=by
   unfold zbr
   split
   ·have h3:=congrArg List.length (zgB (M:=E) (k:=p.bought) (v:=p))
    simp only [List.length_map] at h3
    rw [h3]
    split<;>simp
   ·omega
  simp only [List.length_cons]
  omega
end Go.Law
