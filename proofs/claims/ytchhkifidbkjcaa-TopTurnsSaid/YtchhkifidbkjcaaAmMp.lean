/-
  The abstract machine: maps that the program itself made.
  Conditions: none; it speaks of any program.
-/
import Derived.Test.YtchhkifidbkjcaaAmG
import Derived.Maps.Keyed
import Derived.Maps.RangeRun
import Derived.Laws.MakeOwn
set_option linter.all false
namespace Go.AM
open Go Go.RowKit Go.MapKept
theorem zbM (m:List (Value×Value)):(zgn m).toList=m.mapIdx fun i p=>({ key:=p.1,val:=p.2,born:=i }:MapEntry):=by simp [zgn]
theorem zeh (m:List (Value×Value)) (j:Nat):(zgn m)[j]?=(m[j]?).map fun p=>({ key:=p.1,val:=p.2,born:=j }:MapEntry):=by
 rw [←Array.getElem?_toList,zbM,List.getElem?_mapIdx]
theorem ztq {m m':List (Value×Value)} (h:zgn m=zgn m'):m=m':=by
 apply List.ext_getElem?
 intro j
 have h1:=congrArg (fun a=>a[j]?) h
 simp only [zeh] at h1
 cases h2:m[j]?<;>cases h3:m'[j]?<;>rw [h2,h3] at h1<;>simp at h1
 exact congrArg some (Prod.ext h1.1 h1.2)
theorem zmg (m:List (Value×Value)):mapOf (zag m)=some m:=by
 unfold mapOf
 have h:∃m',zag m=zag m':=⟨m,rfl⟩
 rw [dif_pos h]
 congr 1
 have h1:=Classical.choose_spec h
 have h2:zag (Classical.choose h) (.map (zgn m) m.length):=by rw [←h1];rfl
 unfold zag at h2
 injection h2 with h2 _
 exact (ztq h2).symm
theorem zje {p:Obj->Prop} {m:List (Value×Value)} (h:mapOf p=some m):p=zag m:=by
 unfold mapOf at h
 split at h
 ·rename_i hm
  injection h with h
  rw [←h]
  exact Classical.choose_spec hm
 ·cases h
section
variable {P:Program} {G:Gh} {H:zaa} {w:World}
theorem zuQ {a:AV} {k v:Value} (h:zvS a=some k) (hv:VR G H w a v):v=k:=by
 unfold zvS at h
 split at h
 ·injection h with h
  subst h
  cases hv
  rfl
 ·cases h
theorem zni:∀(cs:List AV) (l:List Value),cs.mapM zvS=some l->l.length=cs.length/\∀(i:Nat) (c:AV) (k:Value),cs[i]?=some c->l[i]?=some k->zvS c=some k
 | [],l,h=>by
  simp at h
  subst h
  exact ⟨rfl,fun i c k h=>by simp at h⟩
 | c::cs,l,h=>by
  rw [List.mapM_cons] at h
  simp only [Option.bind_eq_bind,Option.bind_eq_some_iff,Option.pure_def] at h
  obtain ⟨k,hk,l',hl',h⟩:=h
  injection h with h
  subst h
  obtain ⟨h1,h2⟩:=zni cs l' hl'
  refine ⟨by simp [h1],fun i c' k' hc hk'=>?_⟩
  cases i with
  | zero =>
   simp at hc hk'
   subst hc hk'
   exact hk
  | succ i =>
   simp at hc hk'
   exact h2 i c' k' hc hk'
theorem zrh {a:AV} {k v:Value} (h:zrc a=some k) (hv:VR G H w a v):v=k:=by
 unfold zrc at h
 split at h
 ·injection h with h
  subst h
  cases hv
  rfl
 ·rename_i cs
  obtain ⟨l,hl,h⟩:=Option.map_eq_some_iff.1 h
  subst h
  obtain ⟨h1,h2⟩:=zni cs l hl
  cases hv with
  | agg _ vs hs _ hc =>
   congr 1
   apply Array.ext_getElem?
   intro i
   by_cases hi:i<vs.size
   ·have e1:vs[i]?=some vs[i]:=Array.getElem?_eq_getElem hi
    have e2:l[i]?=some (l[i]'(by omega)):=List.getElem?_eq_getElem _
    have e3:cs[i]?=some (cs[i]'(by omega)):=List.getElem?_eq_getElem _
    have:=zuQ (h2 i _ _ e3 e2) (hc i _ _ e3 e1)
    rw [e1,this]
    simp [e2]
   ·rw [Array.getElem?_eq_none (by omega),Array.getElem?_eq_none (by simp;omega)]
 ·cases h
theorem zri {a:AV} {k v:Value} (h:ztf a=some k) (hv:VR G H w a v):v=k:=by
 unfold ztf at h
 split at h
 ·injection h with h
  subst h
  cases hv
  rfl
 ·rename_i cs
  exact zrh (a:=.agg cs) h hv
 ·cases h
theorem zon {t:TypeId} {z:Value} (h:zfu P t=some z) (w:World):(zeroValue t).run P w=.ok z w:=by
 unfold zfu at h
 cases hi:P.info? t with
 | none=>simp [hi] at h
 | some i =>
  cases hz:i.zero with
  | none=>simp [hi,hz] at h
  | some z' =>
   simp only [hi,hz,Option.bind_some,Option.some.injEq] at h
   subst h
   simp [zeroValue,typeInfo,hi,hz]
theorem zlK {t:TypeId} {q:TypeId×TypeId} (h:zgP P t=some q):P.underlying t=some (.map q.1 q.2):=by
 unfold zgP at h
 split at h
 ·rename_i k e he
  injection h with h
  subst h
  exact he
 ·cases h
theorem zkp (hp:Hp G H w) {t:TypeId} {x ix:AV} {cx cix:Value} {q:Nat×List (Value×Value)×Value×Value} (h:zjR P t H x ix=some q) (hx:VR G H w x cx) (hix:VR G H w ix cix) :
  cx=.map (some (G.φ q.1))/\H q.1=some (.obj none (zag q.2.1))/\w.heap[G.φ q.1]?=some (.map (zgn q.2.1) q.2.1.length)/\cix=q.2.2.1/\∃kt et,P.underlying t=some (.map kt et)/\zrd P kt q.2.1 q.2.2.1/\∀w,(zeroValue et).run P w=.ok (q.2.2.2) w:=by
 unfold zjR at h
 split at h
 ·rename_i i
  split at h
  ·rename_i p hi
   obtain ⟨ty,hty,h⟩:=Option.bind_eq_some_iff.1 h
   obtain ⟨m,hm,h⟩:=Option.bind_eq_some_iff.1 h
   obtain ⟨key,hk,h⟩:=Option.bind_eq_some_iff.1 h
   obtain ⟨kd,hkd,h⟩:=Option.bind_eq_some_iff.1 h
   split at h
   ·rename_i hok
    injection h with h
    subst h
    have hp':=zje hm
    subst hp'
    obtain ⟨o,ho,⟨h1,_⟩,_⟩:=hp.objs i none _ hi
    unfold zag at h1
    subst h1
    refine ⟨?_,hi,ho,zrh hk hix,ty.1,ty.2,zlK hty,hok,zon hkd⟩
    cases hx
    rfl
   ·cases h
  ·cases h
 ·cases h
theorem zix {t:TypeId} {x ix:AV} {q:Nat×List (Value×Value)×Value×Value} (h:zjR P t H x ix=some q):H q.1≠none:=by
 unfold zjR at h
 split at h
 ·split at h
  ·rename_i hi
   obtain ⟨_,_,h⟩:=Option.bind_eq_some_iff.1 h
   obtain ⟨_,_,h⟩:=Option.bind_eq_some_iff.1 h
   obtain ⟨_,_,h⟩:=Option.bind_eq_some_iff.1 h
   obtain ⟨_,_,h⟩:=Option.bind_eq_some_iff.1 h
   split at h
   ·injection h with h
    subst h
    rw [hi]
    simp
   ·cases h
  ·cases h
 ·cases h
theorem zjZ {t:TypeId} {x ix:AV} {q:Nat×List (Value×Value)×Value×Value} (h:zjR P t H x ix=some q):∃p,x=.mp q.1/\H q.1=some (.obj none p):=by
 unfold zjR at h
 split at h
 ·split at h
  ·rename_i p hi
   obtain ⟨_,_,h⟩:=Option.bind_eq_some_iff.1 h
   obtain ⟨_,_,h⟩:=Option.bind_eq_some_iff.1 h
   obtain ⟨_,_,h⟩:=Option.bind_eq_some_iff.1 h
   obtain ⟨_,_,h⟩:=Option.bind_eq_some_iff.1 h
   split at h
   ·injection h with h
    subst h
    exact ⟨p,rfl,hi⟩
   ·cases h
  ·cases h
 ·cases h
theorem zuR {t:TypeId} {x ix:AV} {q:Nat×List (Value×Value)×Value×Value} (h:zjR P t H x ix=some q):H q.1=some (.obj none (zag q.2.1)):=by
 unfold zjR at h
 split at h
 ·split at h
  ·rename_i p hi
   obtain ⟨_,_,h⟩:=Option.bind_eq_some_iff.1 h
   obtain ⟨_,hm,h⟩:=Option.bind_eq_some_iff.1 h
   obtain ⟨_,_,h⟩:=Option.bind_eq_some_iff.1 h
   obtain ⟨_,_,h⟩:=Option.bind_eq_some_iff.1 h
   split at h
   ·injection h with h
    subst h
    rw [←zje hm]
    exact hi
   ·cases h
  ·cases h
 ·cases h
theorem zjf {t:TypeId} {x ix:AV} {q:Nat×List (Value×Value)×Value×Value} {H':zaa} (he:H' q.1=H q.1) (h:zjR P t H x ix=some q):zjR P t H' x ix=some q:=by
 obtain ⟨p,rfl,hp⟩:=zjZ h
 unfold zjR at h ⊢
 simp only [hp] at h
 simp only [he,hp]
 exact h
theorem zgw {m:List (Value×Value)} {key:Value} {j:Nat} (h:zex m key=some j):∃v,m[j]?=some (key,v):=by
 unfold zex at h
 rw [List.findIdx?_eq_some_iff_getElem] at h
 obtain ⟨h1,h2,_⟩:=h
 simp only [decide_eq_true_eq] at h2
 exact ⟨m[j].2,by rw [List.getElem?_eq_getElem h1,←h2]⟩
theorem zlL {m:List (Value×Value)} {key:Value} (h:zex m key=none):∀p,p∈m->p.1≠key:=by
 unfold zex at h
 rw [List.findIdx?_eq_none_iff] at h
 intro p hp
 have:=h p hp
 simpa using this
theorem ztr {t:TypeId} {x ix:AV} {q:Nat×List (Value×Value)×Value×Value} {H':zaa} (h:zjR P t H x ix=some q) (hf:zex q.2.1 q.2.2.1=none) (hH:H' q.1=some (.obj none (zag (q.2.1++[(q.2.2.1,q.2.2.2)])))) :
  zjR P t H' x ix=some (q.1,q.2.1++[(q.2.2.1,q.2.2.2)],q.2.2.1,q.2.2.2):=by
 obtain ⟨i,m0,key0,kd0⟩:=q
 simp only at hf hH
 obtain ⟨p,rfl,hp⟩:=zjZ h
 unfold zjR at h ⊢
 simp only [hp] at h
 simp only [hH]
 obtain ⟨ty,hty,h⟩:=Option.bind_eq_some_iff.1 h
 obtain ⟨m,hm,h⟩:=Option.bind_eq_some_iff.1 h
 obtain ⟨key,hk,h⟩:=Option.bind_eq_some_iff.1 h
 obtain ⟨kd,hkd,h⟩:=Option.bind_eq_some_iff.1 h
 split at h
 ·rename_i hok
  injection h with h
  simp only [Prod.mk.injEq,true_and] at h
  obtain ⟨rfl,rfl,rfl⟩:=h
  simp only [hty,zmg,hk,hkd,Option.bind_some]
  rw [if_pos]
  obtain ⟨k1,k2,k3,k4⟩:=hok
  refine ⟨k1,k2,fun p hp=>?_,?_⟩
  ·rcases List.mem_append.1 hp with hp | hp
   ·exact k3 p hp
   ·simp at hp;subst hp;exact k2
  ·rw [List.map_append,List.nodup_append]
   refine ⟨k4,by simp,fun a ha b hb e=>?_⟩
   simp at hb
   subst hb e
   obtain ⟨p,hp,hpe⟩:=List.mem_map.1 ha
   exact zlL hf p hp hpe
 ·cases h
theorem zqf {m:List (Value×Value)} {key val:Value} (h:zex m key=none):zex (m++[(key,val)]) key=some m.length:=by
 unfold zex at h ⊢
 rw [List.findIdx?_append,h]
 simp
theorem zrj {m:List (Value×Value)} (hn:(m.map (·.1)).Nodup) {i j:Nat} {p q:Value×Value} (hi:m[i]?=some p) (hj:m[j]?=some q) (e:p.1=q.1):i=j:=by
 have h1:(m.map (·.1))[i]?=some p.1:=by rw [List.getElem?_map,hi];rfl
 have h2:(m.map (·.1))[j]?=some p.1:=by rw [List.getElem?_map,hj,e];rfl
 have l1:=(List.getElem?_eq_some_iff.1 h1).1
 have e1:=(List.getElem?_eq_some_iff.1 h1).2
 have e2:=(List.getElem?_eq_some_iff.1 h2).2
 exact (List.getElem_inj hn).1 (e1.trans e2.symm)
theorem zkq {kt:TypeId} {m:List (Value×Value)} {key:Value} (hk:zrd P kt m key) (w:World) :
  (Instr.checkKey (zgn m).isEmpty 10000 kt key).run P w=.ok () w/\(Instr.checkKey false 10000 kt key).run P w=.ok () w/\(Instr.keyThatStays key key).run P w=.ok key w /\
  (Instr.findKey kt key (zgn m).toList).run P w=.ok ((zex m key).map fun j=>(j,((m[j]?).map (·.2)).getD undef)) w:=by
 obtain ⟨K,⟨l,hl⟩,hm,hn⟩:=hk
 refine ⟨K.check w _ hl,K.check w _ hl,K.stays w hl,?_⟩
 have hes:∀e∈(zgn m).toList,∃p,p∈m/\e.key=p.1:=by
  intro e he
  rw [zbM] at he
  obtain ⟨i,hi⟩:=List.getElem?_of_mem he
  rw [List.getElem?_mapIdx] at hi
  obtain ⟨p,hp,rfl⟩:=Option.map_eq_some_iff.1 hi
  exact ⟨p,List.mem_of_getElem? hp,rfl⟩
 rcases K.find w hl (zgn m).toList (fun e he=>by obtain ⟨p,hp,e1⟩:=hes e he;rw [e1];exact hm p hp) with ⟨h1,h2⟩ | ⟨j,e,h1,h2,h3⟩
 ·have:zex m key=none:=by
   cases hf:zex m key with
   | none=>rfl
   | some j =>
    obtain ⟨v,hv⟩:=zgw hf
    have h4:(zgn m).toList[j]?=some { key:=key,val:=v,born:=j }:=by
     rw [Array.getElem?_toList,zeh,hv]
     rfl
    exact absurd rfl (h2 _ (List.mem_of_getElem? h4))
  rw [h1,this]
  rfl
 ·rw [Array.getElem?_toList,zeh] at h2
  obtain ⟨p,hp,rfl⟩:=Option.map_eq_some_iff.1 h2
  simp only at h3
  cases hf:zex m key with
  | none=>exact absurd h3 (zlL hf p (List.mem_of_getElem? hp))
  | some i =>
   obtain ⟨v,hv⟩:=zgw hf
   have:=zrj hn hp hv h3
   subst this
   rw [h1]
   simp [hp]
theorem znj (m:List (Value×Value)) (key val:Value):(zgn m).push { key:=key,val:=val,born:=m.length }=zgn (m++[(key,val)]):=by
 apply Array.ext_getElem?
 intro j
 have hs:(zgn m).size=m.length:=by rw [←Array.length_toList,zbM];simp
 rw [Array.getElem?_push,zeh,zeh,hs]
 by_cases h:j=m.length
 ·subst h;simp
 ·rw [if_neg h]
  by_cases h2:j<m.length
  ·rw [List.getElem?_append_left h2]
  ·rw [List.getElem?_eq_none (by omega),List.getElem?_eq_none (by simp;omega)]
theorem zid {m m':List (Value×Value)} {j:Nat} {f:MapEntry->MapEntry} (hl:m'.length=m.length) (hf:∀p,m[j]?=some p->∃p',m'[j]?=some p'/\f { key:=p.1,val:=p.2,born:=j }={ key:=p'.1,val:=p'.2,born:=j }) (ho:∀i,i≠j->m'[i]?=m[i]?):(zgn m).modify j f=zgn m':=by
 apply Array.ext_getElem?
 intro i
 rw [Array.getElem?_modify,zeh,zeh]
 by_cases h:j=i
 ·subst h
  rw [if_pos rfl]
  cases hm:m[j]? with
  | none =>
   rw [List.getElem?_eq_none_iff] at hm
   rw [List.getElem?_eq_none (by omega)]
   rfl
  | some p =>
   obtain ⟨p',h1,h2⟩:=hf p hm
   rw [h1]
   simp [h2]
 ·rw [if_neg h,ho i (fun e=>h e.symm)]
theorem zhi (w:World) (r:Nat) (o:Obj):({ w with heap:=w.heap.setIfInBounds r o }:World)=w.putObj r o:=rfl
theorem zmh (hp:Hp G H w) {i:Nat} {m m':List (Value×Value)} (hi:H i=some (.obj none (zag m))) :
  Hp G (H.set i (.obj none (zag m'))) (w.putObj (G.φ i) (.map (zgn m') m'.length))/\Ext G H w G (H.set i (.obj none (zag m'))) (w.putObj (G.φ i) (.map (zgn m') m'.length)) :=
 zhe hp hi (p':=zag m') (o:=.map (zgn m') m'.length) ⟨rfl,trivial⟩ (fun _ _ _=>by simp)
theorem znk (hp:Hp G H w) {new:Nat} (hn:H new=none) {t:TypeId} :
  ∃v w' G',(Instr.makeMap t none).run P w=.ok v w'/\Hp G' (H.set new (.obj none (zag []))) w'/\Ext G H w G' (H.set new (.obj none (zag []))) w'/\VR G' (H.set new (.obj none (zag []))) w' (.mp new) v:=by
 obtain ⟨q1,q2⟩:=zoi (k:=none) (p:=zag []) (o:=.map #[] 0) hp hn ⟨rfl,trivial⟩ (fun _ _ _=>by simp)
 have:(G.atφ new w.heap.size).φ new=w.heap.size:=by simp [Gh.atφ]
 refine ⟨.map (some ((G.atφ new w.heap.size).φ new)),_,_,?_,q1,q2,.mp new none _ (zaa.set_same _ _ _)⟩
 rw [this]
 simp only [Instr.makeMap,Sem.run_bind,Sem.run_pure,run_newObj,Result.andThen_ok]
 rfl
theorem zoo (hp:Hp G H w) {t:TypeId} {x ix:AV} {cx cix:Value} {q:Nat×List (Value×Value)×Value×Value} (h:zjR P t H x ix=some q) (hx:VR G H w x cx) (hix:VR G H w ix cix) (ok:Bool) :
  (Instr.lookup t cx cix ok).run P w=.ok (if ok then .tuple #[zpb q.2.1 q.2.2.1 q.2.2.2,.bool (zex q.2.1 q.2.2.1).isSome] else zpb q.2.1 q.2.2.1 q.2.2.2) w:=by
 obtain ⟨rfl,hH,hb,rfl,kt,et,ht,hk,hz⟩:=zkp hp h hx hix
 obtain ⟨f1,f2,f3,f4⟩:=zkq hk w
 have f4':(Instr.findKey kt q.2.2.1 (zgn q.2.1).toList).run P w=_:=f4
 cases hf:zex q.2.1 q.2.2.1 with
 | none =>
  rw [hf] at f4
  simp only [Option.map_none] at f4
  simp only [Instr.lookup,Sem.run_bind,run_underlying ht,Result.andThen_ok,Sem.run_pure,MapKept.run_getObj_map hb,f1,f4,hz,zpb,hf,Option.isSome_none]
 | some j =>
  obtain ⟨v,hv⟩:=zgw hf
  rw [hf] at f4
  simp only [Option.map_some,hv,Option.getD_some] at f4
  simp only [Instr.lookup,Sem.run_bind,run_underlying ht,Result.andThen_ok,Sem.run_pure,MapKept.run_getObj_map hb,f1,f4,zpb,hf,hv,Option.map_some,Option.getD_some,Option.isSome_some]
theorem zh1 (hp:Hp G H w) {t:TypeId} {x ix v:AV} {cx cix cv val:Value} {q:Nat×List (Value×Value)×Value×Value} (h:zjR P t H x ix=some q) (hx:VR G H w x cx) (hix:VR G H w ix cix) (hv:ztf v=some val) (hcv:VR G H w v cv) :
  ∃w',(Instr.mapUpdate t cx cix cv).run P w=.ok () w'/\Hp G (H.set q.1 (.obj none (zag (mput q.2.1 q.2.2.1 val)))) w'/\Ext G H w G (H.set q.1 (.obj none (zag (mput q.2.1 q.2.2.1 val)))) w':=by
 obtain ⟨rfl,hH,hb,rfl,kt,et,ht,hk,hz⟩:=zkp hp h hx hix
 obtain rfl:=zri hv hcv
 obtain ⟨f1,f2,f3,f4⟩:=zkq hk w
 obtain ⟨q1,q2⟩:=zmh (m':=mput q.2.1 q.2.2.1 cv) hp hH
 refine ⟨_,?_,q1,q2⟩
 cases hf:zex q.2.1 q.2.2.1 with
 | none =>
  rw [hf] at f4
  simp only [Option.map_none] at f4
  simp only [Instr.mapUpdate,Sem.run_bind,run_underlying ht,Result.andThen_ok,Sem.run_pure,MapKept.run_getObj_map hb,f2,f4,MapKept.run_setObj_map _ hb]
  unfold mput
  rw [hf,znj]
  simp [zhi]
 | some j =>
  obtain ⟨v0,hv0⟩:=zgw hf
  rw [hf] at f4
  simp only [Option.map_some,hv0,Option.getD_some] at f4
  have e1:(((zgn q.2.1)[j]?).map (·.key)).getD q.2.2.1=q.2.2.1:=by rw [zeh,hv0];rfl
  simp only [Instr.mapUpdate,Sem.run_bind,run_underlying ht,Result.andThen_ok,Sem.run_pure,MapKept.run_getObj_map hb,f2,f4,e1,f3,MapKept.run_setObj_map _ hb]
  unfold mput
  rw [hf]
  have hj:=(List.getElem?_eq_some_iff.1 hv0).1
  rw [zid (m':=q.2.1.set j (q.2.2.1,cv)) (by simp) (fun p hp=>⟨(q.2.2.1,cv),by simp [hj],rfl⟩) (fun i hi=>by rw [List.getElem?_set_ne (Ne.symm hi)])]
  simp [zhi]
theorem zmi (hp:Hp G H w) {t:TypeId} {x ix:AV} {cx cix:Value} {q:Nat×List (Value×Value)×Value×Value} (h:zjR P t H x ix=some q) (hx:VR G H w x cx) (hix:VR G H w ix cix) :
  match zex q.2.1 q.2.2.1 with
  | some j=>∃w',(Instr.mapEntry t cx cix).run P w=.ok (.tuple #[zpb q.2.1 q.2.2.1 q.2.2.2,.int .i64 j]) w'/\Hp G (H.set q.1 (.obj none (zag q.2.1))) w'/\Ext G H w G (H.set q.1 (.obj none (zag q.2.1))) w'
  | none=>∃w',(Instr.mapEntry t cx cix).run P w=.ok (.tuple #[q.2.2.2,.int .i64 q.2.1.length]) w'/\Hp G (H.set q.1 (.obj none (zag (q.2.1++[(q.2.2.1,q.2.2.2)])))) w'/\Ext G H w G (H.set q.1 (.obj none (zag (q.2.1++[(q.2.2.1,q.2.2.2)])))) w':=by
 obtain ⟨rfl,hH,hb,rfl,kt,et,ht,hk,hz⟩:=zkp hp h hx hix
 obtain ⟨f1,f2,f3,f4⟩:=zkq hk w
 cases hf:zex q.2.1 q.2.2.1 with
 | none =>
  rw [hf] at f4
  simp only [Option.map_none] at f4
  obtain ⟨q1,q2⟩:=zmh (m':=q.2.1++[(q.2.2.1,q.2.2.2)]) hp hH
  refine ⟨_,?_,q1,q2⟩
  simp only [Instr.mapEntry,Sem.run_bind,run_underlying ht,Result.andThen_ok,Sem.run_pure,MapKept.run_getObj_map hb,f2,f4,hz,MapKept.run_setObj_map _ hb,znj]
  simp [zhi,goInt]
 | some j =>
  obtain ⟨v0,hv0⟩:=zgw hf
  rw [hf] at f4
  simp only [Option.map_some,hv0,Option.getD_some] at f4
  obtain ⟨q1,q2⟩:=zmh (m':=q.2.1) hp hH
  refine ⟨_,?_,q1,q2⟩
  have e1:(((zgn q.2.1)[j]?).map (·.key)).getD q.2.2.1=q.2.2.1:=by rw [zeh,hv0];rfl
  have e2:(((zgn q.2.1)[j]?).map (·.born)).getD 0=j:=by rw [zeh,hv0];rfl
  simp only [Instr.mapEntry,Sem.run_bind,run_underlying ht,Result.andThen_ok,Sem.run_pure,MapKept.run_getObj_map hb,f2,f4,e1,e2,f3,MapKept.run_setObj_map _ hb,zpb,hf,hv0,Option.map_some,Option.getD_some]
  rw [zid (m':=q.2.1) rfl (fun p hp=>by
   rw [hv0] at hp
   injection hp with hp
   subst hp
   exact ⟨_,hv0,rfl⟩) (fun i hi=>rfl)]
  simp only [goInt,zhi]
  rw [zeh,hv0]
  rfl
theorem zkr (hp:Hp G H w) {t:TypeId} {i:Nat} {n:Int} {m:List (Value×Value)} {v:AV} {cv val:Value} (hi:H i=some (.obj none (zag m))) (hn:0<=n/\n.toNat<m.length) (hv:ztf v=some val) (hcv:VR G H w v cv) :
  ∃w',(Instr.entryStore t (.map (some (G.φ i))) (.int .i64 n) cv).run P w=.ok () w'/\Hp G (H.set i (.obj none (zag (m.modify n.toNat fun q=>(q.1,val))))) w'/\Ext G H w G (H.set i (.obj none (zag (m.modify n.toNat fun q=>(q.1,val))))) w':=by
 obtain rfl:=zri hv hcv
 obtain ⟨o,ho,⟨h1,_⟩,_⟩:=hp.objs i none _ hi
 unfold zag at h1
 subst h1
 obtain ⟨q1,q2⟩:=zmh (m':=m.modify n.toNat fun q=>(q.1,cv)) hp hi
 refine ⟨_,?_,q1,q2⟩
 obtain ⟨j,rfl⟩:∃j:Nat,n=j:=⟨n.toNat,by omega⟩
 simp only [Int.toNat_natCast] at hn ⊢
 have hs:(zgn m).size=m.length:=by rw [←Array.length_toList,zbM];simp
 have hfi:(zgn m).findIdx? (fun e=>(e.born:Int)==(j:Int))=some j:=by
  rw [Array.findIdx?_eq_some_iff_getElem]
  have hg:∀(i:Nat) (h:i<(zgn m).size),(zgn m)[i].born=i:=by
   intro i h
   have e:=zeh m i
   rw [Array.getElem?_eq_getElem h,List.getElem?_eq_getElem (by omega)] at e
   simp only [Option.map_some,Option.some.injEq] at e
   rw [e]
  refine ⟨by omega,by simp [hg],fun i hi=>?_⟩
  have:=hg i (by omega)
  simp [this]
  omega
 simp only [Instr.entryStore,Sem.run_bind,Sem.run_pure,MapKept.run_getObj_map ho,asInt,asIntOf,Result.andThen_ok,hfi,MapKept.run_setObj_map _ ho]
 rw [zid (m':=m.modify j fun q=>(q.1,cv)) (by simp) (fun p hp=>⟨(p.1,cv),by simp [List.getElem?_modify,hp],rfl⟩) (fun i hi=>by simp [List.getElem?_modify,Ne.symm hi])]
 simp [zhi]
end
theorem zop {m:List (Value×Value)} {seen:Array Nat} (h:(leftOf (zgn m) seen).size=0):∀e,e<m.length->seen.contains e=true:=fun e he=>by
 have:=all_seen (zgn m) seen h { key:=m[e].1,val:=m[e].2,born:=e } (by
  rw [zbM,List.mem_iff_getElem?]
  exact ⟨e,by simp [he]⟩)
 exact this
theorem zpf {m:List (Value×Value)} {x:MapEntry} (h:x∈(zgn m).toList):m[x.born]?=some (x.key,x.val):=by
 rw [zbM,List.mem_iff_getElem?] at h
 obtain ⟨i,hi⟩:=h
 rw [List.getElem?_mapIdx] at hi
 obtain ⟨p,hp,rfl⟩:=Option.map_eq_some_iff.1 hi
 exact hp
theorem zqg (m:List (Value×Value)):((zgn m).toList.map (·.born)).Nodup:=by
 rw [zbM]
 have:(m.mapIdx fun i p=>({ key:=p.1,val:=p.2,born:=i }:MapEntry)).map (·.born)=List.range m.length:=by
  refine List.ext_getElem? fun i=>?_
  simp only [List.getElem?_map,List.getElem?_mapIdx,List.getElem?_range']
  by_cases hi:i<m.length
  ·simp [hi]
  ·simp [List.getElem?_eq_none (Nat.le_of_not_lt hi),hi]
 rw [this]
 exact List.nodup_range
section rng
variable {P:Program} {G:Gh} {H:zaa} {w:World}
theorem znl (hp:Hp G H w) {i:Nat} {k:Option Loop} {p:Obj->Prop} (hi:H i=some (.obj k p)):∃o,w.heap[G.φ i]?=some o/\p o:=by
 obtain ⟨o,h1,h2,_⟩:=hp.objs i k p hi
 exact ⟨o,h1,h2.1⟩
theorem zv4 {j i a:Nat} {v:Value} (h:VR G H w (.it j i a) v):v=.pointer (some ⟨G.φ j,0,none⟩)/\G.φ i=a:=by
 cases h with
 | it _ _ _ k k' p p' hj hi ha=>exact ⟨rfl,ha⟩
theorem zyd {i:Nat} {v:Value} (h:VR G H w (.mp i) v):v=.map (some (G.φ i)):=by
 cases h with
 | mp _ k p h=>rfl
theorem znm {t e:TypeId} {ax ay:AV} {vx vy:Value} {n:Nat} {z:AV} (hx:zfM ax=some n) (ux:VR G H w ax vx) (hy:zfM ay=some n) (uy:VR G H w ay vy) (hle:n<=1048576) (he:zcy P t=some e) (hz:zdK P e=some [z]) (hk:zaF P t=some 1) (hfit:za6 P t=true) :
  ∃cells:Array Value,(Instr.makeSlice t vx vy).run P w=.ok (.slice (some ⟨w.heap.size,0,none⟩) n n) (w.alloc (.cells cells e))/\cells.size=n/\(∀y,y∈cells->y.oneCell'=true)/\∀y,y∈cells->∀(G2:Gh) (H2:zaa) (w2:World),VR G2 H2 w2 z y:=by
 obtain ⟨kx,rfl⟩:=ziw hx ux
 obtain ⟨ky,rfl⟩:=ziw hy uy
 obtain ⟨e',i,zv,he1,hi,hiz,hzs,hpos,hbytes,hz1⟩:=zdd hfit
 have:e'=e:=by simpa [zcy,he1] using he
 subst this
 have hki:=zdg he1 hi hk
 obtain ⟨zc,hzc,hcv⟩:∃zc,zv.cells=#[zc]/\z=cv zc:=by
  unfold zdK at hz
  simp only [hi,Option.bind_some,hiz] at hz
  split at hz
  ·injection hz with hz
   rw [hki] at hzs
   obtain ⟨zc,hc⟩:∃zc,zv.cells=#[zc]:=by
    have:=hzs
    exact ⟨zv.cells[0]'(by omega),Array.ext (by simp [this]) fun j h1 h2=>by
     have:j=0:=by simp at h2;omega
     subst this
     rfl⟩
   rw [hc] at hz
   simp at hz
   exact ⟨zc,hc,hz.symm⟩
  ·cases hz
 have h1c:zc.oneCell'=true:=hz1 zc (by rw [hzc];simp)
 have hcells:∀y,y∈madeCells zv.cells (n*1)->y=zc:=fun y hy=>by
  unfold madeCells at hy
  rw [hzc] at hy
  obtain ⟨q,_,hq⟩:=Array.mem_map.1 hy
  rw [←hq]
  simp [Nat.mod_one]
 have hb:i.bytes*n<=1048576*1048576:=Nat.mul_le_mul hbytes hle
 have hr:=run_make (P:=P) w t e' i zv he1 hi hiz kx ky n n (by omega) (Int.le_refl _) (by
  have h:((i.bytes*n:Nat):Int)<=281474976710656:=by omega
  rwa [Int.natCast_mul] at h) (by omega)
 rw [hki] at hr
 simp only [Int.toNat_natCast] at hr
 refine ⟨madeCells zv.cells (n*1),hr,by rw [size_madeCells,Nat.mul_one],fun y hy=>by rw [hcells y hy];exact h1c,fun y hy G2 H2 w2=>?_⟩
 rw [hcells y hy,hcv]
 exact zuN zc
theorem zrk {o:Oper} {new:Nat} {ρ:Operand->AV} {cρ:Operand->Value} {K:AV->zaa->Prop} (hp:Hp G H w) (hn:H new=none) (hρ:∀x,VR G H w (ρ x) (cρ x)) (h:ztk P new o.op ρ H K) :
  ∃r wr,zre P G H w o cρ r wr/\(∀j b,wr=some (j,b)->j=new\/H j≠none)/\(∀c,o.op≠.defer c)/\K r (H.patch wr):=by
 unfold ztk at h
 split at h
 ·rename_i t x hop
  obtain ⟨i,m,hx,hi,ht,hK⟩:=h
  obtain ⟨q,hq⟩:=Option.isSome_iff_exists.1 ht
  have hv:=hρ x
  rw [hx] at hv
  obtain ⟨om,hom,rfl⟩:=znl hp hi
  have hcv:cρ x=.map (some (G.φ i)):=zyd hv
  have hni:i≠new:=fun e=>by rw [e,hn] at hi;cases hi
  obtain ⟨q1,q2⟩:=zoi (k:=none) (p:=zlE (G.φ i) m.length #[]) (o:=.mapIter (some (G.φ i)) m.length #[] m.length) hp hn ⟨rfl,trivial⟩ (fun _ _ _=>by simp)
  have hφ:(G.atφ new w.heap.size).φ new=w.heap.size:=by simp [Gh.atφ]
  have hφ':(G.atφ new w.heap.size).φ i=G.φ i:=by simp [Gh.atφ,hni]
  refine ⟨.it new i (G.φ i),some (new,.obj none (zlE (G.φ i) m.length #[])),⟨.pointer (some ⟨(G.atφ new w.heap.size).φ new,0,none⟩),_,_,.inl ?_,q1,q2,.it new i (G.φ i) none none _ _ (zaa.set_same _ _ _) ((zaa.set_ne _ _ hni).trans hi) hφ'⟩,?_,?_,hK (G.φ i)⟩
  ·have hr:=run_range_map (P:=P) w t q.1 q.2 (G.φ i) (zgn m) m.length (zlK hq) hom
   unfold execOp
   simp only [hop,hcv,hr,hφ,Sem.run_bind,Result.andThen_ok,Sem.run_pure]
  ·intro j b e
   injection e with e
   injection e with e
   exact .inl e.symm
  ·intro c hc
   rw [hop] at hc
   cases hc
 ·rename_i x hop
  obtain ⟨j,i,a,m,seen,hx,hi,hj,hK1,hK2⟩:=h
  have hv:=hρ x
  rw [hx] at hv
  obtain ⟨hcv,rfl⟩:=zv4 hv
  obtain ⟨om,hom,rfl⟩:=znl hp hi
  obtain ⟨oj,hoj,rfl⟩:=znl hp hj
  have hold:∀x∈(zgn m).toList,x.born<m.length:=fun x hx=>(List.getElem?_eq_some_iff.1 (zpf hx)).1
  rcases run_next_at (P:=P) w o.type (G.φ j) (G.φ i) m.length m.length seen (zgn m) m.length hoj hom hold (Nat.le_refl _) with ⟨h0,hr⟩ | ⟨x',hx',w1,hw1,hr⟩
  ·refine ⟨.tup [.v (.bool false)],none,⟨.tuple #[.bool false],w,G,.inl ?_,hp,.refl _ _ _,.tup [.v (.bool false)] #[.bool false] rfl fun i c x h1 h2=>?_⟩,?_,?_,hK1 (zop h0)⟩
   ·unfold execOp
    simp only [hop,hcv,hr,Sem.run_bind,Result.andThen_ok,Sem.run_pure]
   ·rcases i with _ | i
    ·injection h1 with h1;subst h1
     simp at h2;subst h2
     exact .v _
    ·simp at h1
   ·intro j b e
    cases e
   ·intro c hc
    rw [hop] at hc
    cases hc
  ·obtain ⟨hxm,hxs⟩:=mem_left hx'
   have hpm:=zpf hxm
   have hw:Hp G H w1/\Ext G H w G H w1:=by
    rcases hw1 with rfl | rfl
    ·exact ⟨hp,.refl _ _ _⟩
    ·exact zne hp rfl rfl rfl rfl
   obtain ⟨q1,q2⟩:=zhe hw.1 hj (p':=zlE (G.φ i) m.length (seen.push x'.born)) (o:=.mapIter (some (G.φ i)) m.length (seen.push x'.born) m.length) ⟨rfl,trivial⟩ (fun _ _ _=>by simp)
   refine ⟨.tup [.v (.bool true),.v x'.key,.v x'.val],some (j,.obj none (zlE (G.φ i) m.length (seen.push x'.born))),⟨.tuple #[.bool true,x'.key,x'.val],_,G,.inl ?_,q1,hw.2.trans q2,.tup [.v (.bool true),.v x'.key,.v x'.val] #[.bool true,x'.key,x'.val] rfl fun i c x h1 h2=>?_⟩,?_,?_,hK2 x'.born _ hpm hxs⟩
   ·unfold execOp
    simp only [hop,hcv,hr,Sem.run_bind,Result.andThen_ok,Sem.run_pure]
    rfl
   ·rcases i with _ | _ | _ | i<;>simp at h1 h2<;>subst h1<;>subst h2<;>exact .v _
   ·intro j' b e
    injection e with e
    injection e with e
    exact .inr (by rw [←e,hj];simp)
   ·intro c hc
    rw [hop] at hc
    cases hc
 ·rename_i x hop
  obtain ⟨j,i,a,m,seen,e,p,hx,hi,hj,hm,hK⟩:=h
  have hv:=hρ x
  rw [hx] at hv
  obtain ⟨hcv,rfl⟩:=zv4 hv
  obtain ⟨om,hom,rfl⟩:=znl hp hi
  obtain ⟨oj,hoj,rfl⟩:=znl hp hj
  have hr:=run_entry_at (P:=P) w (G.φ j) (G.φ i) m.length seen (zgn m) m.length { key:=p.1,val:=p.2,born:=e } hoj hom (by
   rw [zbM,List.mem_iff_getElem?]
   exact ⟨e,by simp [hm]⟩) (zqg m)
  refine ⟨.tup [.v p.1,.v p.2],none,⟨.tuple #[p.1,p.2],w,G,.inl ?_,hp,.refl _ _ _,.tup [.v p.1,.v p.2] #[p.1,p.2] rfl fun i c x h1 h2=>?_⟩,?_,?_,hK⟩
  ·unfold execOp
   simp only [hop,hcv,hr,Sem.run_bind,Result.andThen_ok,Sem.run_pure]
  ·rcases i with _ | _ | i<;>simp at h1 h2<;>subst h1<;>subst h2<;>exact .v _
  ·intro j b e
   cases e
  ·intro c hc
   rw [hop] at hc
   cases hc
 ·exact h.elim
end rng
end Go.AM
