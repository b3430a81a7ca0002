/-
  The abstract machine: every operation.
  Conditions: none; it speaks of any program.
-/
import Derived.Test.YtchhkifidbkjcaaAmMp
set_option linter.all false
namespace Go.AM
open Go Go.RowKit
section
variable {P:Program} {G:Gh} {H:zaa} {w:World}
theorem VRs.mk {ρ:Operand->AV} {cρ:Operand->Value} (hρ:∀x,VR G H w (ρ x) (cρ x)) (xs:Array Operand):VRs G H w (xs.toList.map ρ) (xs.map cρ):=by
 refine ⟨by simp,fun i c x hc hx=>?_⟩
 rw [List.getElem?_map] at hc
 rw [Array.getElem?_map] at hx
 cases hi:xs[i]? with
 | none=>simp [hi] at hx
 | some y =>
  rw [Array.getElem?_toList,hi] at hc
  rw [hi] at hx
  simp only [Option.map_some] at hc hx
  injection hc with hc
  injection hx with hx
  subst hc hx
  exact hρ y
theorem zks {ρ:Operand->AV} {cρ:Operand->Value} (hρ:∀x,VR G H w (ρ x) (cρ x)) (ps:Array (Nat×Operand)) :
  (ps.toList.map fun q=>(q.1,ρ q.2)).length=(ps.map fun (i,x)=>(i,cρ x)).toList.length /\
  ∀(i:Nat) (q:Nat×AV) (cq:Nat×Value),(ps.toList.map fun q=>(q.1,ρ q.2))[i]?=some q->(ps.map fun (i,x)=>(i,cρ x)).toList[i]?=some cq->q.1=cq.1/\VR G H w q.2 cq.2:=by
 refine ⟨by simp,fun i q cq hq hc=>?_⟩
 rw [List.getElem?_map] at hq
 rw [Array.getElem?_toList,Array.getElem?_map] at hc
 cases hi:ps[i]? with
 | none=>simp [hi] at hc
 | some y =>
  rw [Array.getElem?_toList,hi] at hq
  rw [hi] at hc
  simp only [Option.map_some] at hq hc
  injection hq with hq
  injection hc with hc
  subst hq hc
  exact ⟨rfl,hρ y.2⟩
theorem zuS {ρ:Operand->AV} {cρ:Operand->Value} (hρ:∀x,VR G H w (ρ x) (cρ x)) (o:Option Operand) :
  zok G H w (o.map ρ) (o.map cρ):=by
 cases o with
 | none=>trivial
 | some x=>exact hρ x
theorem zhj (hp:Hp G H w) {i off:Nat} {cs ns:List AV} {us:Array Value} {xs:List Value} {ty:TypeId} (hi:H i=some (.cells cs)) (hg:w.heap[G.φ i]?=some (.cells us ty (0,0)))
  (hs:cs.length<=us.size) (h1:∀(j:Nat) (x:Value),j<cs.length->us[j]?=some x->x.oneCell'=true) (hv:∀(j:Nat) (c:AV) (x:Value),cs[j]?=some c->us[j]?=some x->VR G H w c x) (hle:off+ns.length<=cs.length)
  (l1:xs.length=ns.length) (l2:∀y,y∈xs->y.oneCell'=true) (l3:∀(j:Nat) (c:AV) (y:Value),ns[j]?=some c->xs[j]?=some y->VR G H w c y) :
  Hp G (H.set i (.cells (zdL cs off ns))) (w.setRow (G.φ i) (us.toList.take off++xs++us.toList.drop (off+xs.length)).toArray) /\
  Ext G H w G (H.set i (.cells (zdL cs off ns))) (w.setRow (G.φ i) (us.toList.take off++xs++us.toList.drop (off+xs.length)).toArray):=by
 refine zki hp hi hg (by rw [zgT _ _ _ hle];simp;omega) (by simp;omega) (fun j y hj hy=>?_) (fun j c y hcj hy=>?_)
 ·rw [zgT _ _ _ hle] at hj
  have ht:(us.toList.take off).length=off:=by simp;omega
  rw [List.getElem?_toArray] at hy
  by_cases q1:j<off
  ·rw [List.append_assoc,List.getElem?_append_left (by omega),List.getElem?_take,if_pos q1] at hy
   exact h1 j y (by omega) (by simpa using hy)
  ·rw [List.append_assoc,List.getElem?_append_right (by omega),ht] at hy
   by_cases q2:j<off+ns.length
   ·rw [List.getElem?_append_left (by omega)] at hy
    exact l2 y (List.mem_of_getElem? hy)
   ·rw [List.getElem?_append_right (by omega),List.getElem?_drop] at hy
    refine h1 j y hj ?_
    rw [←hy]
    simp only [Array.getElem?_toList]
    congr 1
    omega
 ·rw [zlJ _ _ _ hle] at hcj
  have ht:(us.toList.take off).length=off:=by simp;omega
  rw [List.getElem?_toArray] at hy
  by_cases h1:j<off
  ·rw [if_neg (by omega)] at hcj
   rw [List.append_assoc,List.getElem?_append_left (by omega),List.getElem?_take,if_pos h1] at hy
   exact hv j c y hcj (by simpa using hy)
  ·rw [List.append_assoc,List.getElem?_append_right (by omega),ht] at hy
   by_cases h2:j<off+ns.length
   ·rw [if_pos (by omega)] at hcj
    rw [List.getElem?_append_left (by omega)] at hy
    exact l3 _ c y hcj hy
   ·rw [if_neg (by omega)] at hcj
    rw [List.getElem?_append_right (by omega),List.getElem?_drop] at hy
    refine hv j c y hcj ?_
    rw [←hy]
    simp only [Array.getElem?_toList]
    congr 1
    omega
theorem zmj (hp:Hp G H w) {k n:Nat} {x:AV} {b:Value} {ns:List AV} (h:zrb H k x=some (n,ns)) (hx:VR G H w x b) :
  ∃(a:Option Addr) (cap:Nat) (xs:List Value),b=.slice a n cap/\xs.length=n*k/\ns.length=n*k/\(∀y,y∈xs->y.oneCell'=true)/\(∀(j:Nat) (c:AV) (y:Value),ns[j]?=some c->xs[j]?=some y->VR G H w c y) /\
   (n*k≠0->∃ad,a=some ad/\∀j u,xs[j]?=some u->w.cell? (ad.add j)=some u)/\n<=cap:=by
 unfold zrb at h
 cases x<;>try (cases h;done)
 case ms j off k' m c =>
  simp only at h
  split at h
  ·rename_i hk
   have hk:=hk.symm
   subst hk
   split at h
   ·rename_i ds hds
    split at h
    ·rename_i hle
     injection h with h
     injection h with h1 h2
     subst h1 h2
     cases hx with
     | ms _ _ _ _ _ ad cap hcel had hn hcap =>
      obtain ⟨f,hf⟩:=hp.range hds
      refine ⟨ad,cap,(List.range (m*k)).map fun q=>f (off+q),rfl,by simp,by simp;omega,fun y hy=>?_,fun q z y hz hy=>?_,fun hne=>?_,by omega⟩
      ·obtain ⟨q,hq,rfl⟩:=List.mem_map.1 hy
       rw [List.mem_range] at hq
       exact (hf (off+q) ds[off+q] (List.getElem?_eq_getElem (by omega))).2.1
      ·rw [List.getElem?_take,List.getElem?_drop] at hz
       split at hz
       ·rename_i hq
        simp [hq] at hy
        subst hy
        exact (hf (off+q) z hz).2.2
       ·cases hz
      ·have hm:0<m:=by
        rcases Nat.eq_zero_or_pos m with h0 | h0
        ·subst h0;simp at hne
        ·exact h0
       refine ⟨⟨G.φ j,off,none⟩,had (by omega),fun q u hu=>?_⟩
       have hq:q<m*k:=by have:=(List.getElem?_eq_some_iff.1 hu).1;simpa using this
       simp [hq] at hu
       subst hu
       rw [Addr.add_mid]
       have:=(hf (off+q) ds[off+q] (List.getElem?_eq_getElem (by omega))).1
       rwa [Nat.zero_add] at this
    ·cases h
   ·cases h
  ·cases h
 case sl tg k' es =>
  simp only at h
  split at h
  ·rename_i hk
   have hk:=hk.symm
   subst hk
   injection h with h
   injection h with h1 h2
   subst h1 h2
   obtain ⟨a,cap,xs,rfl,hcap,hrow,_,hblk⟩:=hx.row
   obtain ⟨f1,f2⟩:=zcr es hrow.each
   refine ⟨a,cap,xs,rfl,hrow.len,f1,hrow.one,fun j c y hc hy=>?_,fun hne=>?_,hcap⟩
   ·have hj:j<es.length*k:=by have:=(List.getElem?_eq_some_iff.1 hc).1;omega
    have hk0:0<k:=by
     rcases Nat.eq_zero_or_pos k with h0 | h0
     ·subst h0;simp at hj
     ·exact h0
    have hi:j / k<es.length:=Nat.div_lt_of_lt_mul (by rw [Nat.mul_comm];exact hj)
    have hjk:j % k<es[j / k].length:=by rw [hrow.each _ (List.getElem_mem hi)];exact Nat.mod_lt _ hk0
    have e1:=f2 (j / k) (j % k) es[j / k] es[j / k][j % k] (List.getElem?_eq_getElem hi) (List.getElem?_eq_getElem hjk)
    have e2:j / k*k+j % k=j:=by have:=Nat.div_add_mod j k;rw [Nat.mul_comm] at this;exact this
    rw [e2,hc] at e1
    injection e1 with e1
    refine hrow.vr (j / k) (j % k) es[j / k] c y (List.getElem?_eq_getElem hi) (by rw [e1];exact List.getElem?_eq_getElem hjk) (by rw [e2];exact hy)
   ·obtain ⟨b',o,h1,_,_,h2⟩:=hblk (fun e=>by subst e;simp at hne)
    exact ⟨_,h1,h2⟩
  ·cases h
theorem zoq {t ty:TypeId} {s x r:AV} {wr:Option (Nat×Blk)} {a b:Value} (h:zh7 P t H s x=some (r,wr)) (hp:Hp G H w) (hs:VR G H w s a) (hx:VR G H w x b):zpe P G H w #[t,t] ty a b r wr:=by
 unfold zh7 at h
 cases s<;>try (cases h;done)
 case ms i off k n c =>
  simp only at h
  split at h
  ·rename_i cs hcs
   split at h
   ·rename_i hk
    obtain ⟨q,hq,h⟩:=Option.bind_eq_some_iff.1 h
    obtain ⟨m,ns⟩:=q
    simp only at h
    split at h
    ·rename_i hc
     injection h with h;injection h with h1 h2;subst h1 h2
     obtain ⟨e,it,he,hit,hsz,hk0⟩:=zdN hk.1
     obtain ⟨ad,cap,xs,rfl,x1,x2,x3,x4,x5,x6⟩:=zmj hp hq hx
     obtain ⟨us,tu,hg,hsu,hu1,huv⟩:=hp.cells i cs hcs
     cases hs with
     | ms _ _ _ _ _ as caps hcel had hn hcap hcz =>
      have has:=had (by omega)
      obtain ⟨q1,q2⟩:=zhj hp hcs hg hsu.1 hu1 huv (off:=off+n*k) hc.2 (by omega) x3 x4
      have hst:=run_storeCells_at P (G.φ i) (off+n*k) tu xs 0 us w hg (by simp;omega) x3
      simp only [Nat.add_zero] at hst
      refine ⟨_,_,G,?_,q1,q2,.ms i off k (n+m) c as caps (zaa.cel_put hcel) had (by omega) hcap hcz⟩
      have hroom:n+m<=caps:=by omega
      have hfirst:(Builtin.firstCells it.size m (.slice ad m cap)).run P w=.ok xs.toArray w:=by
       by_cases h0:m*k=0
       ·have hm0:m=0:=by
         rcases Nat.eq_zero_or_pos m with h | h
         ·exact h
         ·have:=Nat.mul_pos h hk0;omega
        subst hm0
        have hxs:xs=[]:=List.eq_nil_of_length_eq_zero (by rw [x1];simp)
        subst hxs
        cases ad<;>simp [Builtin.firstCells,loadCells,loadCellsFrom]
       ·obtain ⟨ad',rfl,hcell⟩:=x5 h0
        exact run_firstCells_some (P:=P) w it.size m ad' m cap xs (by rw [x1,hsz]) hcell
      rw [has]
      rw [hsz] at hfirst
      simp only [List.append_assoc] at hst ⊢
      simp [Builtin.append_,run_underlying he,sizeOf,typeInfo,hit,Builtin.lenOf,hroom,hfirst,hsz,Addr.add_mid,hst]
    ·cases h
   ·cases h
  ·cases h
theorem zqh {z:Array Value} {zs:List AV} (hz:z.size=zs.length) (h1:∀x,x∈z->x.oneCell'=true) (hv:∀(j:Nat) (c:AV) (x:Value),zs[j]?=some c->z[j]?=some x->VR G H w c x) (n:Nat) :
  (Builtin.zeroCells z n).toList.length=n*zs.length/\((List.replicate n zs).flatten).length=n*zs.length/\(∀y,y∈(Builtin.zeroCells z n).toList->y.oneCell'=true) /\
  ∀(j:Nat) (c:AV) (y:Value),((List.replicate n zs).flatten)[j]?=some c->(Builtin.zeroCells z n).toList[j]?=some y->VR G H w c y:=by
 have hlen:(Builtin.zeroCells z n).size=n*z.size:=size_zeroCells z n
 have e:∀e,e∈List.replicate n zs->e.length=zs.length:=fun e he=>by rw [(List.mem_replicate.1 he).2]
 obtain ⟨f1,f2⟩:=zcr (List.replicate n zs) e
 rw [List.length_replicate] at f1
 have hget:∀j,j<n*z.size->(Builtin.zeroCells z n)[j]?=z[j % z.size]?/\j % z.size<z.size:=fun j hj=>by
  have h0:0<z.size:=by
   rcases Nat.eq_zero_or_pos z.size with h | h
   ·rw [h] at hj;simp at hj
   ·exact h
  have hm:=Nat.mod_lt j h0
  refine ⟨?_,hm⟩
  unfold Builtin.zeroCells
  simp [hj,hm]
 refine ⟨by simp [hlen,hz],f1,fun y hy=>?_,fun j c y hc hy=>?_⟩
 ·obtain ⟨j,hj⟩:=List.getElem?_of_mem hy
  have hjl:=(List.getElem?_eq_some_iff.1 hj).1
  rw [Array.getElem?_toList,(hget j (by simpa [hlen] using hjl)).1] at hj
  exact h1 y (Array.mem_of_getElem? hj)
 ·have hjl:=(List.getElem?_eq_some_iff.1 hy).1
  obtain ⟨g1,g2⟩:=hget j (by simpa [hlen] using hjl)
  rw [Array.getElem?_toList,g1] at hy
  have hjn:j<n*zs.length:=by simpa [hlen,hz] using hjl
  have hk:0<zs.length:=by omega
  have hi:j / zs.length<(List.replicate n zs).length:=by rw [List.length_replicate];exact Nat.div_lt_of_lt_mul (by rw [Nat.mul_comm];exact hjn)
  have hm:j % zs.length<zs.length:=Nat.mod_lt _ hk
  have e1:=f2 (j / zs.length) (j % zs.length) zs zs[j % zs.length] (by rw [List.getElem?_replicate,if_pos (by simpa using hi)]) (List.getElem?_eq_getElem hm)
  have e2:j / zs.length*zs.length+j % zs.length=j:=by have:=Nat.div_add_mod j zs.length;rw [Nat.mul_comm] at this;exact this
  rw [e2,hc] at e1
  injection e1 with e1
  exact hv (j % zs.length) c y (by rw [e1];exact List.getElem?_eq_getElem hm) (by rw [←hz];exact hy)
theorem zqi {t ty:TypeId} {s r:AV} {wr:Option (Nat×Blk)} {a:Value} (h:znc P t H s=some (r,wr)) (hp:Hp G H w) (hs:VR G H w s a) :
  ∃w',(Builtin.clear_ #[t] ty #[a]).run P w=.ok (.tuple #[]) w'/\Hp G (H.patch wr) w'/\Ext G H w G (H.patch wr) w'/\VR G (H.patch wr) w' r (.tuple #[]):=by
 unfold znc at h
 cases s<;>try (cases h;done)
 case ms i off k n c =>
  simp only at h
  split at h
  ·rename_i cs hcs
   split at h
   ·rename_i hk
    obtain ⟨e,he,h⟩:=Option.bind_eq_some_iff.1 h
    obtain ⟨z,hz,h⟩:=Option.bind_eq_some_iff.1 h
    split at h
    ·rename_i hc
     injection h with h;injection h with h1 h2;subst h1 h2
     obtain ⟨e',it,he',hit,hsz,hk0⟩:=zdN hk
     have:e'=e:=by simpa [zcy,he'] using he
     subst this
     obtain ⟨zv,hzr,hzs,hz1,hzv⟩:=zmb hz
     obtain ⟨us,tu,hg,hsu,hu1,huv⟩:=hp.cells i cs hcs
     obtain ⟨z1,z2,z3,z4⟩:=zqh (G:=G) (H:=H) (w:=w) hzs hz1 (hzv G H w) n
     cases hs with
     | ms _ _ _ _ _ as caps hcel had hn hcap =>
      by_cases hn0:n=0
      ·subst hn0
       have hsp:zdL cs off (List.replicate 0 z).flatten=cs:=by simp [zdL]
       have hH:H.patch (some (i,.cells (zdL cs off (List.replicate 0 z).flatten)))=H:=by
        rw [hsp]
        funext j
        show (H.set i _) j=H j
        by_cases hj:j=i
        ·subst hj;rw [zaa.set_same,hcs]
        ·rw [zaa.set_ne _ _ hj]
       refine ⟨w,?_,?_,?_,.any _⟩
       ·cases as<;>simp [Builtin.clear_,run_underlying he']
       ·rw [hH];exact hp
       ·rw [hH];exact .refl _ _ _
      ·have has:=had (by omega)
       obtain ⟨q1,q2⟩:=zhj hp hcs hg hsu.1 hu1 huv (off:=off) (ns:=(List.replicate n z).flatten) (by rw [z2,hc.1];exact hc.2) (by rw [z1,z2]) z3 z4
       have hst:=run_storeCells_at P (G.φ i) off tu (Builtin.zeroCells zv.cells n).toList 0 us w hg (by rw [z1,hc.1];omega) z3
       simp only [Nat.add_zero] at hst
       refine ⟨_,?_,q1,q2,.any _⟩
       rw [has]
       obtain ⟨n',rfl⟩:∃n',n=n'+1:=⟨n-1,by omega⟩
       simp [Builtin.clear_,run_underlying he',hzr,hst]
    ·cases h
   ·cases h
  ·cases h
theorem zkt {o:Oper} {new:Nat} {r:AV} {wr:Option (Nat×Blk)} {ρ:Operand->AV} {cρ:Operand->Value} (hp:Hp G H w) (hn:H new=none) (hρ:∀x,VR G H w (ρ x) (cρ x))
  (h:zat P new o.op ρ H=some (r,wr)):zre P G H w o cρ r wr:=by
 obtain ⟨dst,op,ty,pos,after,guard⟩:=o
 cases op<;>simp only [zat] at h<;>try (cases h;done)
 case move x =>
  injection h with h;injection h with h1 h2;subst h1 h2
  exact .same hp (by simp [execOp]) (hρ x)
 case assign x =>
  injection h with h;injection h with h1 h2;subst h1 h2
  exact .same hp (by simp [execOp]) (hρ x)
 case pick c a b =>
  split at h
  ·rename_i t hc
   injection h with h;injection h with h1 h2;subst h1 h2
   have:=hρ c
   rw [hc] at this
   have hcv:=zmd this
   refine .same hp (v:=if t then cρ a else cρ b) (by simp [execOp,hcv,asBool]) ?_
   cases t
   ·exact hρ b
   ·exact hρ a
  ·cases h
 case alloc t =>
  obtain ⟨cs,hcs,h⟩:=Option.map_eq_some_iff.1 h
  injection h with h1 h2;subst h1 h2
  obtain ⟨z,hzr,hzs,hz1,hzv⟩:=zmb hcs
  obtain ⟨q1,q2,q3⟩:=zgv (ty:=t) hp hn hzs hz1 (hzv G H w)
  refine ⟨_,_,_,.inl ?_,q1,q2,q3⟩
  simp only [execOp,Instr.alloc,Sem.run_bind,hzr,Result.andThen_ok,newVar,newRow,run_newObj,Sem.run_pure]
  rfl
 case makeMap t r =>
  cases r with
  | some _=>simp at h
  | none =>
   obtain ⟨ty,_,h⟩:=Option.map_eq_some_iff.1 h
   injection h with h1 h2;subst h1 h2
   obtain ⟨v,w',G',hr,q1,q2,q3⟩:=znk (P:=P) hp hn (t:=t)
   exact ⟨v,w',G',.inl (by simp [execOp,hr,Result.andThen]),q1,q2,q3⟩
 case makeSlice t x y =>
  obtain ⟨n,hx,h⟩:=Option.bind_eq_some_iff.1 h
  obtain ⟨e,he,h⟩:=Option.bind_eq_some_iff.1 h
  obtain ⟨zs,hz,h⟩:=Option.bind_eq_some_iff.1 h
  split at h
  ·rename_i hc
   obtain ⟨hy,hl,hle,hk,hfit⟩:=hc
   obtain ⟨z,rfl⟩:∃z,zs=[z]:=by
    cases zs with
    | nil=>simp at hl
    | cons z zs=>cases zs with | nil=>exact ⟨z,rfl⟩ | cons _ _=>simp at hl
   obtain ⟨cells,hr,hs,h1,hv⟩:=znm (P:=P) hx (hρ x) hy (hρ y) hle he hz hk hfit
   split at h
   ·rename_i h0
    injection h with h
    injection h with h2 h3
    subst h2 h3 h0
    obtain ⟨p1,p2⟩:=zia (w:=w) hp (.cells cells e)
    exact ⟨_,_,G,.inl (by simp only [execOp,hr,Sem.run_bind,Result.andThen_ok,Sem.run_pure];rfl),p1,p2,.sl .no 1 [] _ 0 0 0 (fun _ _=>undef) (by simp) (fun e h=>by simp at h) (fun h=>absurd rfl h) (fun i j e c h=>by simp at h) (fun i j e c h=>by simp at h) trivial⟩
   ·injection h with h
    injection h with h2 h3
    subst h2 h3
    have hflat:(List.replicate n [z]).flatten=List.replicate n z:=by
     clear hr hs h1 hv hx hy hle
     induction n with
     | zero=>rfl
     | succ n ih=>simp [List.replicate_succ,ih]
    rw [hflat]
    obtain ⟨q1,q2,_⟩:=zgv (cs:=List.replicate n z) (vs:=cells) (ty:=e) hp hn (by rw [hs,List.length_replicate]) h1 (fun j c y hc hy=>by
     rw [List.eq_of_mem_replicate (List.mem_of_getElem? hc)]
     exact hv y (Array.mem_of_getElem? hy) _ _ _)
    have hφ:(G.atC new w.heap.size cells.size).φ new=w.heap.size:=by simp [Gh.atC,Gh.atφ]
    exact ⟨_,_,_,.inl (by simp only [execOp,hr,Sem.run_bind,Result.andThen_ok,Sem.run_pure];rfl),q1,q2,.ms new 0 1 n n _ n (.inl ⟨_,zaa.set_same _ _ _⟩) (fun _=>by rw [hφ]) (Nat.le_refl _) (Nat.le_refl _) (fun _=>by simp [Gh.atC,hs])⟩
  ·cases h
 case lookup t x ix ok =>
  obtain ⟨q,hq,h⟩:=Option.map_eq_some_iff.1 h
  injection h with h1 h2;subst h1 h2
  have hr:=zoo hp hq (hρ x) (hρ ix) ok
  refine .same hp (by simp [execOp,hr,Result.andThen];rfl) ?_
  cases ok
  ·exact .v _
  ·refine .tup _ _ rfl fun i c y hc hy=>?_
   match i,hc,hy with
   | 0,hc,hy=>simp at hc hy;subst hc hy;exact .v _
   | 1,hc,hy=>simp at hc hy;subst hc hy;exact .v _
   | i+2,hc,hy=>simp at hc
 case mapUpdate t x ix v =>
  obtain ⟨q,hq,h⟩:=Option.bind_eq_some_iff.1 h
  obtain ⟨val,hval,h⟩:=Option.map_eq_some_iff.1 h
  injection h with h1 h2;subst h1 h2
  obtain ⟨w',hr,q1,q2⟩:=zh1 hp hq (hρ x) (hρ ix) hval (hρ v)
  exact ⟨undef,w',G,.inr ⟨by simp [execOp,hr,Result.andThen],rfl⟩,q1,q2,.any _⟩
 case insert t x ix v =>
  obtain ⟨q,hq,h⟩:=Option.bind_eq_some_iff.1 h
  obtain ⟨val,hval,h⟩:=Option.map_eq_some_iff.1 h
  injection h with h1 h2;subst h1 h2
  obtain ⟨w',hr,q1,q2⟩:=zh1 hp hq (hρ x) (hρ ix) hval (hρ v)
  exact ⟨undef,w',G,.inr ⟨by simp [execOp,hr,Result.andThen],rfl⟩,q1,q2,.any _⟩
 case mapEntry t x ix =>
  obtain ⟨q,hq,h⟩:=Option.map_eq_some_iff.1 h
  have hr:=zmi hp hq (hρ x) (hρ ix)
  have two:∀(G:Gh) (H:zaa) (w:World) (a b:Value),VR G H w (.tup [.v a,.v b]) (.tuple #[a,b]):=fun G H w a b=>by
   refine .tup _ _ rfl fun i c y hc hy=>?_
   match i,hc,hy with
   | 0,hc,hy=>simp at hc hy;subst hc hy;exact .v _
   | 1,hc,hy=>simp at hc hy;subst hc hy;exact .v _
   | i+2,hc,hy=>simp at hc
  cases hf:zex q.2.1 q.2.2.1 with
  | some j =>
   simp only [hf] at hr h
   injection h with h1 h2;subst h1 h2
   obtain ⟨w',hr,q1,q2⟩:=hr
   exact ⟨_,w',G,.inl (by simp [execOp,hr,Result.andThen]),q1,q2,two _ _ _ _ _⟩
  | none =>
   simp only [hf] at hr h
   injection h with h1 h2;subst h1 h2
   obtain ⟨w',hr,q1,q2⟩:=hr
   exact ⟨_,w',G,.inl (by simp [execOp,hr,Result.andThen]),q1,q2,two _ _ _ _ _⟩
 case entryStore t x s v =>
  split at h
  ·rename_i i n hx hs
   split at h
   ·rename_i p hi
    obtain ⟨m,hm,h⟩:=Option.bind_eq_some_iff.1 h
    obtain ⟨val,hval,h⟩:=Option.bind_eq_some_iff.1 h
    split at h
    ·rename_i hn'
     injection h with h;injection h with h1 h2;subst h1 h2
     have hp':=zje hm
     subst hp'
     have h1:=hρ x
     have h2:=hρ s
     rw [hx] at h1
     rw [hs] at h2
     obtain ⟨w',hr,q1,q2⟩:=zkr (P:=P) (t:=t) hp hi hn' hval (hρ v)
     have e1:cρ x=.map (some (G.φ i)):=by generalize cρ x=y at h1;cases h1;rfl
     have e2:cρ s=.int .i64 n:=zmd h2
     exact ⟨undef,w',G,.inr ⟨by simp [execOp,e1,e2,hr,Result.andThen],rfl⟩,q1,q2,.any _⟩
    ·cases h
   ·cases h
  ·cases h
 case box t x =>
  obtain ⟨cs,hcs,h⟩:=Option.map_eq_some_iff.1 h
  injection h with h1 h2;subst h1 h2
  obtain ⟨h1,h2,h3⟩:=zjd (hρ x) hcs
  obtain ⟨q1,q2,q3⟩:=zgv (ty:=t) hp hn h1 h2 h3
  refine ⟨_,_,_,.inl ?_,q1,q2,q3⟩
  simp only [execOp,Instr.box,Sem.run_bind,newVar,newRow,run_newObj,Result.andThen_ok,Sem.run_pure]
  rfl
 case build t ps =>
  obtain ⟨z,hz,h⟩:=Option.bind_eq_some_iff.1 h
  obtain ⟨pl,hpl,h⟩:=Option.bind_eq_some_iff.1 h
  obtain ⟨cs,hcs,h⟩:=Option.map_eq_some_iff.1 h
  injection h with h1 h2;subst h1 h2
  obtain ⟨hl,hq⟩:=zks hρ ps
  obtain ⟨v,hv,hr⟩:=zqe hz hpl hcs hl hq
  exact .same hp (by simp only [execOp,Sem.run_bind,hv,Result.andThen_ok,Sem.run_pure]) hr
 case buildSlice t n ps =>
  obtain ⟨k,hk,h⟩:=Option.bind_eq_some_iff.1 h
  obtain ⟨es,hes,h⟩:=Option.bind_eq_some_iff.1 h
  split at h
  ·rename_i hc
   obtain ⟨e,he,h⟩:=Option.bind_eq_some_iff.1 h
   injection h with h;injection h with h1 h2;subst h1 h2
   obtain ⟨hl,hq⟩:=zks hρ ps
   obtain ⟨v,w',G',hv,q1,q2,q3⟩:=zko hk he hes hc.1 hc.2.1 hc.2.2 hl hq hp hn
   exact ⟨v,w',G',.inl (by simp only [execOp,Sem.run_bind,hv,Result.andThen_ok,Sem.run_pure]),q1,q2,q3⟩
  ·cases h
 case load t x =>
  have hx:=hρ x
  split at h
  ·rename_i i off hpx
   rw [hpx] at hx
   generalize hva:cρ x=vx at hx
   cases hx with
   | ptr _ _ hcs0 =>
    split at h
    ·rename_i cs hcs
     obtain ⟨r',hr,h⟩:=Option.map_eq_some_iff.1 h
     injection h with h1 h2;subst h1 h2
     obtain ⟨v,hv,hvr⟩:=zkj (o:=0) hr (hp.range hcs)
     rw [Nat.zero_add] at hv
     refine .same hp (v:=v) ?_ hvr
     simp only [execOp,Instr.loadAt,hva,Instr.sureAddr,Sem.run_bind,Sem.run_pure,Result.andThen_ok,hv]
    ·cases h
  ·rename_i cs hpx
   rw [hpx] at hx
   obtain ⟨b,o,hvx,hrange,_⟩:=zjY hx
   obtain ⟨r',hr,h⟩:=Option.map_eq_some_iff.1 h
   injection h with h1 h2;subst h1 h2
   obtain ⟨v,hv,hvr⟩:=zkj (o:=o) hr hrange
   rw [Nat.add_zero] at hv
   refine .same hp (v:=v) ?_ hvr
   simp only [execOp,Instr.loadAt,hvx,Instr.sureAddr,Sem.run_bind,Sem.run_pure,Result.andThen_ok,hv]
  ·cases h
 case store t a x =>
  have ha:=hρ a
  split at h
  ·rename_i i off hpa
   rw [hpa] at ha
   generalize hva:cρ a=va at ha
   cases ha with
   | ptr _ _ hcs0 =>
    split at h
    ·rename_i cs hcs
     obtain ⟨ns,hns,h⟩:=Option.bind_eq_some_iff.1 h
     split at h
     ·rename_i hc
      injection h with h;injection h with h1 h2;subst h1 h2
      obtain ⟨l1,l2,l3⟩:=zjd (hρ x) hns
      obtain ⟨vs,ty,hg,hs,h1,hv⟩:=hp.cells i cs hcs
      have hst:=run_storeCells_at P (G.φ i) off ty (cρ x).cells.toList 0 vs w hg (by simp;omega) (fun y hy=>l2 y (by simpa using hy))
      simp only [Nat.add_zero] at hst
      obtain ⟨q1,q2⟩:=zhj hp hcs hg hs.1 h1 hv hc.2 (xs:=(cρ x).cells.toList) (by simpa using l1) (fun y hy=>l2 y (by simpa using hy)) (fun j c y hj hy=>l3 j c y hj (by simpa using hy))
      obtain ⟨it,hit,hsz⟩:=zdM hc.1
      refine ⟨undef,_,_,.inr ⟨?_,rfl⟩,q1,q2,.any _⟩
      have hne:¬((cρ x).cells.size≠it.size):=by rw [l1,hsz];simp
      simp only [execOp,Instr.storeAt,hva,Instr.sureAddr,storeVar,Sem.run_bind,Sem.run_pure,Result.andThen_ok,sizeOf,typeInfo,run_program,hit,if_neg hne,hst]
     ·cases h
    ·cases h
  ·cases h
 case nilCheck x =>
  have hx:=hρ x
  split at h
  ·rename_i i off hpx
   injection h with h;injection h with h1 h2;subst h1 h2
   rw [hpx] at hx
   generalize hva:cρ x=vx at hx
   cases hx with
   | ptr _ _ hcs=>exact .same hp (by simp [execOp,hva]) (.ptr i off hcs)
  ·rename_i cs hpx
   injection h with h;injection h with h1 h2;subst h1 h2
   rw [hpx] at hx
   obtain ⟨b,o,hvx,_,_⟩:=zjY hx
   exact .same hp (v:=cρ x) (by simp [execOp,hvx]) hx
  ·cases h
 case binOp op t x y t2 =>
  obtain ⟨r',hr,h⟩:=Option.map_eq_some_iff.1 h
  injection h with h1 h2;subst h1 h2
  obtain ⟨v,hv,hvr⟩:=ztm x y hr (hρ x) (hρ y)
  exact .same hp (by simp only [execOp,Sem.run_bind] at hv ⊢;rw [hv];rfl) hvr
 case unOp op t x =>
  have hx:=hρ x
  split at h
  ·rename_i b hpx
   injection h with h;injection h with h1 h2;subst h1 h2
   rw [hpx] at hx
   exact .same hp (by simp [execOp,zmd hx,Op.unary]) (.v _)
  ·rename_i k n hpx
   injection h with h;injection h with h1 h2;subst h1 h2
   rw [hpx] at hx
   exact .same hp (by simp [execOp,zmd hx,Op.unary,Op.intArith]) (.v _)
  ·cases h
 case convert s d x =>
  have hx:=hρ x
  split at h
  ·rename_i k0 n ks k hpx hks hkd
   injection h with h;injection h with h1 h2;subst h1 h2
   rw [hpx] at hx
   exact .same hp (by simp [execOp,zmd hx,convert,run_underlying (zkl hks),run_underlying (zkl hkd),Conv.intToInt]) (.v _)
  ·cases h
 case makeFunc fn first cap =>
  injection h with h;injection h with h1 h2;subst h1 h2
  obtain ⟨a1,a2⟩:=VRs.mk hρ first
  obtain ⟨b1,b2⟩:=VRs.mk hρ cap
  exact .same hp (by simp [execOp,Instr.makeFunc]) (.fn fn _ _ _ _ a1 b1 a2 b2)
 case fieldAddr s x f =>
  obtain ⟨k,hk,h⟩:=Option.bind_eq_some_iff.1 h
  have hx:=hρ x
  split at h
  ·rename_i i off hpx
   injection h with h;injection h with h1 h2;subst h1 h2
   rw [hpx] at hx
   generalize hva:cρ x=vx at hx
   cases hx with
   | ptr _ _ hcs=>exact .same hp (by simp only [execOp,hva,Sem.run_bind,zkk hk,Result.andThen_ok,Sem.run_pure]) (.ptr i (off+k) hcs)
  ·rename_i cs hpx
   injection h with h;injection h with h1 h2;subst h1 h2
   rw [hpx] at hx
   obtain ⟨b,o,hvx,hrange,hfr⟩:=zjY hx
   refine .same hp (by simp only [execOp,hvx,Sem.run_bind,zkk hk,Result.andThen_ok,Sem.run_pure]) (zmc (hrange.drop k) fun hne=>?_)
   have hcs:cs≠[]:=fun e=>by subst e;simp at hne
   have hlen:0<(cs.drop k).length:=List.length_pos_iff.2 hne
   refine (hfr hcs).le ?_
   simp only [List.length_drop] at hlen ⊢
   omega
  ·cases h
 case field s x f =>
  obtain ⟨q,hq,h⟩:=Option.bind_eq_some_iff.1 h
  have hx:=hρ x
  split at h
  ·rename_i cs hpx
   obtain ⟨r',hr,h⟩:=Option.map_eq_some_iff.1 h
   injection h with h1 h2;subst h1 h2
   rw [hpx] at hx
   generalize hva:cρ x=vx at hx
   cases hx with
   | agg _ vs hl h1 hv =>
    obtain ⟨v,hv',hvr⟩:=zlH hr (.agg cs vs hl h1 hv)
    unfold fieldType at hq
    split at hq
    ·rename_i fs hfs
     obtain ⟨fd,hfd,hq⟩:=Option.map_eq_some_iff.1 hq
     subst hq
     exact .same hp (by simp only [execOp,hva,Instr.field,Sem.run_bind,run_underlying hfs,Result.andThen_ok,hfd,asAgg,Sem.run_pure,hv']) hvr
    ·cases hq
  ·cases h
 case indexAddr t x i =>
  obtain ⟨n,hn',h⟩:=Option.bind_eq_some_iff.1 h
  obtain ⟨ki,hki⟩:=ziw hn' (hρ i)
  have hx:=hρ x
  split at h
  ·rename_i tg k es hpx
   split at h
   ·rename_i hk
    obtain ⟨e,he,h⟩:=Option.map_eq_some_iff.1 h
    injection h with h1 h2;subst h1 h2
    rw [hpx] at hx
    obtain ⟨b,o,cap,hvx,hvr⟩:=zuO hx he
    obtain ⟨et,it,het,hit,hsz,_⟩:=zdN hk
    have hlt:n<es.length:=(List.getElem?_eq_some_iff.1 he).1
    refine .same hp ?_ hvr
    simp [execOp,hvx,hki,Instr.indexAt,asIntOf,run_underlying het,sizeOf,typeInfo,hit,hsz,Addr.add_mid]
    exact fun hge=>absurd hge (by omega)
   ·cases h
  ·rename_i b off k m c hpx
   split at h
   ·rename_i hc
    injection h with h;injection h with h1 h2;subst h1 h2
    rw [hpx] at hx
    generalize hva:cρ x=vx at hx
    obtain ⟨et,it,het,hit,hsz,_⟩:=zdN hc.1
    cases hx with
    | ms _ _ _ _ _ ad cap hcel had hn hcap =>
     have hlt:=hc.2
     rw [had (by omega)] at hva
     refine .same hp ?_ (.ptr b (off+n*k) hcel)
     simp [execOp,hva,hki,Instr.indexAt,asIntOf,run_underlying het,sizeOf,typeInfo,hit,hsz,Addr.add_mid]
     exact fun hge=>absurd hge (by omega)
   ·cases h
  ·rename_i b off hpx
   obtain ⟨q,hq,h⟩:=Option.bind_eq_some_iff.1 h
   split at h
   ·rename_i hlt
    injection h with h;injection h with h1 h2;subst h1 h2
    rw [hpx] at hx
    generalize hva:cρ x=vx at hx
    cases hx with
    | ptr _ _ hcs =>
     obtain ⟨et,it,het,hit,hsz⟩:=zng hq
     refine .same hp ?_ (.ptr b (off+n*q.2) hcs)
     simp [execOp,hva,hki,Instr.indexAt,Instr.sureAddr,asIntOf,run_underlying het,sizeOf,typeInfo,hit,hsz,Addr.add_mid]
     exact fun hge=>absurd hge (by omega)
   ·cases h
  ·rename_i cs hpx
   obtain ⟨q,hq,h⟩:=Option.bind_eq_some_iff.1 h
   split at h
   ·rename_i hlt
    injection h with h;injection h with h1 h2;subst h1 h2
    rw [hpx] at hx
    obtain ⟨b,o,hvx,hrange,hfr⟩:=zjY hx
    obtain ⟨et,it,het,hit,hsz⟩:=zng hq
    refine .same hp (v:=.pointer (some ⟨b,o+n*q.2,none⟩)) ?_ (zmc (hrange.drop (n*q.2)) fun hne=>?_)
    ·simp [execOp,hvx,hki,Instr.indexAt,Instr.sureAddr,asIntOf,run_underlying het,sizeOf,typeInfo,hit,hsz,Addr.add_mid]
     exact fun hge=>absurd hge (by omega)
    ·have hcs:cs≠[]:=fun e=>by subst e;simp at hne
     have hlen:0<(cs.drop (n*q.2)).length:=List.length_pos_iff.2 hne
     refine (hfr hcs).le ?_
     simp only [List.length_drop] at hlen ⊢
     omega
   ·cases h
  ·cases h
 case index t x i =>
  obtain ⟨n,hn',h⟩:=Option.bind_eq_some_iff.1 h
  obtain ⟨ki,hki⟩:=ziw hn' (hρ i)
  obtain ⟨q,hq,h⟩:=Option.bind_eq_some_iff.1 h
  have hx:=hρ x
  split at h
  ·rename_i cs hpx
   split at h
   ·rename_i hlt
    obtain ⟨r',hr,h⟩:=Option.map_eq_some_iff.1 h
    injection h with h1 h2;subst h1 h2
    rw [hpx] at hx
    generalize hva:cρ x=vx at hx
    cases hx with
    | agg _ vs hl h1 hv =>
     obtain ⟨v,hv',hvr⟩:=zlH hr (.agg cs vs hl h1 hv)
     unfold zp5 at hq
     split at hq
     ·rename_i m e hfs
      obtain ⟨sz,hsz,hq⟩:=Option.map_eq_some_iff.1 hq
      subst hq
      obtain ⟨it,hit,hits⟩:=zdM hsz
      refine .same hp ?_ hvr
      have hlt':(n:Int)<(m:Int):=by simp at hlt;omega
      simp only [execOp,hva,hki,Instr.index,asIntOf,Sem.run_bind,Sem.run_pure,run_underlying hfs,Result.andThen_ok]
      rw [if_pos ⟨by omega,hlt'⟩]
      simp only [sizeOf,typeInfo,Sem.run_bind]
      simp [hit,hits,hv']
     ·cases hq
   ·cases h
  ·cases h
 case extract x k =>
  have hx:=hρ x
  split at h
  ·rename_i vs hpx
   obtain ⟨r',hr,h⟩:=Option.map_eq_some_iff.1 h
   injection h with h1 h2;subst h1 h2
   rw [hpx] at hx
   generalize hva:cρ x=vx at hx
   cases hx with
   | tup _ us hl hv =>
    have hlt:k<us.size:=by have:=(List.getElem?_eq_some_iff.1 hr).1;omega
    have hu:us[k]?=some us[k]:=Array.getElem?_eq_getElem hlt
    exact .same hp (by simp [execOp,hva,Instr.extract,hu]) (hv k r' _ hr hu)
  ·cases h
 case slice t x lo hi mx =>
  obtain ⟨r',hr,h⟩:=Option.map_eq_some_iff.1 h
  injection h with h1 h2;subst h1 h2
  obtain ⟨v,hv,hvr⟩:=zqc (P:=P) hr (hρ x) (zuS hρ lo) (zuS hρ hi) (zuS hρ mx)
  exact .same hp (by simp only [execOp,Sem.run_bind,hv,Result.andThen_ok,Sem.run_pure]) hvr
 case call c =>
  obtain ⟨callee,args,argTypes⟩:=c
  cases callee with
  | value f=>cases h
  | invoke r m=>cases h
  | builtin b =>
   have hargs:=VRs.mk hρ args
   cases b<;>simp only at h<;>try (cases h;done)
   case append =>
    split at h
    ·rename_i s x t u hs hts
     split at h
     ·rename_i htu
      subst htu
      rw [hs] at hargs
      obtain ⟨a,b,hab,ha,hb⟩:=zuP hargs
      have ht:argTypes=#[t,t]:=by
       obtain ⟨l⟩:=argTypes
       simpa using hts
      have key:zpe P G H w #[t,t] ty a b r wr:=by
       split at h
       ·exact zoq h hp ha hb
       ·exact zom (ty:=ty) h hp hn ha hb
      obtain ⟨v,w',G',hv,q1,q2,q3⟩:=key
      refine ⟨v,w',G',.inl ?_,q1,q2,q3⟩
      simp only [execOp,resolve,Sem.run_bind,Sem.run_pure,Result.andThen_ok,invoke,builtin,hab,ht,hv]
     ·cases h
    ·cases h
   case len =>
    split at h
    ·rename_i tg k es t hs hts
     split at h
     ·rename_i hsl
      injection h with h;injection h with h1 h2;subst h1 h2
      rw [hs] at hargs
      obtain ⟨a,hab,ha⟩:=zoj hargs
      obtain ⟨e,he⟩:=zic hsl
      obtain ⟨ad,cap,xs,rfl,_⟩:=ha.row
      refine .same hp (v:=.int .i64 es.length) ?_ (.v _)
      simp [execOp,resolve,invoke,builtin,hab,Builtin.len_,hts,run_underlying he,goInt]
     ·cases h
    ·rename_i b off k n c t hs hts
     split at h
     ·rename_i hsl
      injection h with h;injection h with h1 h2;subst h1 h2
      rw [hs] at hargs
      obtain ⟨a,hab,ha⟩:=zoj hargs
      obtain ⟨e,he⟩:=zic hsl
      cases ha with
      | ms _ _ _ _ _ ad cap hcel had hn hcap =>
       refine .same hp (v:=.int .i64 n) ?_ (.v _)
       simp [execOp,resolve,invoke,builtin,hab,Builtin.len_,hts,run_underlying he,goInt]
     ·cases h
    ·cases h
   case clear =>
    split at h
    ·rename_i s t hs hts
     rw [hs] at hargs
     obtain ⟨a,hab,ha⟩:=zoj hargs
     have ht:argTypes=#[t]:=by
      obtain ⟨l⟩:=argTypes
      simpa using hts
     obtain ⟨w',hv,q1,q2⟩:=zqi (ty:=ty) h hp ha
     refine ⟨_,w',_,.inl ?_,q1,q2.1,q2.2⟩
     simp only [execOp,resolve,Sem.run_bind,Sem.run_pure,Result.andThen_ok,invoke,builtin,hab,ht,hv]
    ·cases h
   case min =>
    obtain ⟨r',hr,h⟩:=Option.map_eq_some_iff.1 h
    injection h with h1 h2;subst h1 h2
    obtain ⟨v,hv,hvr⟩:=zto (P:=P) argTypes ty hr hargs
    refine .same hp (v:=v) ?_ hvr
    simp only [execOp,resolve,Sem.run_bind,Sem.run_pure,Result.andThen_ok,invoke,builtin,hv]
   case max =>
    obtain ⟨r',hr,h⟩:=Option.map_eq_some_iff.1 h
    injection h with h1 h2;subst h1 h2
    obtain ⟨v,hv,hvr⟩:=ztp (P:=P) argTypes ty hr hargs
    refine .same hp (v:=v) ?_ hvr
    simp only [execOp,resolve,Sem.run_bind,Sem.run_pure,Result.andThen_ok,invoke,builtin,hv]
end
end Go.AM
