/-
  The abstract machine: literals of structs, arrays and slices.
  Conditions: none; it speaks of any program.
-/
import Derived.Test.YtchhkifidbkjcaaAmF
set_option linter.all false
namespace Go.AM
open Go Go.RowKit
def zfv (G:Gh) (H:zaa) (w:World) (cs:List AV) (vs:Array Value):Prop :=
 vs.size=cs.length/\(∀x,x∈vs->x.oneCell'=true)/\∀(j:Nat) (c:AV) (x:Value),cs[j]?=some c->vs[j]?=some x->VR G H w c x
theorem zlI (off:Nat):∀(l:List Value) (s:Nat) (cells:Array Value),
  ((l.zipIdx s).foldl (fun cs (p:Value×Nat)=>cs.setIfInBounds (off+p.2) p.1) cells).size=cells.size /\
  ∀m,((l.zipIdx s).foldl (fun cs (p:Value×Nat)=>cs.setIfInBounds (off+p.2) p.1) cells)[m]?=if off+s<=m/\m<off+s+l.length/\m<cells.size then l[m-(off+s)]? else cells[m]?
 | [],s,cells=>by
  refine ⟨rfl,fun m=>?_⟩
  simp only [List.zipIdx_nil,List.foldl_nil,List.length_nil]
  rw [if_neg (by omega)]
 | v::l,s,cells=>by
  obtain ⟨h1,h2⟩:=zlI off l (s+1) (cells.setIfInBounds (off+s) v)
  simp only [List.zipIdx_cons,List.foldl_cons]
  refine ⟨by rw [h1];simp,fun m=>?_⟩
  rw [h2 m]
  simp only [Array.size_setIfInBounds,List.length_cons]
  by_cases hm:m=off+s
  ·subst hm
   rw [if_neg (by omega)]
   by_cases hlt:off+s<cells.size
   ·rw [if_pos (by omega)]
    simp [hlt]
   ·rw [if_neg (by omega)]
    simp [hlt]
  ·rw [Array.getElem?_setIfInBounds_ne (by omega)]
   by_cases hc:off+(s+1)<=m/\m<off+(s+1)+l.length/\m<cells.size
   ·rw [if_pos hc,if_pos (by omega),show m-(off+s)=(m-(off+(s+1)))+1 by omega,List.getElem?_cons_succ]
   ·rw [if_neg hc,if_neg (by omega)]
theorem zrg (off:Nat) (vs cells:Array Value):(vs.zipIdx.foldl (fun cs (c,j)=>cs.setIfInBounds (off+j) c) cells).size=cells.size /\
  ∀m,(vs.zipIdx.foldl (fun cs (c,j)=>cs.setIfInBounds (off+j) c) cells)[m]?=if off<=m/\m<off+vs.size/\m<cells.size then vs[m-off]? else cells[m]?:=by
 have:=zlI off vs.toList 0 cells
 rw [←Array.foldl_toList]
 simpa using this
section
variable {P:Program} {G:Gh} {H:zaa} {w:World}
theorem zlJ (cs:List AV) (off:Nat) (new:List AV) (h:off+new.length<=cs.length) (m:Nat):(zdL cs off new)[m]?=if off<=m/\m<off+new.length then new[m-off]? else cs[m]?:=by
 unfold zdL
 have ht:(cs.take off).length=off:=by simp;omega
 by_cases h1:m<off
 ·rw [List.append_assoc,List.getElem?_append_left (by omega),List.getElem?_take,if_pos h1,if_neg (by omega)]
 ·rw [List.append_assoc,List.getElem?_append_right (by omega),ht]
  by_cases h2:m<off+new.length
  ·rw [List.getElem?_append_left (by omega),if_pos (by omega)]
  ·rw [List.getElem?_append_right (by omega),List.getElem?_drop,if_neg (by omega)]
   congr 1
   omega
theorem zgT (cs:List AV) (off:Nat) (new:List AV) (h:off+new.length<=cs.length):(zdL cs off new).length=cs.length:=by
 simp [zdL]
 omega
theorem zfv.write {cs new:List AV} {cells vs:Array Value} (h:zfv G H w cs cells) (hn:zfv G H w new vs) {off:Nat} (hl:off+new.length<=cs.length) :
  zfv G H w (zdL cs off new) (vs.zipIdx.foldl (fun cs (c,j)=>cs.setIfInBounds (off+j) c) cells):=by
 obtain ⟨hs,hg⟩:=zrg off vs cells
 refine ⟨by rw [hs,h.1,zgT _ _ _ hl],fun x hx=>?_,fun j c x hc hx=>?_⟩
 ·obtain ⟨m,hm⟩:=Array.getElem?_of_mem hx
  rw [hg m] at hm
  split at hm
  ·exact hn.2.1 x (Array.mem_of_getElem? hm)
  ·exact h.2.1 x (Array.mem_of_getElem? hm)
 ·rw [hg j] at hx
  rw [zlJ _ _ _ hl] at hc
  have hlt:j<cells.size\/¬j<cells.size:=Nat.lt_or_ge j cells.size |>.imp id (by omega)
  by_cases h1:off<=j/\j<off+new.length
  ·have hjs:j<cells.size:=by have:=h.1;omega
   rw [if_pos h1] at hc
   rw [if_pos ⟨h1.1,by rw [hn.1];exact h1.2,hjs⟩] at hx
   exact hn.2.2 _ c x hc hx
  ·rw [if_neg h1] at hc
   rw [if_neg (by rw [hn.1];omega)] at hx
   exact h.2.2 j c x hc hx
theorem zkn {x:AV} {v:Value} {cs:List AV} (h:VR G H w x v) (hc:cellsOf x=some cs):zfv G H w cs v.cells:=zjd h hc
theorem zmf (pl:List (Nat×Nat)) (place:Nat->Option (Nat×Nat)) (hpl:∀i q,pl[i]?=some q->place i=some q):∀(ps:List (Nat×AV)) (cps:List (Nat×Value)) (cs cs':List AV) (cells:Array Value),
  ps.length=cps.length->(∀(i:Nat) (q:Nat×AV) (cq:Nat×Value),ps[i]?=some q->cps[i]?=some cq->q.1=cq.1/\VR G H w q.2 cq.2)->zfv G H w cs cells->zlq pl cs ps=some cs' ->
  ∃cells',Instr.fill place cells cps=some cells'/\zfv G H w cs' cells'
 | [],[],cs,cs',cells,_,_,hv,h=>by
  simp only [zlq] at h
  injection h with h
  subst h
  exact ⟨cells,rfl,hv⟩
 | [],_::_,_,_,_,hl,_,_,_=>by simp at hl
 | _::_,[],_,_,_,hl,_,_,_=>by simp at hl
 | (i,x)::ps,(ci,cx)::cps,cs,cs',cells,hl,hq,hv,h=>by
  obtain ⟨h0,hx⟩:=hq 0 (i,x) (ci,cx) rfl rfl
  simp only at h0 hx
  subst h0
  simp only [zlq] at h
  cases hp:pl[i]? with
  | none=>simp [hp] at h
  | some q =>
   obtain ⟨off,sz⟩:=q
   simp only [hp] at h
   cases hc:cellsOf x with
   | none=>simp [hc] at h
   | some new =>
    simp only [hc] at h
    split at h
    ·rename_i hcond
     have hn:=zkn hx hc
     obtain ⟨cells',hf,hv'⟩:=zmf pl place hpl ps cps (zdL cs off new) cs' _ (by simpa using hl)
      (fun j q cq hj hcj=>hq (j+1) q cq (by simpa using hj) (by simpa using hcj)) (hv.write hn (by omega)) h
     refine ⟨cells',?_,hv'⟩
     simp only [Instr.fill,hpl i _ hp]
     have h1:cx.cells.size=sz:=by rw [hn.1];exact hcond.1
     have h2:¬(off+cx.cells.size>cells.size):=by rw [hv.1,h1];omega
     rw [if_neg (by simp [h1];omega)]
     exact hf
    ·cases h
theorem zh0 (k:Nat):∀(ps:List (Nat×AV)) (n:Nat) (es:List (List AV)),zb8 k n ps=some es->es.length=ps.length
 | [],n,es,h=>by simp only [zb8] at h;injection h with h;subst h;rfl
 | (i,x)::ps,n,es,h=>by
  simp only [zb8] at h
  split at h
  ·cases hc:cellsOf x with
   | none=>simp [hc] at h
   | some cs =>
    simp only [hc] at h
    split at h
    ·obtain ⟨es',hes',rfl⟩:=Option.map_eq_some_iff.1 h
     simp [zh0 k ps (n+1) es' hes']
    ·cases h
  ·cases h
theorem zhg (k N:Nat):∀(ps:List (Nat×AV)) (n:Nat) (es:List (List AV)) (A:List AV),zb8 k n ps=some es->A.length=n*k->n+ps.length<=N ->
  (∀e,e∈es->e.length=k)/\es.length=ps.length /\
  zlq ((List.range N).map fun i=>(i*k,k)) (A++List.replicate ((N-n)*k) .any) ps=some (A++es.flatten++List.replicate ((N-n-ps.length)*k) .any)
 | [],n,es,A,h,hA,hN=>by
  simp only [zb8] at h
  injection h with h
  subst h
  exact ⟨fun e he=>by simp at he,rfl,by simp [zlq]⟩
 | (i,x)::ps,n,es,A,h,hA,hN=>by
  simp only [zb8] at h
  simp only [List.length_cons] at hN
  split at h
  ·rename_i hi
   subst hi
   cases hc:cellsOf x with
   | none=>simp [hc] at h
   | some cs =>
    simp only [hc] at h
    split at h
    ·rename_i hk
     obtain ⟨es',hes',rfl⟩:=Option.map_eq_some_iff.1 h
     obtain ⟨h1,h2,h3⟩:=zhg k N ps (i+1) es' (A++cs) hes' (by rw [List.length_append,hA,hk,Nat.add_mul];omega) (by omega)
     refine ⟨fun e he=>?_,by simp [h2],?_⟩
     ·rcases List.mem_cons.1 he with rfl | he
      ·exact hk
      ·exact h1 e he
     ·have hget:((List.range N).map fun i=>(i*k,k))[i]?=some (i*k,k):=by rw [List.getElem?_map,List.getElem?_range (by omega)];rfl
      have hNi:(N-i)*k=k+(N-(i+1))*k:=by
       rw [show N-i=(N-(i+1))+1 by omega,Nat.add_mul];omega
      have hspl:zdL (A++List.replicate ((N-i)*k) AV.any) (i*k) cs=A++cs++List.replicate ((N-(i+1))*k) AV.any:=by
       unfold zdL
       rw [List.take_append_of_le_length (by omega),List.take_of_length_le (by omega)]
       congr 1
       rw [List.drop_append,List.drop_of_length_le (by omega),List.nil_append,hA,hk,List.drop_replicate]
       congr 1
       omega
      simp only [zlq,hget,hc]
      rw [if_pos ⟨hk,by simp only [List.length_append,List.length_replicate,hA,hNi];omega⟩,hspl,h3]
      simp only [List.flatten_cons,List.append_assoc,List.length_cons]
      rw [show N-(i+1)-ps.length=N-i-(ps.length+1) from by omega]
    ·cases h
  ·cases h
theorem zfv.row {k:Nat} {es:List (List AV)} {cells:Array Value} (hk:∀e,e∈es->e.length=k) (h:zfv G H w es.flatten cells):RowVR G H w k es cells.toList:=by
 obtain ⟨h1,h2⟩:=zcr es hk
 refine ⟨by simp [h.1,h1],hk,fun x hx=>h.2.1 x (by simpa using hx),fun i j e c x hi hj hx=>h.2.2 _ c x (h2 i j e c hi hj) (by simpa using hx)⟩
theorem zhh {t:TypeId} {n k new:Nat} {e:TypeId} {ps:List (Nat×AV)} {cps:Array (Nat×Value)} {es:List (List AV)} (hk:zaF P t=some k) (he':zcy P t=some e)
  (hes:zb8 k 0 ps=some es) (hfit:za6 P t=true) (hlen:es.length=n) (hsmall:n*k<=1048576)
  (hpl:ps.length=cps.toList.length) (hq:∀(i:Nat) (q:Nat×AV) (cq:Nat×Value),ps[i]?=some q->cps.toList[i]?=some cq->q.1=cq.1/\VR G H w q.2 cq.2)
  (hp:Hp G H w) (hn:H new=none) :
  ∃cells',(Instr.buildSlice t n cps).run P w=.ok (.slice (some ⟨w.heap.size,0,none⟩) n n) (w.alloc (.cells cells' e))/\zfv G H w es.flatten cells'/\cells'.size=n*k/\(∀x,x∈es->x.length=k)/\0<k/\n*k<=1048576:=by
 obtain ⟨e',i,z,he,hi,hz,hzs,hpos,hbytes,hz1⟩:=zdd hfit
 have:e'=e:=by simpa [zcy,he] using he'
 subst this
 have hki:=zdg he hi hk
 have h0len:=zh0 k ps 0 es hes
 obtain ⟨h1,h2,h3⟩:=zhg k n ps 0 es [] hes (by simp) (by omega)
 simp only [List.nil_append,Nat.sub_zero] at h3
 rw [show n-ps.length=0 by omega] at h3
 simp only [Nat.zero_mul,List.replicate_zero,List.append_nil] at h3
 have hnk:n=0\/n*k≠0:=by
  rcases Nat.eq_zero_or_pos n with h | h
  ·exact .inl h
  ·exact .inr (by have:0<n*k:=Nat.mul_pos h (by omega);omega)
 obtain ⟨zc,hzc,hzr⟩:∃zc:Array Value,((do if n*i.size=0 then pure #[] else do pure (←zeroValue e').cells:Sem (Array Value)).run P w=.ok zc w) /\
   zfv G H w (List.replicate (n*k) .any) ((Array.range (n*i.size)).map (zc[· % zc.size]!)):=by
  by_cases h0:n*i.size=0
  ·refine ⟨#[],by simp [h0],?_⟩
   rw [h0,show n*k=0 by rw [←hki];exact h0]
   refine ⟨by simp,fun x hx=>by simp at hx,fun j c x hc=>by simp at hc⟩
  ·refine ⟨z.cells,by simp [h0,zeroValue,typeInfo,hi,hz],?_⟩
   refine ⟨by simp [hki],fun x hx=>?_,fun j c x hc hx=>?_⟩
   ·obtain ⟨m,_,rfl⟩:=Array.mem_map.1 hx
    have hlt:m % z.cells.size<z.cells.size:=Nat.mod_lt _ (by omega)
    rw [getElem!_pos z.cells _ hlt]
    exact hz1 _ (Array.getElem_mem hlt)
   ·have:c=.any:=by
     rw [List.getElem?_replicate] at hc
     split at hc
     ·injection hc with hc;exact hc.symm
     ·cases hc
    subst this
    exact .any x
 obtain ⟨cells',hf,hcv⟩:=zmf (G:=G) (H:=H) (w:=w) ((List.range n).map fun i=>(i*k,k)) (fun i=>some (i*k,k)) (fun i q hq=>by
  simp only [List.getElem?_map] at hq
  cases hr:(List.range n)[i]? with
  | none=>simp [hr] at hq
  | some m =>
   have hm:i<n:=by have:=(List.getElem?_eq_some_iff.1 hr).1;simpa using this
   rw [List.getElem?_range hm] at hr
   injection hr with hr
   subst hr
   simpa [List.getElem?_range hm] using hq) ps cps.toList (List.replicate (n*k) .any) es.flatten _ hpl hq hzr h3
 have hsz':cells'.size=n*k:=by rw [hcv.1,(zcr es h1).1,hlen]
 have hrow:RowVR G H w k es cells'.toList:=hcv.row h1
 have hn24:¬(n*k>16777216):=by omega
 have hrun:(Instr.buildSlice t n cps).run P w=.ok (.slice (some ⟨w.heap.size,0,none⟩) n n) (w.alloc (.cells cells' e')):=by
  simp only [hki] at hzc hf
  unfold Instr.buildSlice
  simp only [Sem.run_bind,run_underlying he,Result.andThen_ok,sizeOf,typeInfo,hi,Sem.run_pure,run_program,hki]
  simp only [show (2 ^ 24:Nat)=16777216 from rfl,if_neg hn24]
  by_cases h0:n*k=0
  ·have:zc=#[]:=by
    simp only [if_pos h0,Sem.run_pure] at hzc
    injection hzc with hzc
    exact hzc.symm
   subst this
   simp only [if_pos h0,Sem.run_bind,Sem.run_pure,Result.andThen_ok,hf,newRow,run_newObj]
   rfl
  ·simp only [if_neg h0,Sem.run_bind] at hzc
   cases hzv:(zeroValue e').run P w with
   | halt x w'=>simp only [hzv,Result.andThen_halt] at hzc;cases hzc
   | ok z' w' =>
    simp only [hzv,Result.andThen_ok,Sem.run_pure] at hzc
    injection hzc with hzc hw
    subst hzc hw
    simp only [if_neg h0,Sem.run_bind,hzv,Sem.run_pure,Result.andThen_ok,hf,newRow,run_newObj]
    rfl
 exact ⟨cells',hrun,hcv,hsz',h1,by omega,hsmall⟩
theorem zko {t:TypeId} {n k new:Nat} {e:TypeId} {ps:List (Nat×AV)} {cps:Array (Nat×Value)} {es:List (List AV)} (hk:zaF P t=some k) (he':zcy P t=some e)
  (hes:zb8 k 0 ps=some es) (hfit:za6 P t=true) (hlen:es.length=n) (hsmall:n*k<=1048576)
  (hpl:ps.length=cps.toList.length) (hq:∀(i:Nat) (q:Nat×AV) (cq:Nat×Value),ps[i]?=some q->cps.toList[i]?=some cq->q.1=cq.1/\VR G H w q.2 cq.2)
  (hp:Hp G H w) (hn:H new=none) :
  ∃v w' G',(Instr.buildSlice t n cps).run P w=.ok v w'/\Hp G' (H.set new (.row e n)) w'/\Ext G H w G' (H.set new (.row e n)) w'/\VR G' (H.set new (.row e n)) w' (.sl (.id new) k es) v:=by
 obtain ⟨cells',hrun,hcv,hsz',h1,hk0,_⟩:=zhh (w:=w) hk he' hes hfit hlen hsmall hpl hq hp hn
 have hrow:RowVR G H w k es cells'.toList:=hcv.row h1
 have hnm:n<=maxLen:=by
  unfold maxLen
  have:n*1<=n*k:=Nat.mul_le_mul_left _ (by omega)
  omega
 have:=zh9 (w':=w.alloc (.cells cells' e)) (e:=e) (k:=k) (v:=.slice (some ⟨w.heap.size,0,none⟩) n n) (es:=es) (xs:=cells'.toList) hp hn (by omega) (fun b hb=>heap_alloc_old w _ hb) (by simp) rfl rfl rfl
  (by rw [hlen];exact ⟨by simp [hsz'],.inr ⟨w.heap.size,n,cells',rfl,Nat.zero_le _,heap_alloc_new w _,Nat.le_refl _,hnm,hsz',by rw [List.take_of_length_le (by simp [hsz'])]⟩⟩)
  (fun b hb=>by simp [Value.ownBlock] at hb;omega) hrow
 rw [hlen] at this
 obtain ⟨q1,q2,q3⟩:=this
 exact ⟨_,_,_,hrun,q1,q2,q3⟩
theorem zqd (fs:List Field):∀(pl:List (Nat×Nat)) (w:World),fs.mapM (fun f=>(zar P f.type).map fun s=>(f.offset,s))=some pl ->
  (fs.mapM fun f=>(do pure (f.offset,←sizeOf f.type):Sem (Nat×Nat))).run P w=.ok pl w:=by
 induction fs with
 | nil=>intro pl w h;simp at h;subst h;simp
 | cons f fs ih =>
  intro pl w h
  rw [List.mapM_cons] at h
  cases hv:zar P f.type with
  | none=>simp [hv] at h
  | some s =>
   cases hr:fs.mapM (fun f=>(zar P f.type).map fun s=>(f.offset,s)) with
   | none=>simp [hv,hr] at h
   | some pl' =>
    simp only [hv,hr,Option.map_some,Option.bind_eq_bind,Option.bind_some,Option.pure_def] at h
    injection h with h
    subst h
    obtain ⟨i,hi,hsz⟩:=zdM hv
    have h1:(sizeOf f.type).run P w=.ok s w:=by simp [sizeOf,typeInfo,hi,hsz]
    rw [List.mapM_cons]
    simp only [Sem.run_bind,h1,Result.andThen_ok,Sem.run_pure,ih pl' w hr]
theorem zqe {t:TypeId} {ps:List (Nat×AV)} {cps:Array (Nat×Value)} {z cs:List AV} {pl:List (Nat×Nat)} (hz:zdK P t=some z) (hpl:places P t=some pl) (hf:zlq pl z ps=some cs)
  (hl:ps.length=cps.toList.length) (hq:∀(i:Nat) (q:Nat×AV) (cq:Nat×Value),ps[i]?=some q->cps.toList[i]?=some cq->q.1=cq.1/\VR G H w q.2 cq.2) :
  ∃v,(Instr.build t cps).run P w=.ok v w/\VR G H w (.agg cs) v:=by
 obtain ⟨zv,hzr,hzs,hz1,hzv⟩:=zmb hz
 have hcv:zfv G H w z zv.cells:=⟨hzs,hz1,hzv G H w⟩
 unfold places at hpl
 split at hpl
 ·rename_i fs hfs
  have hm:=zqd (P:=P) fs.toList pl w hpl
  have hm':(fs.mapM fun f=>(do pure (f.offset,←sizeOf f.type):Sem (Nat×Nat))).run P w=.ok pl.toArray w:=by
   rw [Array.mapM_eq_mapM_toList]
   simp only [Sem.run_map,hm,Result.andThen_ok]
  obtain ⟨cells',h1,h2⟩:=zmf (G:=G) (H:=H) (w:=w) pl (fun i=>pl.toArray[i]?) (fun i q hq=>by simpa using hq) ps cps.toList z cs zv.cells hl hq hcv hf
  refine ⟨.agg cells',?_,.agg cs cells' h2.1 h2.2.1 h2.2.2⟩
  unfold Instr.build
  simp only [Sem.run_bind,hzr,Result.andThen_ok,run_underlying hfs,hm',h1,Sem.run_pure]
 ·rename_i n e hfs
  cases hv:zar P e with
  | none=>simp [hv] at hpl
  | some s =>
   simp only [hv,Option.map_some] at hpl
   injection hpl with hpl
   subst hpl
   obtain ⟨i,hi,hsz⟩:=zdM hv
   obtain ⟨cells',h1,h2⟩:=zmf (G:=G) (H:=H) (w:=w) ((List.range n).map fun i=>(i*s,s)) (fun i=>some (i*s,s)) (fun i q hq=>by
    rw [List.getElem?_map] at hq
    cases hr:(List.range n)[i]? with
    | none=>simp [hr] at hq
    | some m =>
     have hm:i<n:=by have:=(List.getElem?_eq_some_iff.1 hr).1;simpa using this
     rw [List.getElem?_range hm] at hr
     injection hr with hr
     subst hr
     simpa [List.getElem?_range hm] using hq) ps cps.toList z cs zv.cells hl hq hcv hf
   refine ⟨.agg cells',?_,.agg cs cells' h2.1 h2.2.1 h2.2.2⟩
   unfold Instr.build
   simp only [Sem.run_bind,hzr,Result.andThen_ok,run_underlying hfs,sizeOf,typeInfo,hi,Sem.run_pure,run_program,hsz,h1]
 ·cases hpl
end
end Go.AM
