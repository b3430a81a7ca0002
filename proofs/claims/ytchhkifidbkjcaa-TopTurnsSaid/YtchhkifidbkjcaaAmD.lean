/-
  The abstract machine: each operation of the model does what the abstract one does.
  Conditions: none; it speaks of any program.
-/
import Derived.Test.YtchhkifidbkjcaaAmC
import Derived.Laws.StructEq
set_option linter.all false
namespace Go.AM
open Go Go.RowKit
def zre (P:Program) (G:Gh) (H:zaa) (w:World) (o:Oper) (cρ:Operand->Value) (r:AV) (wr:Option (Nat×Blk)):Prop :=
 ∃v w' G',((execOp cρ o).run P w=.ok (.value v) w'\/((execOp cρ o).run P w=.ok .skip w'/\v=undef)) /\
  Hp G' (H.patch wr) w'/\Ext G H w G' (H.patch wr) w'/\VR G' (H.patch wr) w' r v
section
variable {P:Program} {G:Gh} {H:zaa} {w:World}
theorem zre.same {o:Oper} {cρ:Operand->Value} {r:AV} (hp:Hp G H w) {v:Value} (hr:(execOp cρ o).run P w=.ok (.value v) w) (hv:VR G H w r v):zre P G H w o cρ r none :=
 ⟨v,w,G,.inl hr,hp,.refl _ _ _,hv⟩
theorem zuN (x:Value):VR G H w (cv x) x:=by
 unfold cv
 split
 ·exact .sl .nil 0 [] none 0 0 0 (fun _ _=>undef) (by simp) (fun e h=>by simp at h) (fun h=>absurd rfl h) (fun i j e c h=>by simp at h) (fun i j e c h=>by simp at h) rfl
 ·exact .v x
theorem zjd {x:AV} {v:Value} {cs:List AV} (h:VR G H w x v) (hc:cellsOf x=some cs) :
  v.cells.size=cs.length/\(∀y,y∈v.cells->y.oneCell'=true)/\∀(j:Nat) (c:AV) (y:Value),cs[j]?=some c->v.cells[j]?=some y->VR G H w c y:=by
 have one:∀(x:AV) (v:Value),VR G H w x v->v.cells=#[v]->v.oneCell'=true ->
   v.cells.size=[x].length/\(∀y,y∈v.cells->y.oneCell'=true)/\∀(j:Nat) (c:AV) (y:Value),[x][j]?=some c->v.cells[j]?=some y->VR G H w c y:=fun x v hx hv h1=>by
  rw [hv]
  refine ⟨rfl,fun y hy=>?_,fun j c y hc hy=>?_⟩
  ·have:y=v:=by simpa using hy
   subst this
   exact h1
  ·cases j with
   | zero =>
    simp at hc hy
    subst hc hy
    exact hx
   | succ j=>simp at hc
 cases h with
 | any=>cases hc
 | v =>
  simp only [cellsOf] at hc
  split at hc
  ·rename_i h1
   injection hc with hc
   subst hc
   exact one _ _ (.v v) (by cases v<;>first | rfl | (simp [Value.oneCell'] at h1)) h1
  ·cases hc
 | agg cs' vs hl h1 hv =>
  simp only [cellsOf] at hc
  injection hc with hc
  subst hc
  exact ⟨hl,h1,hv⟩
 | tup=>cases hc
 | ptr i off h =>
  simp only [cellsOf] at hc
  injection hc with hc
  subst hc
  exact one _ _ (.ptr i off h) rfl rfl
 | ms i off k n c a cap h ha hn hc' hz =>
  simp only [cellsOf] at hc
  injection hc with hc
  subst hc
  exact one _ _ (.ms i off k n c a cap h ha hn hc' hz) rfl rfl
 | sl t k es a cap b o f h1 h2 h3 h4 h5 h6 =>
  simp only [cellsOf] at hc
  injection hc with hc
  subst hc
  exact one _ _ (.sl t k es a cap b o f h1 h2 h3 h4 h5 h6) rfl rfl
 | ep ds b o f h1 h2 h3 =>
  simp only [cellsOf] at hc
  injection hc with hc
  subst hc
  exact one _ _ (.ep ds b o f h1 h2 h3) rfl rfl
 | fn f a b v1 v2 h1 h2 h3 h4 =>
  simp only [cellsOf] at hc
  injection hc with hc
  subst hc
  exact one _ _ (.fn f a b v1 v2 h1 h2 h3 h4) rfl rfl
 | yld i ts cs q p h hv =>
  simp only [cellsOf] at hc
  injection hc with hc
  subst hc
  exact one _ _ (.yld i ts cs q p h hv) rfl rfl
 | mp i k p h =>
  simp only [cellsOf] at hc
  injection hc with hc
  subst hc
  exact one _ _ (.mp i k p h) rfl rfl
 | it j i a k k' p p' hj hi ha =>
  simp only [cellsOf] at hc
  injection hc with hc
  subst hc
  exact one _ _ (.it j i a k k' p p' hj hi ha) rfl rfl
theorem zmb {t:TypeId} {cs:List AV} (h:zdK P t=some cs):∃z,(∀w,(zeroValue t).run P w=.ok z w)/\z.cells.size=cs.length/\(∀x,x∈z.cells->x.oneCell'=true) /\
  ∀(G:Gh) (H:zaa) (w:World) (j:Nat) (c:AV) (x:Value),cs[j]?=some c->z.cells[j]?=some x->VR G H w c x:=by
 unfold zdK at h
 cases hi:P.info? t with
 | none=>simp [hi] at h
 | some i =>
  cases hz:i.zero with
  | none=>simp [hi,hz] at h
  | some z =>
   simp only [hi,hz,Option.bind_some] at h
   split at h
   ·rename_i h1
    injection h with h
    subst h
    refine ⟨z,fun w=>by simp [zeroValue,typeInfo,hi,hz],by simp,fun x hx=>?_,fun G H w j c x hc hx=>?_⟩
    ·exact Array.all_eq_true_iff_forall_mem.1 h1 x hx
    ·simp only [List.getElem?_map,Array.getElem?_toList,hx,Option.map_some] at hc
     injection hc with hc
     subst hc
     exact zuN x
   ·cases h
theorem zdM {t:TypeId} {k:Nat} (h:zar P t=some k):∃i,P.info? t=some i/\i.size=k:=by
 unfold zar at h
 cases hi:P.info? t with
 | none=>simp [hi] at h
 | some i=>exact ⟨i,rfl,by simpa [hi] using h⟩
def zib (G:Gh) (H:zaa) (w:World) (b o:Nat) (cs:List AV):Prop :=
 ∃f:Nat->Value,∀(j:Nat) (c:AV),cs[j]?=some c->w.cell? ⟨b,o+j,none⟩=some (f j)/\(f j).oneCell'=true/\VR G H w c (f j)
theorem zib.drop {b o:Nat} {cs:List AV} (h:zib G H w b o cs) (k:Nat):zib G H w b (o+k) (cs.drop k):=by
 obtain ⟨f,hf⟩:=h
 refine ⟨fun j=>f (k+j),fun j c hc=>?_⟩
 rw [List.getElem?_drop] at hc
 have:=hf (k+j) c hc
 rwa [←Nat.add_assoc] at this
theorem Hp.range (hp:Hp G H w) {i:Nat} {cs:List AV} (h:H i=some (.cells cs)):zib G H w (G.φ i) 0 cs:=by
 obtain ⟨vs,ty,hg,hs,h1,hv⟩:=hp.cells i cs h
 refine ⟨fun j=>vs.getD j undef,fun j c hc=>?_⟩
 have hj:j<vs.size:=by have:=(List.getElem?_eq_some_iff.1 hc).1;omega
 have hx:vs[j]?=some vs[j]:=Array.getElem?_eq_getElem hj
 simp only [Array.getD_eq_getD_getElem?,hx,Option.getD_some,Nat.zero_add]
 refine ⟨?_,h1 j _ (List.getElem?_eq_some_iff.1 hc).1 hx,hv j c _ hc hx⟩
 rw [cell_of_row w _ j vs ty (0,0) hg,hx]
theorem zlG {t:TypeId} (h:scalar P t=true):∃d,P.underlying t=some d/\d.isRow=false:=by
 unfold scalar at h
 split at h
 ·cases h
 ·cases h
 ·cases h
 ·rename_i d h1 h2 hd
  refine ⟨d,hd,?_⟩
  cases d<;>first | rfl | (exact absurd hd (by simp_all))
theorem ziv {t:TypeId} {d:TypeDesc} (hd:P.underlying t=some d):(isAgg t).run P w=.ok d.isRow w:=by
 unfold isAgg
 rw [Sem.run_bind,run_underlying hd w]
 cases d<;>simp [TypeDesc.isRow]
theorem zkj {t:TypeId} {cs:List AV} {off b o:Nat} {r:AV} (h:zdZ P t cs off=some r) (hr:zib G H w b o cs) :
  ∃v,(loadVar t ⟨b,o+off,none⟩).run P w=.ok v w/\VR G H w r v:=by
 unfold zdZ at h
 obtain ⟨f,hf⟩:=hr
 cases ha:zax P t with
 | some k =>
  simp only [ha] at h
  split at h
  ·rename_i hle
   injection h with h
   subst h
   unfold zax at ha
   have hd:∃d,P.underlying t=some d/\d.isRow=true/\zar P t=some k:=by
    split at ha
    ·rename_i d hd;exact ⟨_,hd,rfl,ha⟩
    ·rename_i d hd;exact ⟨_,hd,rfl,ha⟩
    ·cases ha
   obtain ⟨d,hd,hrow,hv⟩:=hd
   have hcell:∀j,j<k->∃c,cs[off+j]?=some c/\w.cell? ⟨b,o+off+j,none⟩=some (f (off+j))/\(f (off+j)).oneCell'=true/\VR G H w c (f (off+j)):=fun j hj=>by
    have hlt:off+j<cs.length:=by omega
    have:=hf (off+j) cs[off+j] (List.getElem?_eq_getElem hlt)
    rw [←Nat.add_assoc] at this
    exact ⟨_,List.getElem?_eq_getElem hlt,this⟩
   refine ⟨_,run_loadVar_mid w b (o+off) t ((List.range k).map fun j=>f (off+j)) d (fun j v hj=>?_) hd hrow (by simpa [zar] using hv),.agg _ _ (by simp;omega) (fun x hx=>?_) (fun j c x hc hx=>?_)⟩
   ·have hjk:j<k:=by have:=(List.getElem?_eq_some_iff.1 hj).1;simpa using this
    obtain ⟨c,_,h1,_⟩:=hcell j hjk
    simp [hjk] at hj
    rw [h1,hj]
   ·simp only [List.mem_toArray,List.mem_map,List.mem_range] at hx
    obtain ⟨j,hj,rfl⟩:=hx
    exact (hcell j hj).elim fun c h=>h.2.2.1
   ·rw [List.getElem?_take,List.getElem?_drop] at hc
    split at hc
    ·rename_i hj
     obtain ⟨c',h1,_,_,h2⟩:=hcell j hj
     rw [h1] at hc
     injection hc with hc
     subst hc
     simp [hj] at hx
     subst hx
     exact h2
    ·cases hc
  ·cases h
 | none =>
  simp only [ha] at h
  split at h
  ·rename_i hs
   obtain ⟨d,hd,hrow⟩:=zlG hs
   have:=hf off r h
   rw [←Nat.add_zero (o+off)] at this
   refine ⟨f off,?_,this.2.2⟩
   have hagg:(isAgg t).run P w=.ok false w:=by
    rw [ziv hd,hrow]
   simp only [Nat.add_zero] at this
   simp [loadVar,hagg,this.1]
  ·cases h
theorem zlH {t:TypeId} {cs:List AV} {vs:Array Value} {off:Nat} {r:AV} (h:zdZ P t cs off=some r) (hv:VR G H w (.agg cs) (.agg vs)) :
  ∃v,(part t vs off).run P w=.ok v w/\VR G H w r v:=by
 cases hv with
 | agg _ _ hl h1 hv =>
  unfold zdZ at h
  cases ha:zax P t with
  | some k =>
   simp only [ha] at h
   split at h
   ·rename_i hle
    injection h with h
    subst h
    unfold zax at ha
    have hd:∃d,P.underlying t=some d/\d.isRow=true/\zar P t=some k:=by
     split at ha
     ·rename_i d hd;exact ⟨_,hd,rfl,ha⟩
     ·rename_i d hd;exact ⟨_,hd,rfl,ha⟩
     ·cases ha
    obtain ⟨d,hd,hrow,hvs⟩:=hd
    obtain ⟨i,hi,hsz⟩:=zdM hvs
    refine ⟨.agg (vs.extract off (off+k)),?_,.agg _ _ (by simp;omega) (fun x hx=>?_) (fun j c x hc hx=>?_)⟩
    ·unfold part
     rw [Sem.run_bind,ziv hd,hrow]
     simp [sizeOf,typeInfo,hi,hsz]
    ·obtain ⟨j,hj⟩:=Array.getElem?_of_mem hx
     rw [Array.getElem?_extract] at hj
     split at hj
     ·exact h1 x (Array.mem_of_getElem? hj)
     ·cases hj
    ·rw [List.getElem?_take,List.getElem?_drop] at hc
     split at hc
     ·rename_i hj
      rw [Array.getElem?_extract] at hx
      split at hx
      ·exact hv _ c x hc hx
      ·cases hx
     ·cases hc
   ·cases h
  | none =>
   simp only [ha] at h
   split at h
   ·rename_i hs
    obtain ⟨d,hd,hrow⟩:=zlG hs
    have hlt:off<vs.size:=by have:=(List.getElem?_eq_some_iff.1 h).1;omega
    have hx:vs[off]?=some vs[off]:=Array.getElem?_eq_getElem hlt
    refine ⟨vs[off],?_,hv off r _ h hx⟩
    unfold part
    rw [Sem.run_bind,ziv hd,hrow]
    simp [hx]
   ·cases h
theorem znf {s f k:Nat} (h:zaH P s f=some k):∃fs fd n,P.underlying s=some (.struct fs)/\fs[f]?=some fd/\fd.offset=k/\zar P fd.type=some (n+1):=by
 unfold zaH at h
 split at h
 ·rename_i fs hfs
  cases hf:fs[f]? with
  | none=>simp [hf] at h
  | some fd =>
   simp only [hf,Option.bind_some] at h
   split at h
   ·rename_i n hn
    injection h with h
    exact ⟨fs,fd,n,hfs,hf,h,hn⟩
   ·cases h
 ·cases h
theorem zkk {s f k b o:Nat} (h:zaH P s f=some k):(Instr.fieldAt s (.pointer (some ⟨b,o,none⟩)) f).run P w=.ok (.pointer (some ⟨b,o+k,none⟩)) w:=by
 obtain ⟨fs,fd,n,hs,hf,rfl,hv⟩:=znf h
 obtain ⟨i,hi,hsz⟩:=zdM hv
 simp [Instr.fieldAt,run_underlying hs,hf,Instr.sureAddr,fieldPlace,sizeOf,typeInfo,hi,hsz,Addr.add_mid]
theorem zjY {cs:List AV} {v:Value} (h:VR G H w (.ep cs) v):∃b o,v=.pointer (some ⟨b,o,none⟩)/\zib G H w b o cs/\(cs≠[]->zis G H b (o+cs.length)):=by
 cases h with
 | ep _ b o f ha hc hv=>exact ⟨b,o,rfl,⟨f,fun j c hj=>⟨(hc j c hj).1,(hc j c hj).2,hv j c hj⟩⟩,ha⟩
theorem zmc {cs:List AV} {b o:Nat} (h:zib G H w b o cs) (hf:cs≠[]->zis G H b (o+cs.length)):VR G H w (.ep cs) (.pointer (some ⟨b,o,none⟩)):=by
 obtain ⟨f,hr⟩:=h
 exact .ep cs b o f hf (fun j c hj=>⟨(hr j c hj).1,(hr j c hj).2.1⟩) (fun j c hj=>(hr j c hj).2.2)
theorem zis.le {b m n:Nat} (h:zis G H b n) (hle:m<=n):zis G H b m:=⟨h.1,fun i d k hi hb=>Nat.le_trans hle (h.2 i d k hi hb)⟩
theorem zuO {t:Tag} {k n:Nat} {es:List (List AV)} {e:List AV} {v:Value} (h:VR G H w (.sl t k es) v) (hn:es[n]?=some e) :
  ∃b o cap,v=.slice (some ⟨b,o,none⟩) es.length cap/\VR G H w (.ep e) (.pointer (some ⟨b,o+n*k,none⟩)):=by
 cases h with
 | sl _ _ _ a cap b o f hcap hs ha hc hv ht =>
  have hlt:n<es.length:=(List.getElem?_eq_some_iff.1 hn).1
  obtain ⟨hpos,rfl,hfr⟩:=ha (fun e=>by subst e;simp at hlt)
  refine ⟨b,o,cap,rfl,zmc ⟨fun j=>f n j,fun j c hj=>⟨(hc n j e c hn hj).1,(hc n j e c hn hj).2,hv n j e c hn hj⟩⟩ fun _=>hfr.le ?_⟩
  rw [hs e (List.mem_of_getElem? hn)]
  have h3:(n+1)*k<=es.length*k:=Nat.mul_le_mul_right _ hlt
  rw [Nat.add_mul] at h3
  omega
theorem ziw {x:AV} {v:Value} {n:Nat} (h:zfM x=some n) (hv:VR G H w x v):∃k,v=.int k n:=by
 unfold zfM at h
 split at h
 ·rename_i k m
  split at h
  ·rename_i h0
   injection h with h
   cases hv
   refine ⟨k,?_⟩
   congr 1
   omega
  ·cases h
 ·cases h
theorem zdN {t:TypeId} {k:Nat} (h:zaF P t=some k):∃e i,P.underlying t=some (.slice e)/\P.info? e=some i/\i.size=k/\0<k:=by
 unfold zaF at h
 split at h
 ·rename_i e he
  split at h
  ·rename_i n hn
   obtain ⟨i,hi,hsz⟩:=zdM hn
   injection h with h
   exact ⟨e,i,he,hi,by omega,by omega⟩
  ·cases h
 ·cases h
theorem zic {t:TypeId} (h:isSlice P t=true):∃e,P.underlying t=some (.slice e):=by
 unfold isSlice at h
 split at h
 ·rename_i e he;exact ⟨e,he⟩
 ·cases h
theorem zng {t:TypeId} {q:Nat×Nat} (h:zma P t=some q):∃e i,P.underlying t=some (.array q.1 e)/\P.info? e=some i/\i.size=q.2:=by
 unfold zma at h
 split at h
 ·rename_i n e he
  cases hv:zar P e with
  | none=>simp [hv] at h
  | some s =>
   simp only [hv,Option.map_some] at h
   injection h with h
   subst h
   obtain ⟨i,hi,hsz⟩:=zdM hv
   exact ⟨e,i,he,hi,hsz⟩
 ·cases h
end
end Go.AM
