/-
  The abstract machine: append, slice literals, struct literals; and all operations together.
  Conditions: none; it speaks of any program.
-/
import Derived.Test.YtchhkifidbkjcaaAmE
set_option linter.all false
namespace Go.AM
open Go Go.RowKit
section
variable {P:Program} {G:Gh} {H:zaa} {w:World}
theorem zdd {t:TypeId} (h:za6 P t=true):∃e i z,P.underlying t=some (.slice e)/\P.info? e=some i/\i.zero=some z/\z.cells.size=i.size/\0<i.size/\i.bytes<=1048576/\(∀x,x∈z.cells->x.oneCell'=true):=by
 unfold za6 at h
 split at h
 ·rename_i e he
  split at h
  ·rename_i i hi
   simp only [Bool.and_eq_true,decide_eq_true_eq] at h
   obtain ⟨⟨h1,h2⟩,h3⟩:=h
   split at h3
   ·rename_i z hz
    simp only [Bool.and_eq_true,beq_iff_eq] at h3
    exact ⟨e,i,z,he,hi,hz,h3.1,h2,h1,fun x hx=>Array.all_eq_true_iff_forall_mem.1 h3.2 x hx⟩
   ·cases h3
  ·cases h
 ·cases h
theorem zrf {t e:TypeId} {i:TypeInfo} {n:Nat} (he:P.underlying t=some (.slice e)) (hi:P.info? e=some i) (hb:i.bytes<=1048576) (h:zog P t n=true):n*i.bytes<=140737488355328/\n<=140737488355328:=by
 unfold zog at h
 simp only [he,hi,Bool.or_eq_true,Bool.and_eq_true,decide_eq_true_eq] at h
 rcases h with h | ⟨h1,h2⟩
 ·exact ⟨Nat.le_trans (Nat.mul_le_mul h hb) (by decide),by omega⟩
 ·exact ⟨h2,h1⟩
theorem zdg {t:TypeId} {e:TypeId} {i:TypeInfo} {k:Nat} (he:P.underlying t=some (.slice e)) (hi:P.info? e=some i) (h:zaF P t=some k):i.size=k:=by
 obtain ⟨e',i',a1,a2,a3,_⟩:=zdN h
 rw [he] at a1
 injection a1 with a1
 injection a1 with a1
 subst a1
 rw [hi] at a2
 injection a2 with a2
 rw [a2,a3]
theorem zfO {t ty e:TypeId} {i:TypeInfo} (he:P.underlying t=some (.slice e)) (hi:P.info? e=some i) (a b:Option Addr) (n cap c:Nat) (hc:n<=cap) :
  (Builtin.append_ #[t,t] ty #[.slice a n cap,.slice b 0 c]).run P w=.ok (.slice a n cap) w:=by
 cases a<;>cases b<;>simp [Builtin.append_,run_underlying he,sizeOf,typeInfo,hi,Builtin.lenOf,Builtin.firstCells,hc,loadCells,loadCellsFrom,storeCells]
theorem zgo {t ty e:TypeId} {i:TypeInfo} {z:Value} (he:P.underlying t=some (.slice e)) (hi:P.info? e=some i) (hz:i.zero=some z) (hzs:z.cells.size=i.size)
  (hb:i.bytes<=1048576) {v:Value} {n:Nat} {xs:List Value} (hown:w.ownsRow 0 e i.size v n xs)
  {a:Addr} {m c:Nat} {news:List Value} (hm:0<m) (hl:news.length=m*i.size) (hnews:∀j u,news[j]?=some u->w.cell? (a.add j)=some u) (h1:∀u,u∈news->u.oneCell'=true)
  (hsmall:(n+m)*i.bytes<=140737488355328/\n+m<=140737488355328) :
  ∃v' w',(Builtin.append_ #[t,t] ty #[v,.slice (some a) m c]).run P w=.ok v' w'/\w'.ownsRow 0 e i.size v' (n+m) (xs++news) /\
   w'.os=w.os/\w'.tape=w.tape/\w'.output=w.output/\w.heap.size<=w'.heap.size /\
   ((v.ownBlock=v'.ownBlock/\∀b,b<w.heap.size->some b≠v'.ownBlock->w'.heap[b]?=w.heap[b]?)\/(v'.ownBlock=some w.heap.size/\∀b,b<w.heap.size->w'.heap[b]?=w.heap[b]?)):=by
 have hlen:(xs++news).length=(n+m)*i.size:=by rw [List.length_append,hown.1,hl,Nat.add_mul]
 have hbytes:(n+m)*i.bytes<=140737488355328:=hsmall.1
 have hmax:n+m<=maxLen:=by have:=hsmall.2;unfold maxLen;omega
 have grown:∀(old:Nat),old<n+m ->
   (w.drew.alloc (.cells (xs.toArray++news.toArray++Builtin.zeroCells z.cells (grownCap w (n+m) old e-(n+m))) e)).ownsRow 0 e i.size
    (.slice (some ⟨w.heap.size,0,none⟩) (n+m) (grownCap w (n+m) old e)) (n+m) (xs++news):=fun old ho=>by
  have hge:=grownCap_ge w (n+m) old e
  have hcm:grownCap w (n+m) old e<=maxLen:=grownCap_le_maxLen w (n+m) old e hmax
  refine ⟨hlen,.inr ⟨w.heap.size,_,_,rfl,Nat.zero_le _,heap_alloc_new w.drew _,hge,hcm,?_,?_⟩⟩
  ·simp only [Array.size_append,List.size_toArray,size_zeroCells,hzs,hown.1,hl,←Nat.add_mul]
   congr 1
   omega
  ·simp only [Array.toList_append,List.append_assoc]
   rw [←List.append_assoc,←hlen]
   exact List.take_left
 have hgrown:∀o:Obj,∀b,b<w.heap.size->(w.drew.alloc o).heap[b]?=w.heap[b]?:=fun o b hb=>heap_alloc_old w.drew o hb
 rcases hown.2 with ⟨rfl,rfl⟩ | ⟨g,cap,cur,rfl,hbg,hg,hnc,hcm,hcs,htake⟩
 ·have hx:xs=[]:=List.eq_nil_of_length_eq_zero (by simpa using hown.1)
  subst hx
  have hr:=run_append_nil (P:=P) w t ty e i z he hi hz a m c news hl hnews (by omega) (by omega) (by have hb2:=hbytes;simp only [Nat.zero_add] at hb2;omega)
  have hgr:=grown 0 (by omega)
  simp only [Nat.zero_add,List.nil_append,Array.empty_append] at hgr ⊢
  exact ⟨_,_,hr,hgr,rfl,rfl,rfl,by simp,.inr ⟨rfl,hgrown _⟩⟩
 ·by_cases hroom:n+m<=cap
  ·have hfit:n*i.size+news.length<=cur.size:=by rw [hl,hcs,←Nat.add_mul];exact Nat.mul_le_mul_right _ hroom
   have hr:=run_append_room (P:=P) w t ty e i he hi g n cap cur hg a m c news hl hnews h1 hroom hfit
   refine ⟨_,_,hr,⟨hlen,.inr ⟨g,cap,_,rfl,hbg,setRow_heap w g cur _ e _ hg,hroom,hcm,?_,?_⟩⟩,rfl,rfl,rfl,by simp [World.setRow],.inl ⟨rfl,fun b _ hb=>setRow_other w g b _ (fun e=>hb (by rw [e];rfl))⟩⟩
   ·simp only [List.size_toArray,List.length_append,List.length_take,List.length_drop,Array.length_toList]
    omega
   ·rw [htake,←hlen]
    exact List.take_left
  ·have holds:∀j u,xs[j]?=some u->w.cell? ((⟨g,0,none⟩:Addr).add j)=some u:=hown.cells (g:=g) rfl
   have hr:=run_append_grow (P:=P) w t ty e i z he hi hz ⟨g,0,none⟩ n cap xs hown.1 holds a m c news hl hnews (by omega) (by omega) (growslice_fits (by omega) hbytes)
   exact ⟨_,_,hr,grown cap (by omega),rfl,rfl,rfl,by simp,.inr ⟨rfl,hgrown _⟩⟩
theorem zkm {t ty e:TypeId} {i:TypeInfo} {z:Value} (he:P.underlying t=some (.slice e)) (hi:P.info? e=some i) (hz:i.zero=some z) (hzs:z.cells.size=i.size)
  (hb:i.bytes<=1048576) {b0:Addr} {n:Nat} {xs:List Value} (hx:xs.length=n*i.size) (holds:∀j u,xs[j]?=some u->w.cell? (b0.add j)=some u)
  {a:Addr} {m c:Nat} {news:List Value} (hm:0<m) (hl:news.length=m*i.size) (hnews:∀j u,news[j]?=some u->w.cell? (a.add j)=some u)
  (hsmall:(n+m)*i.bytes<=140737488355328/\n+m<=140737488355328) :
  ∃v' w',(Builtin.append_ #[t,t] ty #[.slice (some b0) n n,.slice (some a) m c]).run P w=.ok v' w'/\w'.ownsRow 0 e i.size v' (n+m) (xs++news) /\
   w'.os=w.os/\w'.tape=w.tape/\w'.output=w.output/\w.heap.size<=w'.heap.size/\v'.ownBlock=some w.heap.size/\∀b,b<w.heap.size->w'.heap[b]?=w.heap[b]?:=by
 have hlen:(xs++news).length=(n+m)*i.size:=by rw [List.length_append,hx,hl,Nat.add_mul]
 have hbytes:(n+m)*i.bytes<=140737488355328:=hsmall.1
 have hmax:n+m<=maxLen:=by have:=hsmall.2;unfold maxLen;omega
 have hr:=run_append_grow (P:=P) w t ty e i z he hi hz b0 n n xs hx holds a m c news hl hnews (by omega) (by omega) (growslice_fits (by omega) hbytes)
 have hge:=grownCap_ge w (n+m) n e
 have hcm:grownCap w (n+m) n e<=maxLen:=grownCap_le_maxLen w (n+m) n e hmax
 refine ⟨_,_,hr,⟨hlen,.inr ⟨w.heap.size,_,_,rfl,Nat.zero_le _,heap_alloc_new w.drew _,hge,hcm,?_,?_⟩⟩,rfl,rfl,rfl,by simp,rfl,fun b hb=>heap_alloc_old w.drew _ hb⟩
 ·simp only [Array.size_append,List.size_toArray,size_zeroCells,hzs,hx,hl,←Nat.add_mul]
  congr 1
  omega
 ·simp only [Array.toList_append,List.append_assoc]
  rw [←List.append_assoc,←hlen]
  exact List.take_left
theorem zfC (e:TypeId) (k:Nat):w.ownsRow 0 e k (.slice none 0 0) 0 []:=World.ownsRow_nil w 0 e k
def zpe (P:Program) (G:Gh) (H:zaa) (w:World) (ts:Array TypeId) (ty:TypeId) (a b:Value) (r:AV) (wr:Option (Nat×Blk)):Prop :=
 ∃v w' G',(Builtin.append_ ts ty #[a,b]).run P w=.ok v w'/\Hp G' (H.patch wr) w'/\Ext G H w G' (H.patch wr) w'/\VR G' (H.patch wr) w' r v
theorem zcr {k:Nat}:∀(es:List (List AV)),(∀e,e∈es->e.length=k)->es.flatten.length=es.length*k/\∀(i j:Nat) (e:List AV) (c:AV),es[i]?=some e->e[j]?=some c->es.flatten[i*k+j]?=some c
 | [],_=>⟨by simp,fun i j e c h=>by simp at h⟩
 | e0::es,h=>by
  obtain ⟨h1,h2⟩:=zcr es (fun e he=>h e (by simp [he]))
  have h0:=h e0 (by simp)
  refine ⟨by simp only [List.flatten_cons,List.length_append,List.length_cons,h1,h0,Nat.add_mul];omega,fun i j e c hi hj=>?_⟩
  rw [List.flatten_cons]
  cases i with
  | zero =>
   simp at hi
   subst hi
   have:j<e0.length:=(List.getElem?_eq_some_iff.1 hj).1
   rw [List.getElem?_append_left (by omega)]
   simpa using hj
  | succ i =>
   rw [List.getElem?_append_right (by rw [h0,Nat.add_mul];omega),h0,show (i+1)*k+j-k=i*k+j by rw [Nat.add_mul];omega]
   exact h2 i j e c (by simpa using hi) hj
variable {w':World}
theorem zga (hp:Hp G H w) {new:Nat} (hn:H new=none) {b:Nat} {cs:List AV} {vs:Array Value} {ty:TypeId} (hb:∀b,b<w.heap.size->w'.heap[b]?=w.heap[b]?) (hs:w.heap.size<=w'.heap.size)
  (ho:w'.os=w.os) (ht:w'.tape=w.tape) (hu:w'.output=w.output) (hge:w.heap.size<=b) (hg:w'.heap[b]?=some (.cells vs ty (0,0)))
  (hl:cs.length<=vs.size) (h1:∀(j:Nat) (x:Value),j<cs.length->vs[j]?=some x->x.oneCell'=true)
  (hv:∀(j:Nat) (c:AV) (x:Value),cs[j]?=some c->vs[j]?=some x->VR G H w c x) :
  Hp (G.atC new b vs.size) (H.set new (.cells cs)) w'/\Ext G H w (G.atC new b vs.size) (H.set new (.cells cs)) w':=by
 have hφ:∀i,i≠new->(G.atC new b vs.size).φ i=G.φ i:=fun i h=>by simp [Gh.atC,Gh.atφ,h]
 have hφn:(G.atC new b vs.size).φ new=b:=by simp [Gh.atC,Gh.atφ]
 have hz:∀i,i≠new->(G.atC new b vs.size).sz i=G.sz i:=fun i h=>by simp [Gh.atC,h]
 have hzn:(G.atC new b vs.size).sz new=vs.size:=by simp [Gh.atC]
 have hH:∀i x,H i=some x->(H.set new (.cells cs)) i=some x:=fun i x h=>by rw [zaa.set_ne _ _ (zbk hn h)];exact h
 have E:Evo G H w (G.atC new b vs.size) (H.set new (.cells cs)) w':=by
  refine .of_grow hb (fun i x h=>⟨hH i x h,hφ i (zbk hn h),rfl,hz i (zbk hn h)⟩) (fun i x h=>?_)
  rcases zaa.set_cases h with ⟨rfl,rfl⟩ | ⟨_,h⟩
  ·exact .inr ⟨fun _ _=>by rw [hφn];exact hge,fun e n h=>by cases h⟩
  ·exact .inl h
 have hlt:∀i ds,H i=some (.cells ds)->G.φ i<w.heap.size:=fun i ds h=>hp.lt (.inl ⟨i,ds,h,rfl⟩)
 refine ⟨⟨fun i ds hi=>?_,fun i d n hi=>?_,fun i j ds es hi hj he=>?_,fun i j ds d n hi hj=>?_,fun i j d m d' n b hi hj h1 h2=>?_,fun i k p hi=>?_,fun i j k k' p q hi hj he=>?_,hp.lo_le hs⟩,⟨E,ho,ht,hu,hs,fun b hlt _=>hb b hlt,fun b' h=>?_⟩⟩
 ·rcases zaa.set_cases hi with ⟨rfl,h⟩ | ⟨hne,h⟩
  ·injection h with h
   subst h
   exact ⟨vs,ty,by rw [hφn];exact hg,⟨hl,hzn.symm⟩,h1,fun j c x hc hx=>(hv j c x hc hx).evo E⟩
  ·obtain ⟨us,tu,hg,hs,h1',hv'⟩:=hp.cells i ds h
   exact ⟨us,tu,by rw [hφ i hne,hb _ (hlt i ds h)];exact hg,⟨hs.1,by rw [hz i hne];exact hs.2⟩,h1',fun j c x hc hx=>(hv' j c x hc hx).evo E⟩
 ·rcases zaa.set_cases hi with ⟨rfl,h⟩ | ⟨hne,h⟩
  ·cases h
  ·obtain ⟨hz',ys,a1,a2⟩:=hp.rows i d n h
   rw [hz i hne]
   refine ⟨hz',ys,a1,a2.imp id ?_⟩
   rintro ⟨g,cap,cur,b1,b2,b3,b4⟩
   exact ⟨g,cap,cur,b1,b2,by rw [hb g (Array.getElem?_eq_some_iff.1 b3).1];exact b3,b4⟩
 ·rcases zaa.set_cases hi with ⟨rfl,_⟩ | ⟨hne,h⟩<;>rcases zaa.set_cases hj with ⟨rfl,_⟩ | ⟨hne',h'⟩
  ·rfl
  ·rw [hφn,hφ j hne'] at he
   have:=hlt j _ h'
   omega
  ·rw [hφn,hφ i hne] at he
   have:=hlt i _ h
   omega
  ·rw [hφ i hne,hφ j hne'] at he
   exact hp.inj i j _ _ h h' he
 ·rcases zaa.set_cases hj with ⟨_,h'⟩ | ⟨_,h'⟩
  ·cases h'
  ·rcases zaa.set_cases hi with ⟨rfl,_⟩ | ⟨hne,h⟩
   ·rw [hφn]
    intro e
    have:=hp.lt (.inr (.inl ⟨j,d,n,h',e⟩))
    omega
   ·rw [hφ i hne]
    exact hp.sep i j ds d n h h'
 ·rcases zaa.set_cases hi with ⟨_,h⟩ | ⟨_,h⟩
  ·cases h
  ·rcases zaa.set_cases hj with ⟨_,h'⟩ | ⟨_,h'⟩
   ·cases h'
   ·exact hp.own i j d m d' n b h h' h1 h2
 ·rcases zaa.set_cases hi with ⟨_,h⟩ | ⟨hne,h⟩
  ·cases h
  ·obtain ⟨o,ho,h2,h3⟩:=hp.objs i _ p h
   exact ⟨o,by rw [hφ i hne,hb _ (hp.lt (.inr (.inr ⟨i,_,p,h,rfl⟩)))];exact ho,h2,h3⟩
 ·rcases zaa.set_cases hi with ⟨_,h⟩ | ⟨hne,h⟩
  ·cases h
  ·rcases zaa.set_cases hj with ⟨_,h'⟩ | ⟨hne',h'⟩
   ·cases h'
   ·rw [hφ i hne,hφ j hne'] at he
    exact hp.oinj i j _ _ p q h h' he
 ·rcases h with ⟨i,ds,hi,rfl⟩ | ⟨i,d,n,hi,h⟩ | ⟨i,k,p,hi,rfl⟩
  ·rcases zaa.set_cases hi with ⟨rfl,_⟩ | ⟨hne,h⟩
   ·exact .inr (by rw [hφn];exact hge)
   ·exact .inl (.inl ⟨i,ds,h,(hφ i hne).symm⟩)
  ·rcases zaa.set_cases hi with ⟨_,h'⟩ | ⟨_,h'⟩
   ·cases h'
   ·exact .inl (.inr (.inl ⟨i,d,n,h',h⟩))
  ·rcases zaa.set_cases hi with ⟨_,h'⟩ | ⟨hne,h'⟩
   ·cases h'
   ·exact .inl (.inr (.inr ⟨i,_,p,h',(hφ i hne).symm⟩))
theorem zol {t ty:TypeId} {new k:Nat} {tg:Tag} {xs:List (List AV)} {b:Value} (hk:zaF P t=some k) (hfit:za6 P t=true) (hx0:xs≠[]) (hle:xs.length<=1048576) (hp:Hp G H w) (hn:H new=none) (hx:VR G H w (.sl tg k xs) b) :
  zpe P G H w #[t,t] ty (.slice none 0 0) b (.ms new 0 k xs.length xs.length) (some (new,.cells xs.flatten)):=by
 obtain ⟨e,it,z,he,hit,hzz,hzs,hpos,hb,hone⟩:=zdd hfit
 have hki:=zdg he hit hk
 have hk0:0<k:=by omega
 obtain ⟨ax,capx,news,rfl,hcapx,hrowx,_,hblkx⟩:=hx.row
 obtain ⟨bx,ox,rfl,_,_,hcx⟩:=hblkx hx0
 have hm0:0<xs.length:=List.length_pos_iff.2 hx0
 have hmk:0<xs.length*k:=Nat.mul_pos hm0 hk0
 have hlen:=hrowx.len
 have hle2:xs.length*it.bytes<=140737488355328:=Nat.le_trans (Nat.mul_le_mul hle hb) (by decide)
 obtain ⟨f1,f2⟩:=zcr xs hrowx.each
 have hr:=run_append_nil (P:=P) w t ty e it z he hit hzz ⟨bx,ox,none⟩ xs.length capx news (by rw [hlen,hki]) hcx (by omega) (by omega) (by omega)
 have hge:xs.length<=grownCap w xs.length 0 e:=grownCap_ge w xs.length 0 e
 have hsz:(news.toArray++Builtin.zeroCells z.cells (grownCap w xs.length 0 e-xs.length)).size=grownCap w xs.length 0 e*k:=by
  simp only [Array.size_append,List.size_toArray,size_zeroCells,hzs,hlen,hki,←Nat.add_mul]
  congr 1
  omega
 have hget:∀j,j<xs.length*k->(news.toArray++Builtin.zeroCells z.cells (grownCap w xs.length 0 e-xs.length))[j]?=news[j]?:=fun j hj=>by
  rw [Array.getElem?_append_left (by simp [hlen];omega)]
  simp
 have hge2:xs.length*k<=grownCap w xs.length 0 e*k:=Nat.mul_le_mul_right _ hge
 obtain ⟨q1,q2⟩:=zga (cs:=xs.flatten) (w':=w.drew.alloc (.cells (news.toArray++Builtin.zeroCells z.cells (grownCap w xs.length 0 e-xs.length)) e)) (ty:=e) hp hn (fun b hb=>heap_alloc_old w.drew _ hb) (by simp) rfl rfl rfl (Nat.le_refl _) (heap_alloc_new w.drew _) (by rw [hsz,f1];exact hge2) (fun j y hj hy=>by
  rw [f1] at hj
  rw [hget j hj] at hy
  exact hrowx.one y (List.mem_of_getElem? hy)) (fun j c y hc hy=>by
  have hj:=(List.getElem?_eq_some_iff.1 hc).1
  rw [f1] at hj
  rw [hget j hj] at hy
  have d1:j / k<xs.length:=Nat.div_lt_of_lt_mul (by rw [Nat.mul_comm];exact hj)
  have d2:j % k<k:=Nat.mod_lt _ hk0
  have d3:j / k*k+j % k=j:=by have:=Nat.div_add_mod j k;rw [Nat.mul_comm] at this;exact this
  have hj2:j % k<xs[j / k].length:=by rw [hrowx.each _ (List.getElem_mem d1)];exact d2
  have e1:=f2 (j / k) (j % k) xs[j / k] xs[j / k][j % k] (List.getElem?_eq_getElem d1) (List.getElem?_eq_getElem hj2)
  rw [d3,hc] at e1
  injection e1 with e1
  exact hrowx.vr (j / k) (j % k) xs[j / k] c y (List.getElem?_eq_getElem d1) (by rw [e1];exact List.getElem?_eq_getElem hj2) (by rw [d3];exact hy))
 refine ⟨_,_,_,hr,q1,q2,.ms new 0 k _ _ _ (grownCap w xs.length 0 e) (.inl ⟨_,zaa.set_same _ _ _⟩) (fun _=>by simp [Gh.atC,Gh.atφ]) (Nat.le_refl _) hge (fun _=>?_)⟩
 simp only [Gh.atC,if_true,Nat.zero_add]
 exact Nat.le_of_eq hsz.symm
theorem zom {t ty:TypeId} {new:Nat} {s x r:AV} {wr:Option (Nat×Blk)} {a b:Value} (h:zeQ P t new H s x=some (r,wr)) (hp:Hp G H w) (hn:H new=none)
  (hs:VR G H w s a) (hx:VR G H w x b):zpe P G H w #[t,t] ty a b r wr:=by
 unfold zeQ at h
 split at h
 case h_3=>cases h
 case h_2 k xs =>
  split at h
  case isFalse=>cases h
  rename_i hc
  obtain ⟨hfit,hk,hx0,hle⟩:=hc
  injection h with h
  injection h with h1 h2
  subst h1 h2
  cases hs
  exact zol hk hfit hx0 hle hp hn hx
 rename_i tg k es tx k' xs
 split at h
 case isFalse=>cases h
 rename_i hc
 obtain ⟨hfit,hsmall,hsz⟩:=hc
 obtain ⟨e,i,z,he,hi,hz,hzs,hpos,hbytes,_⟩:=zdd hfit
 have hsmall:=zrf he hi hbytes hsmall
 obtain ⟨ax,capx,news,rfl,hcapx,hrowx,_,hblkx⟩:=hx.row
 obtain ⟨as,caps,olds,rfl,hcaps,hrows,htag,hblks⟩:=hs.row
 have hkx:xs≠[]->k'=i.size:=fun hne=>by
  rcases hsz with h1 | h1
  ·exact (zdg he hi h1).symm
  ·exact absurd h1 hne
 have hempty:xs=[]->news=[]:=fun h0=>List.eq_nil_of_length_eq_zero (by rw [hrowx.len,h0];simp)
 cases tg with
 | no=>cases h
 | fr=>cases h
 | od=>cases h
 | nil =>
  simp only at h
  cases hk0:zaF P t with
  | none=>simp [hk0] at h
  | some k0 =>
   have hel:zcy P t=some e:=by simp [zcy,he]
   simp only [hk0,hel,Option.bind_some] at h
   injection h with h
   injection h with h1 h2
   subst h1 h2
   have hki:=zdg he hi hk0
   change Value.slice as es.length caps=.slice none 0 0 at htag
   injection htag with e1 e2 e3
   subst e1 e3
   have he0:es=[]:=List.eq_nil_of_length_eq_zero e2
   subst he0
   by_cases hx0:xs=[]
   ·subst hx0
    have:=hempty rfl
    subst this
    have hrun:=zfO (P:=P) (w:=w) (ty:=ty) he hi none ax 0 0 capx (Nat.le_refl _)
    obtain ⟨q1,q2,q3⟩:=zh9 (w':=w) (e:=e) (k:=k0) (v:=.slice none 0 0) (es:=[]) (xs:=[]) hp hn (by omega) (fun _ _=>rfl) (Nat.le_refl _) rfl rfl rfl (zfC e k0) (fun b hb=>by simp [Value.ownBlock] at hb) (.nil k0)
    exact ⟨_,w,_,by simpa using hrun,q1,q2,q3⟩
   ·obtain ⟨bx,ox,rfl,_,_,hcx⟩:=hblkx hx0
    have hkk:=hkx hx0
    have hmpos:0<xs.length:=List.length_pos_iff.2 hx0
    obtain ⟨v',w',hr,hown,ho,ht,hu,hss,hbl⟩:=zgo (P:=P) (ty:=ty) (c:=capx) he hi hz hzs hbytes (zfC e i.size) hmpos (by rw [hrowx.len,hkk]) hcx hrowx.one (by simpa using hsmall)
    simp only [Nat.zero_add,List.nil_append] at hown
    have hbl':(∀b,b<w.heap.size->w'.heap[b]?=w.heap[b]?)/\∀b,v'.ownBlock=some b->w.heap.size<=b:=by
     rcases hbl with ⟨h1,h2⟩ | ⟨h1,h2⟩
     ·refine ⟨fun b hb=>h2 b hb (fun e=>by rw [←h1] at e;cases e),fun b hb=>by rw [←h1] at hb;cases hb⟩
     ·exact ⟨h2,fun b hb=>by rw [h1] at hb;injection hb with hb;omega⟩
    obtain ⟨q1,q2,q3⟩:=zh9 (w':=w') (e:=e) (k:=k0) (v:=v') (es:=xs) (xs:=news) hp hn (by omega) hbl'.1 hss ho ht hu (by rw [←hki];exact hown) hbl'.2 (by rw [←hki,←hkk];exact hrowx)
    exact ⟨_,w',_,hr,q1,q2,q3⟩
 | clip =>
  simp only at h
  split at h
  case isFalse=>cases h
  rename_i hcl
  obtain ⟨hks,hx0⟩:=hcl
  have hel:zcy P t=some e:=by simp [zcy,he]
  simp only [hel,Option.bind_some] at h
  injection h with h
  injection h with h1 h2
  subst h1 h2
  have hki:=zdg he hi hks
  obtain ⟨bx,ox,rfl,_,_,hcx⟩:=hblkx hx0
  have hkk:=hkx hx0
  have hmpos:0<xs.length:=List.length_pos_iff.2 hx0
  change caps=es.length at htag
  subst htag
  have key:∃v' w',(Builtin.append_ #[t,t] ty #[.slice as es.length es.length,.slice (some ⟨bx,ox,none⟩) xs.length capx]).run P w=.ok v' w'/\w'.ownsRow 0 e i.size v' (es.length+xs.length) (olds++news) /\
    w'.os=w.os/\w'.tape=w.tape/\w'.output=w.output/\w.heap.size<=w'.heap.size/\v'.ownBlock=some w.heap.size/\∀b,b<w.heap.size->w'.heap[b]?=w.heap[b]?:=by
   cases as with
   | none =>
    have he0:es=[]:=by
     rcases Nat.eq_zero_or_pos es.length with h0 | h0
     ·exact List.eq_nil_of_length_eq_zero h0
     ·obtain ⟨b,o,h1,_⟩:=hblks (fun e=>by subst e;simp at h0)
      cases h1
    subst he0
    have hol:olds=[]:=List.eq_nil_of_length_eq_zero (by rw [hrows.len];simp)
    subst hol
    obtain ⟨v',w',hr,hown,ho,ht,hu,hss,hbl⟩:=zgo (P:=P) (ty:=ty) (c:=capx) he hi hz hzs hbytes (zfC (w:=w) e i.size) hmpos (by rw [hrowx.len,hkk]) hcx hrowx.one (by simpa using hsmall)
    rcases hbl with ⟨h1,h2⟩ | ⟨h1,h2⟩
    ·rcases hown.2 with ⟨_,h3⟩ | ⟨g,cap,cur,rfl,_⟩
     ·omega
     ·cases h1
    ·exact ⟨v',w',hr,hown,ho,ht,hu,hss,h1,h2⟩
   | some b0 =>
    refine zkm (P:=P) he hi hz hzs hbytes (by rw [hrows.len,hki]) (fun j u hu=>?_) hmpos (by rw [hrowx.len,hkk]) hcx hsmall
    have hne:es≠[]:=fun e=>by
     subst e
     have:olds=[]:=List.eq_nil_of_length_eq_zero (by rw [hrows.len];simp)
     subst this
     simp at hu
    obtain ⟨b,o,h1,_,_,hc⟩:=hblks hne
    injection h1 with h1
    subst h1
    exact hc j u hu
  obtain ⟨v',w',hr,hown,ho,ht,hu,hss,hnb,hbl⟩:=key
  have:=zh9 (w':=w') (e:=e) (k:=k) (v:=v') (es:=es++xs) (xs:=olds++news) hp hn (by omega) hbl hss ho ht hu (by rw [←hki,List.length_append];exact hown) (fun b hb=>by rw [hnb] at hb;injection hb with hb;omega)
   (hrows.append (by rw [←hki,←hkk];exact hrowx))
  rw [List.length_append] at this
  obtain ⟨q1,q2,q3⟩:=this
  exact ⟨_,w',_,hr,q1,q2,q3⟩
 | id τ =>
  simp only at h
  split at h
  ·rename_i e' n hτ
   split at h
   case isFalse=>cases h
   rename_i hcl
   obtain ⟨hks,hel,hnl⟩:=hcl
   have hel':zcy P t=some e:=by simp [zcy,he]
   rw [hel'] at hel
   injection hel with hel
   subst hel
   injection h with h
   injection h with h1 h2
   subst h1 h2
   have hki:=zdg he hi hks
   obtain ⟨e'',n',hn',hszk,_,hv⟩:=htag
   rw [hτ] at hn'
   injection hn' with hn'
   injection hn' with hn0 hn'
   subst hn' hn0
   have hσ:=hv hnl
   obtain ⟨hz',xs0,hown0⟩:=hp.rows τ e n hτ
   by_cases hx0:xs=[]
   ·subst hx0
    have hrun:=zfO (P:=P) (w:=w) (ty:=ty) he hi as ax es.length caps capx hcaps
    have hH:H.patch (some (τ,.row e (n+0)))=H:=by
     funext j
     show (H.set τ _) j=H j
     by_cases hj:j=τ
     ·subst hj;rw [zaa.set_same,hτ];rfl
     ·rw [zaa.set_ne _ _ hj]
    refine ⟨_,w,G,by simpa using hrun,?_,?_,?_⟩<;>simp only [List.length_nil,hH,List.append_nil]
    ·exact hp
    ·exact .refl _ _ _
    ·exact hs
   ·obtain ⟨bx,ox,rfl,_,_,hcx⟩:=hblkx hx0
    have hkk:=hkx hx0
    have hmpos:0<xs.length:=List.length_pos_iff.2 hx0
    rw [hσ]
    have hown1:w.ownsRow 0 e i.size (G.σ τ) n xs0:=by rw [hki,←hszk];exact hown0
    obtain ⟨v',w',hr,hown,ho,ht,hu,hss,hbl⟩:=zgo (P:=P) (ty:=ty) (c:=capx) he hi hz hzs hbytes hown1 hmpos (by rw [hrowx.len,hkk]) hcx hrowx.one (by rw [hnl];exact hsmall)
    have hrow0:RowVR G H w k es xs0:=by
     have hlen0:xs0.length=es.length*k:=by rw [hown0.1,hszk,hnl]
     have hlo:=hrows.len
     by_cases hes:es=[]
     ·subst hes
      have:xs0=[]:=List.eq_nil_of_length_eq_zero (by rw [hlen0];simp)
      rw [this]
      exact .nil k
     ·obtain ⟨b,o,h1,_,_,hc⟩:=hblks hes
      have:xs0=olds:=by
       apply List.ext_getElem?
       intro j
       by_cases hj:j<es.length*k
       ·have e1:xs0[j]?=some (xs0[j]'(by omega)):=List.getElem?_eq_getElem _
        have e2:olds[j]?=some (olds[j]'(by omega)):=List.getElem?_eq_getElem _
        have c2:=hc j _ e2
        have hblk:(G.σ τ).ownBlock=some b:=by rw [←hσ,h1];rfl
        have c1:=hown0.cells hblk j _ e1
        rcases hown0.2 with ⟨h3,_⟩ | ⟨g,cap,cur,h3,_⟩
        ·rw [←hσ,h1] at h3
         cases h3
        ·rw [←hσ,h1] at h3
         injection h3 with h3
         injection h3 with h3
         injection h3 with h4 h5
         subst h4 h5
         rw [c1] at c2
         rw [e1,e2,c2]
       ·rw [List.getElem?_eq_none (by omega),List.getElem?_eq_none (by omega)]
      rw [this]
      exact hrows
    have hkz:0<k:=by omega
    have:=ztl (w':=w') (v':=v') (es:=es++xs) (zs:=xs0) (ys:=news) hp hτ (by rw [List.length_append];omega) hown0 hz' hss ho ht hu (by rw [hszk,←hki,List.length_append,←hnl];exact hown)
     (by rw [hszk];exact hrow0.append (by rw [←hki,←hkk];exact hrowx)) hbl
    rw [List.length_append,←hnl,hszk] at this
    obtain ⟨q1,q2,q3⟩:=this
    exact ⟨_,w',_,hr,q1,q2,q3⟩
  ·cases h
end
end Go.AM
