/-
  An abstract machine for the walks: values whose slices are lists, no tape, no order. This text: its values, its heap, and how they stand for the model's values and worlds.
  Conditions: none; it speaks of any program.
-/
import Derived.WalkKit
import Derived.RangeFuncRecord
import Derived.OrdersIn
import Derived.Maps.AppendAt
import Derived.Deep.MidRow
set_option linter.all false
namespace Go.AM
open Go Go.RowKit
inductive Tag where
 | no | clip | nil | id (n:Nat) | fr | od
 deriving DecidableEq
inductive AV where
 | any
 | v (x:Value)
 | agg (cs:List AV)
 | tup (vs:List AV)
 | ptr (i off:Nat)
 | ms (i off k n c:Nat)
 | sl (t:Tag) (k:Nat) (es:List (List AV))
 | ep (cs:List AV)
 | fn (f:Fn) (first cap:List AV)
 | yld (i:Nat) (ts:List Nat) (cs:List AV)
 | mp (i:Nat)
 | it (j i a:Nat)
 deriving Inhabited
inductive Blk where
 | cells (cs:List AV)
 | row (e:TypeId) (n:Nat)
 | obj (k:Option Loop) (p:Obj->Prop)
 | ice
abbrev zaa:=Nat->Option Blk
def zaa.cel (H:zaa) (i:Nat):Prop:=(∃cs,H i=some (.cells cs))\/H i=some .ice
def fits (k:Option Loop) (o:Obj):Prop:=match k with
 | some q=>∃st pe,o=.loop { q with state:=st,pending:=pe }
 | none=>True
def zaa.set (H:zaa) (i:Nat) (b:Blk):zaa:=fun j=>if j=i then some b else H j
theorem zaa.set_same (H:zaa) (i:Nat) (b:Blk):(H.set i b) i=some b:=by simp [zaa.set]
theorem zaa.set_ne (H:zaa) {i j:Nat} (b:Blk) (h:j≠i):(H.set i b) j=H j:=by simp [zaa.set,h]
structure Gh where
 φ:Nat->Nat
 σ:Nat->Value
 sz:Nat->Nat
 lo:Nat
def zis (G:Gh) (H:zaa) (b n:Nat):Prop :=
 (∀i cs,H i=some (.cells cs)->G.φ i≠b)/\(∀i e m,H i=some (.row e m)->(G.σ i).ownBlock=some b->n<=m*G.sz i)
def zp4 (G:Gh) (H:zaa) (w:World) (t:Tag) (k len cap:Nat) (x:Value):Prop :=
 match t with
 | .no=>True
 | .clip=>cap=len
 | .nil=>x=.slice none 0 0
 | .id τ=>∃e n,H τ=some (.row e n)/\G.sz τ=k/\len<=n/\(n=len->x=G.σ τ)
 | .od=>0<len->∀b o p n c,x=.slice (some ⟨b,o,p⟩) n c->b<G.lo
 | .fr=>(∃c,x=.slice none 0 c)\/∃b n c vs ty,x=.slice (some ⟨b,0,none⟩) n c/\(G.lo<=b/\∀m,zis G H b m)/\w.heap[b]?=some (.cells vs ty (0,0))/\n<=c/\c*k<=vs.size
inductive VR (G:Gh) (H:zaa) (w:World):AV->Value->Prop
 | any (x:Value):VR G H w .any x
 | v (x:Value):VR G H w (.v x) x
 | agg (cs:List AV) (vs:Array Value) (hl:vs.size=cs.length) (h1:∀x,x∈vs->x.oneCell'=true)
   (h:∀(i:Nat) (c:AV) (x:Value),cs[i]?=some c->vs[i]?=some x->VR G H w c x):VR G H w (.agg cs) (.agg vs)
 | tup (cs:List AV) (vs:Array Value) (hl:vs.size=cs.length)
   (h:∀(i:Nat) (c:AV) (x:Value),cs[i]?=some c->vs[i]?=some x->VR G H w c x):VR G H w (.tup cs) (.tuple vs)
 | ptr (i off:Nat) (h:H.cel i):VR G H w (.ptr i off) (.pointer (some ⟨G.φ i,off,none⟩))
 | ms (i off k n c:Nat) (a:Option Addr) (cap:Nat) (h:H.cel i) (ha:0<cap->a=some ⟨G.φ i,off,none⟩) (hn:n<=c) (hc:c<=cap) (hz:0<cap->off+cap*k<=G.sz i):VR G H w (.ms i off k n c) (.slice a n cap)
 | sl (t:Tag) (k:Nat) (es:List (List AV)) (a:Option Addr) (cap b o:Nat) (f:Nat->Nat->Value)
   (hcap:es.length<=cap) (hs:∀e,e∈es->e.length=k)
   (ha:es≠[]->0<k/\a=some ⟨b,o,none⟩/\zis G H b (o+es.length*k))
   (hc:∀(i j:Nat) (e:List AV) (c:AV),es[i]?=some e->e[j]?=some c->w.cell? ⟨b,o+i*k+j,none⟩=some (f i j)/\(f i j).oneCell'=true)
   (hv:∀(i j:Nat) (e:List AV) (c:AV),es[i]?=some e->e[j]?=some c->VR G H w c (f i j))
   (ht:zp4 G H w t k es.length cap (.slice a es.length cap)):VR G H w (.sl t k es) (.slice a es.length cap)
 | ep (cs:List AV) (b o:Nat) (f:Nat->Value) (ha:cs≠[]->zis G H b (o+cs.length))
   (hc:∀(j:Nat) (c:AV),cs[j]?=some c->w.cell? ⟨b,o+j,none⟩=some (f j)/\(f j).oneCell'=true)
   (hv:∀(j:Nat) (c:AV),cs[j]?=some c->VR G H w c (f j)):VR G H w (.ep cs) (.pointer (some ⟨b,o,none⟩))
 | yld (i:Nat) (ts:List Nat) (cs:List AV) (q:Loop) (p:Obj->Prop) (h:H i=some (.obj (some q) p))
   (hv:∀(j t:Nat) (c:AV),ts[j]?=some t->cs[j]?=some c->VR G H w c (q.tmps.getD t undef)):VR G H w (.yld i ts cs) (.func (.yield (G.φ i)) #[] #[])
 | mp (i:Nat) (k:Option Loop) (p:Obj->Prop) (h:H i=some (.obj k p)):VR G H w (.mp i) (.map (some (G.φ i)))
 | it (j i a:Nat) (k k':Option Loop) (p p':Obj->Prop) (hj:H j=some (.obj k p)) (hi:H i=some (.obj k' p')) (ha:G.φ i=a):VR G H w (.it j i a) (.pointer (some ⟨G.φ j,0,none⟩))
 | fn (f:Fn) (first cap:List AV) (v1 v2:Array Value) (h1:v1.size=first.length) (h2:v2.size=cap.length)
   (hf:∀(i:Nat) (c:AV) (x:Value),first[i]?=some c->v1[i]?=some x->VR G H w c x)
   (hc:∀(i:Nat) (c:AV) (x:Value),cap[i]?=some c->v2[i]?=some x->VR G H w c x):VR G H w (.fn f first cap) (.func f v1 v2)
structure Evo (G:Gh) (H:zaa) (w:World) (G':Gh) (H':zaa) (w':World):Prop where
 cells:∀i,H.cel i->(G'.φ i,G'.sz i)=(G.φ i,G.sz i)/\H'.cel i
 row:∀i e n,H i=some (.row e n)->G'.sz i=G.sz i/\∃n',H' i=some (.row e n')/\n<=n'/\(n'=n->G'.σ i=G.σ i)
 obj:∀i k p,H i=some (.obj k p)->G'.φ i=G.φ i/\∃p',H' i=some (.obj k p')
 keep:∀b n,zis G H b n->(∀k x,k<n->w.cell? ⟨b,k,none⟩=some x->w'.cell? ⟨b,k,none⟩=some x)/\(b<w.heap.size->zis G' H' b n)
 lo:G'.lo=G.lo
 whole:∀b,(∀m,zis G H b m)->∀vs ty fr,w.heap[b]?=some (.cells vs ty fr)->w'.heap[b]?=some (.cells vs ty fr)
theorem zeP {w:World} {b k:Nat} {x:Value} (h:w.cell? ⟨b,k,none⟩=some x):b<w.heap.size:=World.block_lt_of_cell? w ⟨b,k,none⟩ h
theorem zp4.evo {G G':Gh} {H H':zaa} {w w':World} (E:Evo G H w G' H' w') {t:Tag} {k len cap:Nat} {x:Value} (h:zp4 G H w t k len cap x):zp4 G' H' w' t k len cap x:=by
 cases t with
 | no=>trivial
 | clip=>exact h
 | nil=>exact h
 | id τ =>
  obtain ⟨el,n,hn,hsz,hle,he⟩:=h
  obtain ⟨hz,n',hn',hle',hs⟩:=E.row τ el n hn
  refine ⟨el,n',hn',hz.trans hsz,by omega,fun e=>?_⟩
  have:n'=n:=by omega
  rw [hs this]
  exact he (by omega)
 | od=>exact fun hl b o p n c e=>by rw [E.lo];exact h hl b o p n c e
 | fr =>
  rcases h with h | ⟨b,n,c,vs,ty,h1,⟨h2,h3⟩,h4,h5⟩
  ·exact .inl h
  ·exact .inr ⟨b,n,c,vs,ty,h1,⟨by rw [E.lo];exact h2,fun m=>(E.keep b m (h3 m)).2 (Array.getElem?_eq_some_iff.1 h4).1⟩,E.whole b h3 _ _ _ h4,h5⟩
theorem VR.evo {G G':Gh} {H H':zaa} {w w':World} (E:Evo G H w G' H' w') {a:AV} {x:Value} (h:VR G H w a x):VR G' H' w' a x:=by
 induction h with
 | any x=>exact .any x
 | v x=>exact .v x
 | agg cs vs hl h1 _ ih=>exact .agg cs vs hl h1 ih
 | tup cs vs hl _ ih=>exact .tup cs vs hl ih
 | ptr i off h =>
  obtain ⟨hφ,h'⟩:=E.cells i h
  rw [←(Prod.mk.inj hφ).1]
  exact .ptr i off h'
 | ms i off k n c a cap h ha hn hc hz =>
  obtain ⟨hφ,h'⟩:=E.cells i h
  obtain ⟨h1,h2⟩:=Prod.mk.inj hφ
  exact .ms i off k n c a cap h' (fun h0=>by rw [h1];exact ha h0) hn hc (fun h0=>by rw [h2];exact hz h0)
 | yld i ts cs q p h _ ih =>
  obtain ⟨hφ,p',h'⟩:=E.obj i _ p h
  rw [←hφ]
  exact .yld i ts cs q p' h' ih
 | mp i k p h =>
  obtain ⟨hφ,p',h'⟩:=E.obj i k p h
  rw [←hφ]
  exact .mp i k p' h'
 | it j i a k k' p p' hj hi ha =>
  obtain ⟨hφ,p1,h1⟩:=E.obj j k p hj
  obtain ⟨hφ',p2,h2⟩:=E.obj i k' p' hi
  rw [←hφ]
  exact .it j i a k k' p1 p2 h1 h2 (hφ'.trans ha)
 | sl t size es a cap b o f hcap hs ha hc _ ht ih =>
  by_cases hne:es=[]
  ·subst hne
   exact .sl t size [] a cap b o f hcap hs (fun h=>absurd rfl h) (fun i j e c h=>by simp at h) (fun i j e c h=>by simp at h) (ht.evo E)
  ·obtain ⟨hpos,ha1,hfr⟩:=ha hne
   obtain ⟨hk,hfr'⟩:=E.keep b _ hfr
   obtain ⟨e0,es',rfl⟩:∃e0 es',es=e0::es':=by cases es with | nil=>exact absurd rfl hne | cons e0 es'=>exact ⟨e0,es',rfl⟩
   have he0:e0.length=size:=hs e0 (by simp)
   have hb:b<w.heap.size:=zeP (hc 0 0 e0 (e0[0]'(by omega)) rfl (List.getElem?_eq_getElem (by omega))).1
   refine .sl t size _ a cap b o f hcap hs (fun _=>⟨hpos,ha1,hfr' hb⟩) (fun i j e c hi hj=>⟨hk _ _ ?_ (hc i j e c hi hj).1,(hc i j e c hi hj).2⟩) ih (ht.evo E)
   have h1:i<(e0::es').length:=(List.getElem?_eq_some_iff.1 hi).1
   have h2:j<e.length:=(List.getElem?_eq_some_iff.1 hj).1
   rw [hs e (List.mem_of_getElem? hi)] at h2
   have h3:(i+1)*size<=(e0::es').length*size:=Nat.mul_le_mul_right _ h1
   rw [Nat.add_mul] at h3
   omega
 | ep cs b o f ha hc _ ih =>
  by_cases hne:cs=[]
  ·subst hne
   exact .ep [] b o f (fun h=>absurd rfl h) (fun j c h=>by simp at h) (fun j c h=>by simp at h)
  ·obtain ⟨hk,hfr'⟩:=E.keep b _ (ha hne)
   obtain ⟨e0,es',rfl⟩:∃e0 es',cs=e0::es':=by cases cs with | nil=>exact absurd rfl hne | cons e0 es'=>exact ⟨e0,es',rfl⟩
   have hb:b<w.heap.size:=zeP (hc 0 e0 rfl).1
   refine .ep _ b o f (fun _=>hfr' hb) (fun j c hj=>⟨hk _ _ ?_ (hc j c hj).1,(hc j c hj).2⟩) ih
   have:=(List.getElem?_eq_some_iff.1 hj).1
   omega
 | fn f first cap v1 v2 h1 h2 _ _ ihf ihc=>exact .fn f first cap v1 v2 h1 h2 ihf ihc
inductive Le:AV->AV->Prop
 | refl (a:AV):Le a a
 | any (a:AV):Le .any a
 | agg (cs ds:List AV) (hl:cs.length=ds.length) (h:∀(i:Nat) (c d:AV),cs[i]?=some c->ds[i]?=some d->Le c d):Le (.agg cs) (.agg ds)
 | tup (cs ds:List AV) (hl:cs.length=ds.length) (h:∀(i:Nat) (c d:AV),cs[i]?=some c->ds[i]?=some d->Le c d):Le (.tup cs) (.tup ds)
 | sl (t:Tag) (k:Nat) (es:List (List AV)):Le (.sl .no k es) (.sl t k es)
 | sl0 (t:Tag) (k k':Nat):Le (.sl .no k []) (.sl t k' [])
 | slE (t:Tag) (k:Nat) (es ds:List (List AV)) (hl:es.length=ds.length) (hk:∀(i:Nat) (e d:List AV),es[i]?=some e->ds[i]?=some d->e.length=d.length)
   (h:∀(i j:Nat) (e d:List AV) (c c':AV),es[i]?=some e->ds[i]?=some d->e[j]?=some c->d[j]?=some c'->Le c c'):Le (.sl t k es) (.sl t k ds)
 | flat (l:List Value) (h:∀x,x∈l->x.oneCell'=true):Le (.agg (l.map .v)) (.v (.agg l.toArray))
 | nv (k:Nat) (es:List (List AV)):Le (.v (.slice none 0 0)) (.sl .nil k es)
 | nf (k k':Nat):Le (.sl .fr k []) (.sl .nil k' [])
theorem VR.le {G:Gh} {H:zaa} {w:World} {a b:AV} {x:Value} (hl:Le a b) (h:VR G H w b x):VR G H w a x:=by
 induction hl generalizing x with
 | refl a=>exact h
 | any a=>exact .any x
 | agg cs ds hl _ ih =>
  cases h with
  | agg _ vs hl' h1 h' =>
   refine .agg cs vs (by omega) h1 fun i c x hc hx=>?_
   have hi:i<ds.length:=by have:=(List.getElem?_eq_some_iff.1 hc).1;omega
   exact ih i c ds[i] hc (List.getElem?_eq_getElem hi) (h' i ds[i] x (List.getElem?_eq_getElem hi) hx)
 | tup cs ds hl _ ih =>
  cases h with
  | tup _ vs hl' h' =>
   refine .tup cs vs (by omega) fun i c x hc hx=>?_
   have hi:i<ds.length:=by have:=(List.getElem?_eq_some_iff.1 hc).1;omega
   exact ih i c ds[i] hc (List.getElem?_eq_getElem hi) (h' i ds[i] x (List.getElem?_eq_getElem hi) hx)
 | sl t k es =>
  cases h with
  | sl _ _ _ a cap b o f hcap hs ha hc hv ht=>exact .sl .no k es a cap b o f hcap hs ha hc hv trivial
 | sl0 t k k' =>
  cases h with
  | sl _ _ _ a cap b o f hcap hs ha hc hv ht=>exact .sl .no k [] a cap b o f hcap (fun e h=>by simp at h) (fun h=>absurd rfl h) (fun i j e c h=>by simp at h) (fun i j e c h=>by simp at h) trivial
 | nf k k' =>
  cases h with
  | sl _ _ _ a cap b o f hcap hs ha hc hv ht =>
   have ht':Value.slice a 0 cap=.slice none 0 0:=ht
   refine .sl .fr k [] a cap b o f hcap (fun e h=>by simp at h) (fun h=>absurd rfl h) (fun i j e c h=>by simp at h) (fun i j e c h=>by simp at h) (.inl ⟨0,ht'⟩)
 | slE t k es ds hl hk _ ih =>
  cases h with
  | sl _ _ _ a cap b o f hcap hs ha hc hv ht =>
   have at_:∀(i:Nat) (e:List AV),es[i]?=some e->∃d,ds[i]?=some d/\e.length=d.length:=fun i e he=>by
    have hi:i<ds.length:=by have:=(List.getElem?_eq_some_iff.1 he).1;omega
    exact ⟨ds[i],List.getElem?_eq_getElem hi,hk i e _ he (List.getElem?_eq_getElem hi)⟩
   have at2:∀(i j:Nat) (e:List AV) (c:AV),es[i]?=some e->e[j]?=some c->∃d c',ds[i]?=some d/\d[j]?=some c':=fun i j e c he hc=>by
    obtain ⟨d,hd,hl2⟩:=at_ i e he
    have hj:j<d.length:=by have:=(List.getElem?_eq_some_iff.1 hc).1;omega
    exact ⟨d,d[j],hd,List.getElem?_eq_getElem hj⟩
   rw [←hl] at hcap ht ha ⊢
   refine .sl t k es a cap b o f hcap (fun e he=>?_) (fun hne=>?_) (fun i j e c hi hj=>?_) (fun i j e c hi hj=>?_) ht
   ·obtain ⟨i,hi⟩:=List.getElem?_of_mem he
    obtain ⟨d,hd,hl2⟩:=at_ i e hi
    rw [hl2]
    exact hs d (List.mem_of_getElem? hd)
   ·exact ha (fun e=>hne (List.eq_nil_of_length_eq_zero (by rw [hl,e];rfl)))
   ·obtain ⟨d,c',hd,hc'⟩:=at2 i j e c hi hj
    exact hc i j d c' hd hc'
   ·obtain ⟨d,c',hd,hc'⟩:=at2 i j e c hi hj
    exact ih i j e d c c' hi hd hj hc' (hv i j d c' hd hc')
 | nv k es =>
  cases h with
  | sl _ _ _ a cap b o f hcap hs ha hc hv ht =>
   rw [show Value.slice a es.length cap=.slice none 0 0 from ht]
   exact .v _
 | flat l hl =>
  cases h with
  | v _ =>
   refine .agg _ _ (by simp) (fun x hx=>hl x (by simpa using hx)) fun i c x hc hx=>?_
   rw [List.getElem?_map] at hc
   obtain ⟨y,hy,rfl⟩:=Option.map_eq_some_iff.1 hc
   have hx:l[i]?=some x:=by simpa using hx
   rw [hy] at hx
   injection hx with hx
   subst hx
   exact .v _
inductive Pure:AV->Prop
 | any:Pure .any
 | v (x:Value):Pure (.v x)
 | agg (cs:List AV) (h:∀c,c∈cs->Pure c):Pure (.agg cs)
 | tup (cs:List AV) (h:∀c,c∈cs->Pure c):Pure (.tup cs)
 | sl (k:Nat) (es:List (List AV)) (h:∀e,e∈es->∀c,c∈e->Pure c):Pure (.sl .no k es)
 | clip (k:Nat) (es:List (List AV)) (h:∀e,e∈es->∀c,c∈e->Pure c):Pure (.sl .clip k es)
 | fr (k:Nat) (es:List (List AV)) (h:∀e,e∈es->∀c,c∈e->Pure c):Pure (.sl .fr k es)
 | od (k:Nat) (es:List (List AV)) (h:∀e,e∈es->∀c,c∈e->Pure c):Pure (.sl .od k es)
 | nil (k:Nat) (es:List (List AV)) (h:∀e,e∈es->∀c,c∈e->Pure c):Pure (.sl .nil k es)
 | fn (f:Fn) (first cap:List AV) (h1:∀c,c∈first->Pure c) (h2:∀c,c∈cap->Pure c):Pure (.fn f first cap)
 | ep (cs:List AV) (h:∀c,c∈cs->Pure c):Pure (.ep cs)
structure Hp (G:Gh) (H:zaa) (w:World):Prop where
 cells:∀i cs,H i=some (.cells cs)->∃vs ty,w.heap[G.φ i]?=some (.cells vs ty (0,0))/\(cs.length<=vs.size/\vs.size=G.sz i)/\(∀(j:Nat) (x:Value),j<cs.length->vs[j]?=some x->x.oneCell'=true)/\∀(j:Nat) (c:AV) (x:Value),cs[j]?=some c->vs[j]?=some x->VR G H w c x
 rows:∀i e n,H i=some (.row e n)->0<G.sz i/\∃xs,w.ownsRow 0 e (G.sz i) (G.σ i) n xs
 inj:∀i j cs ds,H i=some (.cells cs)->H j=some (.cells ds)->G.φ i=G.φ j->i=j
 sep:∀i j cs e n,H i=some (.cells cs)->H j=some (.row e n)->(G.σ j).ownBlock≠some (G.φ i)
 own:∀i j d m e n b,H i=some (.row d m)->H j=some (.row e n)->(G.σ i).ownBlock=some b->(G.σ j).ownBlock=some b->i=j
 objs:∀i k p,H i=some (.obj k p)->∃o,w.heap[G.φ i]?=some o/\(p o/\fits k o)/\∀vs ty fr,o≠.cells vs ty fr
 oinj:∀i j k k' p q,H i=some (.obj k p)->H j=some (.obj k' q)->G.φ i=G.φ j->i=j
 lo:G.lo<=w.heap.size
theorem Hp.lo_le {G G':Gh} {H:zaa} {w w':World} (hp:Hp G H w) (h2:w.heap.size<=w'.heap.size) (h1:G'.lo=G.lo:=by rfl):G'.lo<=w'.heap.size:=h1▸Nat.le_trans hp.lo h2
def Im (G:Gh) (H:zaa) (b:Nat):Prop:=(∃i cs,H i=some (.cells cs)/\G.φ i=b)\/(∃i e n,H i=some (.row e n)/\(G.σ i).ownBlock=some b)\/(∃i k p,H i=some (.obj k p)/\G.φ i=b)
theorem zis.of_not_im {G:Gh} {H:zaa} {b:Nat} (h:¬Im G H b) (n:Nat):zis G H b n :=
 ⟨fun i cs hi e=>h (.inl ⟨i,cs,hi,e⟩),fun i d m hi e=>absurd (.inr (.inl ⟨i,d,m,hi,e⟩)) h⟩
theorem Hp.lt {G:Gh} {H:zaa} {w:World} (hp:Hp G H w) {b:Nat} (h:Im G H b):b<w.heap.size:=by
 rcases h with ⟨i,cs,hi,rfl⟩ | ⟨i,e,n,hi,hb⟩ | ⟨i,k,p,hi,rfl⟩
 ·obtain ⟨vs,ty,hg,_⟩:=hp.cells i cs hi
  exact (Array.getElem?_eq_some_iff.1 hg).1
 ·obtain ⟨_,xs,ho⟩:=hp.rows i e n hi
  exact (ho.lt b hb).2
 ·obtain ⟨o,hg,_⟩:=hp.objs i k p hi
  exact (Array.getElem?_eq_some_iff.1 hg).1
structure Ext (G:Gh) (H:zaa) (w:World) (G':Gh) (H':zaa) (w':World):Prop where
 evo:Evo G H w G' H' w'
 os:w'.os=w.os
 tape:w'.tape=w.tape
 output:w'.output=w.output
 size:w.heap.size<=w'.heap.size
 block:∀b,b<w.heap.size->¬Im G H b->w'.heap[b]?=w.heap[b]?
 im:∀b,Im G' H' b->Im G H b\/w.heap.size<=b
theorem Evo.refl (G:Gh) (H:zaa) (w:World):Evo G H w G H w :=
 ⟨fun _ h=>⟨rfl,h⟩,fun _ _ n h=>⟨rfl,n,h,Nat.le_refl _,fun _=>rfl⟩,fun _ _ p h=>⟨rfl,p,h⟩,fun _ _ h=>⟨fun _ _ _ hx=>hx,fun _=>h⟩,rfl,fun _ _ _ _ _ h=>h⟩
theorem Ext.refl (G:Gh) (H:zaa) (w:World):Ext G H w G H w:=⟨.refl _ _ _,rfl,rfl,rfl,Nat.le_refl _,fun _ _ _=>rfl,fun _ h=>.inl h⟩
theorem Evo.trans {G1 G2 G3:Gh} {H1 H2 H3:zaa} {w1 w2 w3:World} (h:Evo G1 H1 w1 G2 H2 w2) (k:Evo G2 H2 w2 G3 H3 w3) (hs:w1.heap.size<=w2.heap.size):Evo G1 H1 w1 G3 H3 w3:=by
 refine ⟨fun i hi=>?_,fun i d n hi=>?_,fun i _ p hi=>?_,fun b n hf=>?_,k.lo.trans h.lo,fun b hF vs ty fr hb=>k.whole b (fun m=>(h.keep b m (hF m)).2 (Array.getElem?_eq_some_iff.1 hb).1) vs ty fr (h.whole b hF vs ty fr hb)⟩
 ·obtain ⟨e,h'⟩:=h.cells i hi
  obtain ⟨e',h''⟩:=k.cells i h'
  exact ⟨e'.trans e,h''⟩
 ·obtain ⟨e,n',h',hle,hs⟩:=h.row i d n hi
  obtain ⟨e',n'',h'',hle',hs'⟩:=k.row i d n' h'
  exact ⟨e'.trans e,n'',h'',by omega,fun he=>(hs' (by omega)).trans (hs (by omega))⟩
 ·obtain ⟨e,p',h'⟩:=h.obj i _ p hi
  obtain ⟨e',p'',h''⟩:=k.obj i _ p' h'
  exact ⟨e'.trans e,p'',h''⟩
 ·obtain ⟨hk,hf2⟩:=h.keep b n hf
  by_cases hb:b<w1.heap.size
  ·obtain ⟨hk',hf3⟩:=k.keep b n (hf2 hb)
   exact ⟨fun j x hj hx=>hk' j x hj (hk j x hj hx),fun _=>hf3 (by omega)⟩
  ·exact ⟨fun j x hj hx=>absurd (zeP hx) hb,fun hb'=>absurd hb' hb⟩
theorem Ext.trans {G1 G2 G3:Gh} {H1 H2 H3:zaa} {w1 w2 w3:World} (h:Ext G1 H1 w1 G2 H2 w2) (k:Ext G2 H2 w2 G3 H3 w3):Ext G1 H1 w1 G3 H3 w3:=by
 refine ⟨h.evo.trans k.evo h.size,k.os.trans h.os,k.tape.trans h.tape,k.output.trans h.output,Nat.le_trans h.size k.size,fun b hb hi=>?_,fun b hb=>?_⟩
 ·have h2:¬Im G2 H2 b:=fun h2=>(h.im b h2).elim hi (fun h=>by omega)
  exact (k.block b (Nat.lt_of_lt_of_le hb h.size) h2).trans (h.block b hb hi)
 ·rcases k.im b hb with h' | h'
  ·exact h.im b h'
  ·exact .inr (Nat.le_trans h.size h')
theorem Evo.of_grow {G G':Gh} {H H':zaa} {w w':World} (hb:∀b,b<w.heap.size->w'.heap[b]?=w.heap[b]?) (hH:∀i x,H i=some x->H' i=some x/\G'.φ i=G.φ i/\G'.σ i=G.σ i/\G'.sz i=G.sz i)
  (hnew:∀i x,H' i=some x->H i=some x\/((∀cs,x=.cells cs->w.heap.size<=G'.φ i)/\∀e n,x=.row e n->∀b,(G'.σ i).ownBlock=some b->w.heap.size<=b)) (hlo:G'.lo=G.lo:=by rfl):Evo G H w G' H' w':=by
 refine ⟨fun i hi=>by rcases hi with ⟨cs,hi⟩ | hi;exact ⟨by rw [(hH i _ hi).2.1,(hH i _ hi).2.2.2],.inl ⟨cs,(hH i _ hi).1⟩⟩;exact ⟨by rw [(hH i _ hi).2.1,(hH i _ hi).2.2.2],.inr (hH i _ hi).1⟩,fun i _ n hi=>⟨(hH i _ hi).2.2.2,n,(hH i _ hi).1,Nat.le_refl _,fun _=>(hH i _ hi).2.2.1⟩,fun i _ p hi=>⟨(hH i _ hi).2.1,p,(hH i _ hi).1⟩,fun b n hf=>⟨fun k x _ hx=>?_,fun hlt=>⟨fun i cs hi e=>?_,fun i d m hi e=>?_⟩⟩,hlo,fun b _ vs ty fr h=>(hb b (Array.getElem?_eq_some_iff.1 h).1).trans h⟩
 ·rw [←hx]
  exact World.cell?_of_block (a:=⟨b,k,none⟩) (hb b (zeP hx))
 ·rcases hnew i _ hi with h | ⟨h,_⟩
  ·exact hf.1 i cs h ((hH i _ h).2.1▸e)
  ·have:=h cs rfl;omega
 ·rcases hnew i _ hi with h | ⟨_,h⟩
  ·rw [(hH i _ h).2.2.1] at e
   rw [(hH i _ h).2.2.2]
   exact hf.2 i d m h e
  ·have:=h d m rfl b e;omega
end Go.AM
