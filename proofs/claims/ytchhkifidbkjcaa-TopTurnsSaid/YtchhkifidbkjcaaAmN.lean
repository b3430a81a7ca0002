/-
  The abstract machine: the rules that printed walks use. They carry along what is known of the heap.
  Conditions: none; it speaks of any program.
-/
import Derived.Test.YtchhkifidbkjcaaAmM
import Derived.KernelRfl
set_option linter.all false
namespace Go.AM
open Go Go.RowKit
section
variable {P:Program} {N:Nat}
theorem zeR.mono {strict:Bool} {mu ta:Nat->Bool} {new f:Nat} {as:List AV} {K K':AV->zaa->Nat->Prop} {H:zaa} {g:Nat} (h:zeR P strict mu ta new f as K H g) (hk:∀r H g,K r H g->K' r H g):zeR P strict mu ta new f as K' H g:=by
 rcases h with ⟨r,h1,h2⟩ | ⟨r,b,h1,h2⟩ | ⟨hs,h1⟩ | ⟨id,cs,r,ds,hm,hc,h1,h2⟩ | ⟨id,d,cs,r,x,hm,ha,hc,h1,h2⟩
 ·exact .inl ⟨r,h1,hk _ _ _ h2⟩
 ·exact .inr (.inl ⟨r,b,h1,hk _ _ _ h2⟩)
 ·exact .inr (.inr (.inl ⟨hs,h1.mono hk⟩))
 ·exact .inr (.inr (.inr (.inl ⟨id,cs,r,ds,hm,hc,h1,hk _ _ _ h2⟩)))
 ·exact .inr (.inr (.inr (.inr ⟨id,d,cs,r,x,hm,ha,hc,h1,hk _ _ _ h2⟩)))
theorem zuY {new:Nat} {op:Op} {ρ:Operand->AV} {H:zaa} {K K':AV->zaa->Prop} (hk:∀r H,K r H->K' r H) (h:ztk P new op ρ H K):ztk P new op ρ H K':=by
 unfold ztk at h ⊢
 split
 ·obtain ⟨i,m,h1,h2,h3,h4⟩:=h
  exact ⟨i,m,h1,h2,h3,fun a=>hk _ _ (h4 a)⟩
 ·obtain ⟨j,i,a,m,seen,h1,h2,h3,h4,h5⟩:=h
  exact ⟨j,i,a,m,seen,h1,h2,h3,fun q=>hk _ _ (h4 q),fun e p q1 q2=>hk _ _ (h5 e p q1 q2)⟩
 ·obtain ⟨j,i,a,m,seen,e,p,h1,h2,h3,h4,h5⟩:=h
  exact ⟨j,i,a,m,seen,e,p,h1,h2,h3,h4,hk _ _ h5⟩
 ·simp_all
theorem zrC {new:Nat} {op:Op} {ρ:Operand->AV} {H:zaa} {K K':AV->zaa->Prop} (hk:∀r H,K r H->K' r H) (h:zpc P new op ρ H K):zpc P new op ρ H K':=by
 unfold zpc at h ⊢
 split
 ·obtain ⟨k,es,h1,h2,h3,h4,h5,h6⟩:=h
  exact ⟨k,es,h1,h2,h3,h4,h5,h6.imp (hk _ _) (hk _ _)⟩
 ·obtain ⟨t,s,x,k,m,ds,h1,h2,h3,h4,h5,h⟩:=h
  refine ⟨t,s,x,k,m,ds,h1,h2,h3,h4,h5,h.imp (fun ⟨h0,tg,k',es,q1,q2⟩=>⟨h0,tg,k',es,q1,hk _ _ q2⟩) fun ⟨h6,h⟩=>⟨h6,h.imp ?_ ?_⟩⟩
  ·rintro ⟨i,off,n,cs,q1,q2,q3,q4,q5,q6⟩
   exact ⟨i,off,n,cs,q1,q2,q3,q4,hk _ _ q5,hk _ _ q6⟩
  ·rintro ⟨tg,es,q1,q2,q3,q4⟩
   exact ⟨tg,es,q1,q2,q3,hk _ _ q4⟩
 ·obtain ⟨n,e,z,h1,h2,h3,h4,h5,h6,h7,h8,h9⟩:=h
  exact ⟨n,e,z,h1,h2,h3,h4,h5,h6,h7,h8,hk _ _ h9⟩
 ·simp_all
theorem zuw {lim:Option Nat} {g0:Nat} {ops:Array Oper} {i:Nat} {o:Oper} {K K':Fr->zaa->Nat->Prop} {fr:Fr} {H:zaa} {g:Nat} (hk:∀fr H g,K fr H g->K' fr H g) (h:opQ P N lim g0 ops i o K fr H g):opQ P N lim g0 ops i o K' fr H g:=by
 unfold opQ at h ⊢
 split
 ·rename_i f args hc
  simp only [hc] at h
  split
  ·rename_i k first cap ht
   simp only [ht] at h
   exact h.mono fun r H g hr=>hk _ _ _ hr
  ·rename_i ht
   simp only [ht] at h
   obtain ⟨h1,q,M,r,M',a,b,c,d⟩:=h
   exact ⟨h1,q,M,r,M',a,b,c,hk _ _ _ d⟩
 ·rename_i hc
  simp only [hc] at h
  split
  ·rename_i ho
   rw [if_pos ho] at h
   split
   ·rename_i r wr he
    simp only [he] at h
    exact h.imp (hk _ _ _) fun ⟨h1,h2⟩=>⟨h1,h2.imp (fun ⟨r',q1,q2⟩=>⟨r',q1,hk _ _ _ q2⟩) (zrC fun r H' hr=>hk _ _ _ hr)⟩
   ·rename_i he
    simp only [he] at h
    split
    ·simp only at h
     split
     ·rename_i t x b hno
      simp only [hno] at h
      refine ⟨h.1,?_⟩
      have h2:=h.2
      unfold zv1 at h2 ⊢
      split
      ·rename_i tg k es hv
       simp only [hv] at h2
       exact ⟨fun q=>hk _ _ _ (h2.1 q),fun q=>hk _ _ _ (h2.2 q)⟩
      ·rename_i hv
       split at h2
       ·rename_i tg k es hv2
        exact absurd hv2 (hv tg k es)
       ·exact h2
     ·rename_i hno
      simp only [hno] at h
      exact h.imp (zuY (fun r H' hr=>hk _ _ _ hr)) (zrC (fun r H' hr=>hk _ _ _ hr))
    ·exact h
  ·rename_i ho
   rw [if_neg ho] at h
   obtain ⟨h0,r,wr,h1,h2⟩:=h
   exact ⟨h0,r,wr,h1,hk _ _ _ h2⟩
theorem ztz {lim:Option Nat} {g0:Nat} {ops:Array Oper} {i:Nat} {o:Oper} {K K':Fr->zaa->Nat->Prop} {fr:Fr} {H:zaa} {g:Nat} (hk:∀fr H g,K fr H g->K' fr H g) (h:zbs P N lim g0 ops i o K fr H g):zbs P N lim g0 ops i o K' fr H g:=by
 unfold zbs at h ⊢
 split
 ·rename_i hg
  simp only [hg] at h
  exact zuw hk h
 ·rename_i j want hg
  simp only [hg] at h
  split
  ·rename_i t ht
   simp only [ht] at h
   split
   ·rename_i hw
    rw [if_pos hw] at h
    exact zuw hk h
   ·rename_i hw
    rw [if_neg hw] at h
    exact hk _ _ _ h
  ·rename_i ht
   simp only [ht] at h
theorem zoB {lim:Option Nat} {g0:Nat} {ops:Array Oper} {K K':Fr->zaa->Nat->Prop} (hk:∀fr H g,K fr H g->K' fr H g):∀(r:List Oper) (i:Nat) (fr:Fr) (H:zaa) (g:Nat),zaL P N lim g0 ops K i r fr H g->zaL P N lim g0 ops K' i r fr H g
 | [],_,fr,H,g,h=>hk fr H g h
 | _::r,i,_,_,_,h=>ztz (fun fr H g=>zoB hk r (i+1) fr H g) h
theorem zlS {c:Code}:∀{Q Q':Exit->Fr->zaa->Nat->Prop} {fr:Fr} {H:zaa} {g:Nat},wpA P N c Q fr H g->(∀e fr H g,Q e fr H g->Q' e fr H g)->wpA P N c Q' fr H g:=by
 induction c with
 | skip=>exact fun h hq=>hq _ _ _ _ h
 | label l=>exact fun h hq=>hq _ _ _ _ h
 | exit id=>exact fun h hq=>hq _ _ _ _ h
 | ret=>exact fun h hq=>hq _ _ _ _ h
 | goto l=>exact fun h _=>h.elim
 | refuse l=>exact fun h _=>h.elim
 | scope b ih =>
  intro Q Q' fr H g h hq
  refine ih h fun e fr' H' g' h'=>?_
  cases e with
  | goto l=>exact h'.elim
  | _=>exact hq _ _ _ _ h'
 | rangeFunc f ps x y ihx ihy =>
  intro Q Q' fr H g h hq
  simp only [wpA] at h ⊢
  obtain ⟨h1,h2,k,first,cap,hev,S,Lo,A,A',pe,R,s0,ts,cs,hR⟩:=h
  refine ⟨h1,h2,k,first,cap,hev,S,Lo,A,A',pe,R,s0,ts,cs,hR.pend,hR.has,hR.nd,hR.kinA,hR.kinds,hR.isin,hR.caught,hR.pslt,hR.tsnd,hR.round,fun q hq'=>?_⟩
  obtain ⟨rv,sF,a,b⟩:=hR.contract q hq'
  refine ⟨rv,sF,a,fun H' x y z=>?_⟩
  have hb:=b H' x y z
  cases hp:pe sF with
  | none=>simp only [hp] at hb;exact hq _ _ _ _ hb
  | some c =>
   simp only [hp] at hb
   obtain ⟨e,e1,e2⟩:=hb
   exact ⟨e,e1,hq _ _ _ _ e2⟩
 | region id ops draw =>
  intro Q Q' fr H g h hq
  simp only [wpA] at h ⊢
  split
  ·rename_i hd
   rw [if_pos hd] at h
   exact ⟨h.1,zoB (fun _ _ _ h=>⟨h.1,hq _ _ _ _ h.2⟩) _ _ _ _ _ h.2⟩
  ·rename_i hd
   rw [if_neg hd] at h
   exact zoB (fun _ _ _=>hq _ _ _ _) _ _ _ _ _ h
 | seq x y ihx ihy =>
  intro Q Q' fr H g h hq
  refine ihx h fun e fr' H' g' h'=>?_
  cases e with
  | normal =>
   obtain ⟨fr0,H0,g0,hd,h'⟩:=h'
   exact ⟨fr0,H0,g0,hd,ihy h' hq⟩
  | _=>exact hq _ _ _ _ h'
 | cond c x y ihx ihy =>
  intro Q Q' fr H g h hq
  simp only [wpA] at h ⊢
  split at h
  ·split at h
   ·rename_i t ht
    subst ht
    simpa using ihx h hq
   ·rename_i t ht
    simp only [if_neg ht]
    exact ihy h hq
  ·exact h.elim
 | block id c ih =>
  intro Q Q' fr H g h hq
  refine ih h fun e fr' H' g' h'=>?_
  cases e with
  | exit id' =>
   simp only [Exit.inBlockA] at h' ⊢
   split
   ·rename_i he
    rw [if_pos he] at h'
    exact hq _ _ _ _ h'
   ·rename_i he
    rw [if_neg he] at h'
    exact hq _ _ _ _ h'
  | _=>exact hq _ _ _ _ h'
 | loop c ih =>
  intro Q Q' fr H g h hq
  obtain ⟨I,h0,h⟩:=h
  refine ⟨I,h0,fun n fr H g hI hf=>ih (h n fr H g hI hf) fun e fr' H' g' h'=>?_⟩
  cases e with
  | normal=>exact h'
  | _=>exact hq _ _ _ _ h'
end
structure St (O:Nat->Prop) (H0:zaa) (L:List (Nat×Blk)) (H:zaa) (b:Nat):Prop where
 old:∀i,O i->i<b/\H i=H0 i
 has:∀p,p∈L->¬O p.1/\p.1<b/\H p.1=some p.2
 nd:(L.map (·.1)).Nodup
 fr:za2 H b
def putAt:List (Nat×Blk)->Nat->Blk->List (Nat×Blk)
 | [],_,_=>[]
 | p::L,0,b=>(p.1,b)::L
 | p::L,n+1,b=>p::putAt L n b
def zpk {α:Type}:List Bool->List α->List α
 | true::m,x::l=>x::zpk m l
 | false::m,_::l=>zpk m l
 | [],l=>l
 | _,_=>[]
theorem zjg {α:Type}:∀(m:List Bool) (l:List α),(zpk m l).Sublist l
 | true::m,x::l=>(zjg m l).cons_cons x
 | false::m,x::l=>(zjg m l).cons x
 | [],l=>.refl l
 | true::_,[]=>.slnil
 | false::_,[]=>.slnil
theorem zrD (L:List (Nat×Blk)) (n:Nat) (b:Blk):(putAt L n b).map (·.1)=L.map (·.1):=by
 induction L generalizing n with
 | nil=>rfl
 | cons p L ih=>cases n with
  | zero=>rfl
  | succ n=>simp [putAt,ih]
theorem zrE {L:List (Nat×Blk)} {n i:Nat} {b0 b:Blk} (h:L[n]?=some (i,b0)) (hnd:(L.map (·.1)).Nodup) {p:Nat×Blk} (hp:p∈putAt L n b):p=(i,b)\/(p∈L/\p.1≠i):=by
 induction L generalizing n with
 | nil=>simp at h
 | cons q L ih =>
  rw [List.map_cons,List.nodup_cons] at hnd
  cases n with
  | zero =>
   simp at h
   subst h
   rcases List.mem_cons.1 hp with rfl | hp
   ·exact .inl rfl
   ·exact .inr ⟨by simp [hp],fun e=>hnd.1 (by rw [←e];exact List.mem_map_of_mem (f:=(·.1)) hp)⟩
  | succ n =>
   simp at h
   rcases List.mem_cons.1 hp with rfl | hp
   ·exact .inr ⟨by simp,fun e=>hnd.1 (by rw [e];exact List.mem_map_of_mem (f:=(·.1)) (List.mem_of_getElem? h))⟩
   ·rcases ih h hnd.2 hp with h | ⟨h1,h2⟩
    ·exact .inl h
    ·exact .inr ⟨by simp [h1],h2⟩
section
variable {O:Nat->Prop} {H0 H:zaa} {L L':List (Nat×Blk)} {b:Nat}
theorem St.up (h:St O H0 L H b) {b':Nat} (hb:b<=b'):St O H0 L H b' :=
 ⟨fun i hi=>⟨Nat.lt_of_lt_of_le (h.old i hi).1 hb,(h.old i hi).2⟩,fun p hp=>⟨(h.has p hp).1,Nat.lt_of_lt_of_le (h.has p hp).2.1 hb,(h.has p hp).2.2⟩,h.nd,fun i hi=>h.fr i (Nat.le_trans hb hi)⟩
theorem St.sub (h:St O H0 L H b) (hs:L'.Sublist L):St O H0 L' H b:=⟨h.old,fun p hp=>h.has p (hs.subset hp),h.nd.sublist (hs.map _),h.fr⟩
theorem St.keep (h:St O H0 L H b) (m:List Bool) (he:zpk m L=L'):St O H0 L' H b:=he▸h.sub (zjg m L)
theorem St.get (h:St O H0 L H b) {n i:Nat} {x:Blk} (hn:L[n]?=some (i,x)):H i=some x:=(h.has _ (List.mem_of_getElem? hn)).2.2
theorem St.add (h:St O H0 L H b) {i:Nat} (x:Blk) (hi:b<=i):St O H0 ((i,x)::L) (H.set i x) (i+1):=by
 refine ⟨fun j hj=>?_,fun p hp=>?_,?_,fun j hj=>by rw [zaa.set_ne _ _ (by omega)];exact h.fr j (by omega)⟩
 ·have:=h.old j hj
  exact ⟨by omega,by rw [zaa.set_ne _ _ (by omega)];exact this.2⟩
 ·rcases List.mem_cons.1 hp with rfl | hp
  ·exact ⟨fun hO=>by have:=(h.old _ hO).1;simp at this;omega,by simp,zaa.set_same _ _ _⟩
  ·have:=h.has p hp
   exact ⟨this.1,by omega,by rw [zaa.set_ne _ _ (by omega)];exact this.2.2⟩
 ·rw [List.map_cons,List.nodup_cons]
  refine ⟨fun hm=>?_,h.nd⟩
  obtain ⟨p,hp,he⟩:=List.mem_map.1 hm
  have:=(h.has p hp).2.1
  simp at he
  omega
theorem St.put (h:St O H0 L H b) {n i:Nat} {x0:Blk} (hn:L[n]?=some (i,x0)) (x:Blk):St O H0 (putAt L n x) (H.set i x) b:=by
 have hi:=h.has _ (List.mem_of_getElem? hn)
 refine ⟨fun j hj=>⟨(h.old j hj).1,?_⟩,fun p hp=>?_,by rw [zrD];exact h.nd,fun j hj=>by rw [zaa.set_ne _ _ (fun e=>by subst e;exact absurd hi.2.1 (by simp;omega))];exact h.fr j hj⟩
 ·rw [zaa.set_ne _ _ (fun e=>hi.1 (by simpa [e] using hj))]
  exact (h.old j hj).2
 ·rcases zrE hn h.nd hp with rfl | ⟨h1,h2⟩
  ·exact ⟨hi.1,hi.2.1,zaa.set_same _ _ _⟩
  ·have:=h.has p h1
   exact ⟨this.1,this.2.1,by rw [zaa.set_ne _ _ h2];exact this.2.2⟩
theorem St.start {g:Nat} {H:zaa} (hf:za2 H g):St (·<g) H [] H g:=⟨fun _ h=>⟨h,rfl⟩,fun p hp=>by simp at hp,by simp,hf⟩
end
theorem St.startP {g p:Nat} {H:zaa} {cs:List AV} (hf:za2 H g) (hp:H p=some (.cells cs)):St (fun i=>i<g/\i≠p) H [(p,.cells cs)] H g:=by
 have hlt:p<g:=by
  rcases Nat.lt_or_ge p g with h | h
  ·exact h
  ·rw [hf p h] at hp;cases hp
 refine ⟨fun _ h=>⟨h.1,rfl⟩,fun q hq=>?_,by simp,hf⟩
 simp only [List.mem_singleton] at hq
 subst hq
 exact ⟨fun h=>h.2 rfl,hlt,hp⟩
def LeL:List AV->List AV->Prop
 | [],[]=>True
 | a::as,b::bs=>Le a b/\LeL as bs
 | _,_=>False
theorem LeL.get {as bs:List AV} (h:LeL as bs):as.length=bs.length/\∀(i:Nat) (c d:AV),as[i]?=some c->bs[i]?=some d->Le c d:=by
 induction as generalizing bs with
 | nil=>cases bs with
  | nil=>exact ⟨rfl,fun i c d h=>by simp at h⟩
  | cons b bs=>exact h.elim
 | cons a as ih=>cases bs with
  | nil=>exact h.elim
  | cons b bs =>
   obtain ⟨h1,h2⟩:=ih h.2
   refine ⟨by simp [h1],fun i c d hc hd=>?_⟩
   cases i with
   | zero=>simp at hc hd;subst hc hd;exact h.1
   | succ i=>exact h2 i c d (by simpa using hc) (by simpa using hd)
theorem Le.tupL {as bs:List AV} (h:LeL as bs):Le (.tup as) (.tup bs):=.tup as bs h.get.1 h.get.2
theorem Le.aggL {as bs:List AV} (h:LeL as bs):Le (.agg as) (.agg bs):=.agg as bs h.get.1 h.get.2
theorem LeL.refl:∀as:List AV,LeL as as
 | []=>trivial
 | a::as=>⟨.refl a,LeL.refl as⟩
section
variable {P:Program}
theorem VRs.le {G:Gh} {H:zaa} {w:World} {as bs:List AV} {vs:Array Value} (hl:LeL as bs) (h:VRs G H w bs vs):VRs G H w as vs:=by
 refine ⟨by rw [h.1,hl.get.1],fun i c x hc hx=>?_⟩
 have hi:i<bs.length:=by have:=(List.getElem?_eq_some_iff.1 hc).1;rw [hl.get.1] at this;exact this
 exact (h.2 i bs[i] x (List.getElem?_eq_getElem hi) hx).le (hl.get.2 i c _ hc (List.getElem?_eq_getElem hi))
theorem zaR.le {k:FuncId} {as bs:List AV} {r:AV} (h:zaR P k as r) (hl:LeL as bs):zaR P k bs r:=fun H g hf =>
 ⟨(h H g hf).1,fun G w vs hp hv=>(h H g hf).2 G w vs hp (hv.le hl)⟩
end
theorem zfN.le {P:Program} {k:FuncId} {as bs:List AV} {id:Nat} {cs ds:List AV} {r:AV} (h:zfN P k as id cs r ds) (hl:LeL as bs):zfN P k bs id cs r ds:=fun H g hf hc =>
 ⟨(h H g hf hc).1,fun G w vs hp hv=>(h H g hf hc).2 G w vs hp (hv.le hl)⟩
theorem LeL.nil:LeL [] []:=trivial
theorem LeL.cons {a b:AV} {as bs:List AV} (h:Le a b) (r:LeL as bs):LeL (a::as) (b::bs):=⟨h,r⟩
def FLe (l:List (Nat×AV)):List (Nat×AV)->Prop
 | []=>True
 | p::r=>Le p.2 (lk l p.1)/\FLe l r
theorem FLe.nil {l:List (Nat×AV)}:FLe l []:=trivial
theorem FLe.cons {l l0:List (Nat×AV)} {t:Nat} {v:AV} (h:Le v (lk l t)) (r:FLe l l0):FLe l ((t,v)::l0):=⟨h,r⟩
theorem FLe.le {l l0:List (Nat×AV)} (h:FLe l l0):zkh (Fr.of l0) (Fr.of l):=by
 refine of_le ?_
 induction l0 with
 | nil=>intro p hp;simp at hp
 | cons q l0 ih =>
  intro p hp
  rcases List.mem_cons.1 hp with rfl | hp
  ·exact h.1
  ·exact ih h.2 p hp
theorem zaj {α β:Type} {o:Option α} {f:α->Option β} {r:β} (h:o.bind f=some r):∃x,o=some x/\f x=some r:=Option.bind_eq_some_iff.1 h
theorem ifT {α:Type} {e:Bool} {x y:Option α} {r:α} (h:(if e=true then x else y)=some r) (he:e=true):x=some r:=by rwa [if_pos he] at h
theorem ifF {α:Type} {e:Bool} {x y:Option α} {r:α} (h:(if e=true then x else y)=some r) (he:e=false):y=some r:=by rwa [if_neg (by simp [he])] at h
def w64 (x:Int):Int:=IntKind.i64.wrap x
def idx {α:Type} (xs:List α) (i:Int):Option α:=if 0<=i then xs[i.toNat]? else none
def quo (a b:Int):Option Int:=if b=0 then none else some (w64 (a.tdiv b))
def rem (a b:Int):Option Int:=if b=0 then none else some (a.tmod b)
def zqt (xs:List Int) (z v:Int):Option (List Int):=if 0<=z/\z<xs.length then some (xs.set z.toNat v) else none
def zoC {κ:Type} [DecidableEq κ]:List (κ×Int)->κ->Int
 | [],_=>0
 | p::M,k=>if p.1=k then p.2 else zoC M k
def zbt {κ ν:Type} [DecidableEq κ]:List (κ×ν)->κ->Bool
 | [],_=>false
 | p::M,k=>if p.1=k then true else zbt M k
def zf8 {κ ν:Type} [DecidableEq κ]:List (κ×ν)->κ->ν->List (κ×ν)
 | [],k,v=>[(k,v)]
 | p::M,k,v=>if p.1=k then (k,v)::M else p::zf8 M k v
def zkB {κ ν:Type} [DecidableEq κ]:List (κ×ν)->κ->Nat
 | [],_=>0
 | p::M,k=>if p.1=k then 0 else zkB M k+1
def mok {κ ν:Type} [DecidableEq κ] (ok:κ->Bool) (M:List (κ×ν)) (k:κ):Bool:=ok k&&M.all (fun p=>ok p.1)&&decide ((M.map (·.1)).Nodup)
def zrF {κ:Type} [DecidableEq κ] (ok:κ->Bool) (M:List (κ×Int)) (k:κ):Option Int:=if mok ok M k=true then some (zoC M k) else none
def zhp {κ ν:Type} [DecidableEq κ] (ok:κ->Bool) (M:List (κ×ν)) (k:κ) (v:ν):Option (List (κ×ν)):=if mok ok M k=true then some (zf8 M k v) else none
def zgO {κ ν:Type} [DecidableEq κ] (z:ν):List (κ×ν)->κ->ν
 | [],_=>z
 | p::M,k=>if p.1=k then p.2 else zgO z M k
def zgz {κ ν:Type} [DecidableEq κ] (ok:κ->Bool) (z:ν) (M:List (κ×ν)) (k:κ):Option ν:=if mok ok M k=true then some (zgO z M k) else none
def okI (x:Int):Bool:=(Lit.int .i64 x).wf
def kvI (x:Int):Value:=.int .i64 x
def ins (x:Int):List Int->List Int
 | []=>[x]
 | y::l=>if x<=y then x::y::l else y::ins x l
def zgp (l:List Int):List Int:=l.foldr ins []
def app {α:Type} (xs ys:List α):Option (List α):=if xs.length+ys.length<=1048576 then some (xs++ys) else none
theorem zrG {α β:Type} {xs:List α} {i:Int} {x:α} (f:α->β) (h:idx xs i=some x):0<=i/\(xs.map f)[i.toNat]?=some (f x):=by
 unfold idx at h
 split at h
 ·exact ⟨by assumption,by rw [List.getElem?_map,h];rfl⟩
 ·cases h
abbrev cI (x:Int):List AV:=[.v (.int .i64 x)]
abbrev cL {α:Type} (k:Nat) (f:α->List AV) (xs:List α):List AV:=[.sl .no k (xs.map f)]
section
variable {P:Program} {N:Nat} {Q:Exit->Fr->zaa->Nat->Prop} {l:List (Nat×AV)} {H:zaa} {g:Nat} {a b c:Code}
theorem zg8 (l':List (Nat×AV)) (hl:FLe l l') (h:wpA P N b Q (Fr.of l') H g) :
  Exit.thenA (fun fr' H' g'=>∃fr0 H0 g0,zjc fr' H' g' fr0 H0 g0/\wpA P N b Q fr0 H0 g0) Q .normal (Fr.of l) H g:=⟨_,H,g,.le hl.le H g,h⟩
theorem zaY {J:Type} (fr:J->List (Nat×AV)) (R:J->zaa->Nat->Prop) (hb:∀j H g,R j H g->wpA P N b Q (Fr.of (fr j)) H g)
  (ha:wpA P N a (Exit.thenA (fun fr' H' g'=>∃j,zkh (Fr.of (fr j)) fr'/\R j H' g') Q) (Fr.of l) H g):wpA P N (.seq a b) Q (Fr.of l) H g:=by
 refine zv6 (l:=l) ?_
 refine zlS ha fun e fr' H' g' hq=>?_
 cases e with
 | normal =>
  obtain ⟨j,hle,hR⟩:=hq
  exact ⟨_,_,_,.le hle H' g',hb j H' g' hR⟩
 | _=>exact hq
theorem zai {J:Type} {fr:J->List (Nat×AV)} {R:J->zaa->Nat->Prop} (j:J) (hl:FLe l (fr j)) (hR:R j H g) :
  Exit.thenA (fun fr' H' g'=>∃j,zkh (Fr.of (fr j)) fr'/\R j H' g') Q .normal (Fr.of l) H g:=⟨j,hl.le,hR⟩
theorem zcn {J:Type} {fr:J->List (Nat×AV)} {R:J->zaa->Nat->Prop} (h:Q .ret (Fr.of l) H g) :
  Exit.thenA (fun fr' H' g'=>∃j,zkh (Fr.of (fr j)) fr'/\R j H' g') Q .ret (Fr.of l) H g:=h
theorem zhq {o:Operand} {e:Bool} (hc:evL N l o=.v (.bool e)) (he:e=true) (h:wpA P N a Q (Fr.of l) H g):wpA P N (.cond o a b) Q (Fr.of l) H g:=zv7 (by rw [hc,he]) h
theorem zeV {o:Operand} {e:Bool} (hc:evL N l o=.v (.bool e)) (he:e=false) (h:wpA P N b Q (Fr.of l) H g):wpA P N (.cond o a b) Q (Fr.of l) H g:=zuW (by rw [hc,he]) h
theorem zco {V:Type} (fr:V->List (Nat×AV)) (R:V->Nat->zaa->Nat->Prop) {n:Nat} (v:V) (hle:FLe l (fr v)) (h0:R v n H g)
  (h:∀v n H g,R v n H g->wpA P N c (Exit.thenA (fun fr' H' g'=>∃m v,m<n/\zkh (Fr.of (fr v)) fr'/\R v m H' g') Q) (Fr.of (fr v)) H g):wpA P N (.loop c) Q (Fr.of l) H g:=by
 refine zv8 (fun n l H g=>∃v,l=fr v/\R v n H g) hle.le ⟨v,rfl,h0⟩ ?_
 rintro n l H g ⟨v,rfl,hR⟩ _
 refine zlS (h v n H g hR) fun e fr' H' g' hq=>?_
 cases e with
 | normal =>
  obtain ⟨m,v',hm,hle,hR'⟩:=hq
  exact ⟨m,_,hm,hle,v',rfl,hR'⟩
 | _=>exact hq
theorem zbo {V:Type} {fr:V->List (Nat×AV)} {R:V->Nat->zaa->Nat->Prop} {n m:Nat} (v:V) (hm:m<n) (hl:FLe l (fr v)) (hR:R v m H g) :
  Exit.thenA (fun fr' H' g'=>∃m v,m<n/\zkh (Fr.of (fr v)) fr'/\R v m H' g') Q .normal (Fr.of l) H g:=⟨m,v,hm,hl.le,hR⟩
end
section
variable {Q:Exit->Fr->zaa->Nat->Prop} {l:List (Nat×AV)} {H:zaa} {g:Nat}
theorem zau {V:Type} {fr:V->List (Nat×AV)} {R:V->Nat->zaa->Nat->Prop} {n id:Nat} (h:Q (.exit id) (Fr.of l) H g) :
  Exit.thenA (fun fr' H' g'=>∃m v,m<n/\zkh (Fr.of (fr v)) fr'/\R v m H' g') Q (.exit id) (Fr.of l) H g:=h
theorem zbA {V:Type} {fr:V->List (Nat×AV)} {R:V->Nat->zaa->Nat->Prop} {n:Nat} (h:Q .ret (Fr.of l) H g) :
  Exit.thenA (fun fr' H' g'=>∃m v,m<n/\zkh (Fr.of (fr v)) fr'/\R v m H' g') Q .ret (Fr.of l) H g:=h
end
theorem zaJ:∀c,c∈([]:List AV)->Pure c:=fun _ h=>by simp at h
theorem zab {c:AV} {cs:List AV} (h:Pure c) (hs:∀c,c∈cs->Pure c):∀d,d∈c::cs->Pure d:=fun d hd=>by
 rcases List.mem_cons.1 hd with rfl | hd
 ·exact h
 ·exact hs d hd
theorem zaA {α:Type} {f:α->List AV} {xs:List α} (h:∀x,∀c,c∈f x->Pure c):∀e,e∈xs.map f->∀c,c∈e->Pure c:=fun e he=>by
 obtain ⟨x,_,rfl⟩:=List.mem_map.1 he
 exact h x
def Ok (lim:Option Nat) (ops:Array Oper) (i j:Nat):Prop:=∀g0,lim=some g0->(decide (j<g0) || behind ops ops.size i (j-g0))=true
theorem Ok.no {ops:Array Oper} {i j:Nat}:Ok none ops i j:=fun _ h=>by cases h
theorem Ok.lt {ops:Array Oper} {i j g0:Nat} (h:j<g0):Ok (some g0) ops i j:=fun _ e=>by injection e with e;subst e;simp [h]
theorem Ok.st {O:Nat->Prop} {H0 H:zaa} {L:List (Nat×Blk)} {b:Nat} {ops:Array Oper} {i j g0:Nat} {x:Blk} (hS:St O H0 L H b) (n:Nat) (hn:L[n]?=some (j,x)) (hb:b<=g0):Ok (some g0) ops i j :=
 .lt (Nat.lt_of_lt_of_le (hS.has _ (List.mem_of_getElem? hn)).2.1 hb)
theorem Ok.behind {ops:Array Oper} {i k g0:Nat} (h:behind ops ops.size i k=true):Ok (some g0) ops i (g0+k):=fun _ e=>by
 injection e with e
 subst e
 rw [show g0+k-g0=k by omega,h,Bool.or_true]
section
variable {P:Program} {N:Nat} {l:List (Nat×AV)} {H:zaa} {g:Nat} {lim:Option Nat} {g0 i:Nat} {ops:Array Oper} {K:Fr->zaa->Nat->Prop} {r:List Oper} {d:Nat} {op:Op} {ty:TypeId} {pos:String} {after:Array Edge}
 {O:Nat->Prop} {H0:zaa} {L:List (Nat×Blk)} {b:Nat}
theorem ztA {j:Nat} {want e:Bool} {dst:Option Tmp} (hg:gd ops N (Fr.of l) j=some (some e)) (he:e=want) (h:zaL P N lim g0 ops K i (⟨dst,op,ty,pos,after,none⟩::r) (Fr.of l) H g) :
  zaL P N lim g0 ops K i (⟨dst,op,ty,pos,after,some (j,want)⟩::r) (Fr.of l) H g:=zkA hg (fun _=>h) (fun hn=>absurd (by rw [he]) hn)
theorem zb7 {j:Nat} {want e:Bool} (hd:d<N) (hg:gd ops N (Fr.of l) j=some (some e)) (he:e=!want) (h:zaL P N lim g0 ops K (i+1) r (Fr.of ((d,.tup [])::l)) H g) :
  zaL P N lim g0 ops K i (⟨some d,op,ty,pos,after,some (j,want)⟩::r) (Fr.of l) H g:=zkA hg (fun e'=>by rw [he] at e';cases want<;>cases e') (fun _=>by rw [zdP hd];exact h)
theorem zam {j:Nat} {want:Bool} (hd:d<N) (hg:gd ops N (Fr.of l) j=some none) (h:zaL P N lim g0 ops K (i+1) r (Fr.of ((d,.tup [])::l)) H g) :
  zaL P N lim g0 ops K i (⟨some d,op,ty,pos,after,some (j,want)⟩::r) (Fr.of l) H g:=zkA hg (fun e'=>by cases e') (fun _=>by rw [zdP hd];exact h)
theorem zv9 {x:Operand} {v:AV} (hd:d<N) (hx:evL N l x=v) (h:zaL P N lim g0 ops K (i+1) r (Fr.of ((d,v)::l)) H g):zaL P N lim g0 ops K i (⟨some d,.move x,ty,pos,after,none⟩::r) (Fr.of l) H g :=
 za3 (v:=v) (wr:=none) hd rfl (by cases lim<;>rfl) (by simp [zat,hx]) h
theorem ztB {x:Operand} {v:AV} (hd:d<N) (hx:evL N l x=v) (h:zaL P N lim g0 ops K (i+1) r (Fr.of ((d,v)::l)) H g):zaL P N lim g0 ops K i (⟨some d,.assign x,ty,pos,after,none⟩::r) (Fr.of l) H g :=
 za3 (v:=v) (wr:=none) hd rfl (by cases lim<;>rfl) (by simp [zat,hx]) h
theorem zbN {c x y:Operand} {v:AV} {e:Bool} (hd:d<N) (hc:evL N l c=.v (.bool e)) (he:e=true) (hx:evL N l x=v) (h:zaL P N lim g0 ops K (i+1) r (Fr.of ((d,v)::l)) H g):zaL P N lim g0 ops K i (⟨some d,.pick c x y,ty,pos,after,none⟩::r) (Fr.of l) H g :=
 za3 (v:=v) (wr:=none) hd rfl (by cases lim<;>rfl) (by simp [zat,hc,he,hx]) h
theorem zcJ {c x y:Operand} {v:AV} {e:Bool} (hd:d<N) (hc:evL N l c=.v (.bool e)) (he:e=false) (hy:evL N l y=v) (h:zaL P N lim g0 ops K (i+1) r (Fr.of ((d,v)::l)) H g):zaL P N lim g0 ops K i (⟨some d,.pick c x y,ty,pos,after,none⟩::r) (Fr.of l) H g :=
 za3 (v:=v) (wr:=none) hd rfl (by cases lim<;>rfl) (by simp [zat,hc,he,hy]) h
theorem zmp {bo:BinOp} {t t':TypeId} {x y:Operand} {k:IntKind} {m n:Int} {v:AV} (hd:d<N) (hx:evL N l x=.v (.int k m)) (hy:evL N l y=.v (.int k n)) (hv:ziu bo k m n=some v)
  (h:zaL P N lim g0 ops K (i+1) r (Fr.of ((d,v)::l)) H g):zaL P N lim g0 ops K i (⟨some d,.binOp bo t x y t',ty,pos,after,none⟩::r) (Fr.of l) H g:=by
 have hs:znb bo k m n=none:=by
  unfold znb
  split
  ·cases hv
  ·cases hv
  ·rfl
 exact za3 (v:=v) (wr:=none) hd rfl (by cases lim<;>rfl) (by simp [zat,hx,hy,zv0,hv,hs]) h
theorem zoD {m n:Int} {q:Int} (h:quo m n=some q):ziu .quo .i64 m n=some (.v (.int .i64 q)):=by
 unfold quo at h
 simp only [ziu]
 split at h
 ·cases h
 ·injection h with h
  rw [if_neg (by assumption),←h]
  rfl
theorem zuZ {m n:Int} {q:Int} (h:rem m n=some q):ziu .rem .i64 m n=some (.v (.int .i64 q)):=by
 unfold rem at h
 simp only [ziu]
 split at h
 ·cases h
 ·injection h with h
  rw [if_neg (by assumption),←h]
theorem zyf {t t':TypeId} {x y:Operand} {cs ds:List AV} {e:Bool} (hd:d<N) (hx:evL N l x=.agg cs) (hy:evL N l y=.agg ds) (ht:zey P t=some cs.length) (he:zbd cs ds=some e)
  (h:zaL P N lim g0 ops K (i+1) r (Fr.of ((d,.v (.bool e))::l)) H g):zaL P N lim g0 ops K i (⟨some d,.binOp .eql t x y t',ty,pos,after,none⟩::r) (Fr.of l) H g :=
 za3 (wr:=none) hd rfl (by cases lim<;>rfl) (by simp [zat,hx,hy,zv0,ht,he]) h
theorem zc5 {t:TypeId} {x:Operand} {e:Bool} (hd:d<N) (hx:evL N l x=.v (.bool e)) (h:zaL P N lim g0 ops K (i+1) r (Fr.of ((d,.v (.bool (!e)))::l)) H g):zaL P N lim g0 ops K i (⟨some d,.unOp .not t x,ty,pos,after,none⟩::r) (Fr.of l) H g :=
 za3 (wr:=none) hd rfl (by cases lim<;>rfl) (by simp [zat,hx]) h
theorem zaO {f:Operand} {args:Array Operand} {ts:Array TypeId} {k:FuncId} {first cap bs:List AV} {v:AV} (hd:d<N) (ht:tgt (evL N l f)=some (k,first,cap)) (ha:first++args.toList.map (evL N l)++cap=bs)
  (hs:zaR P k bs v) (h:zaL P N lim g0 ops K (i+1) r (Fr.of ((d,v)::l)) H g) :
  zaL P N lim g0 ops K i (⟨some d,.call { callee:=.value f,args:=args,argTypes:=ts },ty,pos,after,none⟩::r) (Fr.of l) H g:=run_pure hd ht ha hs h
theorem zwa {ops:Array Oper} {i j:Nat}:zp6 none ops i j=true:=rfl
theorem zyg {f:Operand} {args:Array Operand} {ts:Array TypeId} {k:FuncId} {first cap bs:List AV} {v:AV} {j:Nat} {cs ds:List AV} {L':List (Nat×Blk)} (n:Nat) (hS:St O H0 L H b) (hd:d<N) (ht:tgt (evL N l f)=some (k,first,cap)) (ha:first++args.toList.map (evL N l)++cap=bs)
  (hn:L[n]?=some (j,.cells cs)) (hm:zp6 lim ops i j=true) (hs:zfN P k bs j cs v ds) (hL:putAt L n (.cells ds)=L') (h:∀H',St O H0 L' H' b->zaL P N lim g0 ops K (i+1) r (Fr.of ((d,v)::l)) H' g) :
  zaL P N lim g0 ops K i (⟨some d,.call { callee:=.value f,args:=args,argTypes:=ts },ty,pos,after,none⟩::r) (Fr.of l) H g:=by
 simp only [zaL,zbs,opQ,zbz,zea,ht,ha]
 refine zeR.mu hm (hS.get hn) hs ?_
 rw [zdP hd]
 exact h _ (hL▸hS.put hn _)
theorem zwb {f:Operand} {args:Array Operand} {ts:Array TypeId} {k:FuncId} {first cap bs:List AV} {v x:AV} {j off:Nat} {cs:List AV} {L':List (Nat×Blk)} (n:Nat) (hS:St O H0 L H b) (hd:d<N) (ht:tgt (evL N l f)=some (k,first,cap)) (ha:first++args.toList.map (evL N l)++cap=.ptr j off::bs)
  (hn:L[n]?=some (j,.cells cs)) (hm:zlD lim ops i j=true) (hs:zfN P k (.ptr j off::bs) j cs v (cs.set off x)) (hL:putAt L n (.cells (cs.set off x))=L') (h:∀H',St O H0 L' H' b->zaL P N lim g0 ops K (i+1) r (Fr.of ((d,v)::l)) H' g) :
  zaL P N lim g0 ops K i (⟨some d,.call { callee:=.value f,args:=args,argTypes:=ts },ty,pos,after,none⟩::r) (Fr.of l) H g:=by
 simp only [zaL,zbs,opQ,zbz,zea,ht,ha]
 refine zeR.ta hm rfl (hS.get hn) hs ?_
 rw [zdP hd]
 exact h _ (hL▸hS.put hn _)
theorem zwc {O:Nat->Prop} {H0 H:zaa} {L:List (Nat×Blk)} {b:Nat} {ops:Array Oper} {i j g0:Nat} {x:Blk} (hq:(znd ops i).isSome=true) (hS:St O H0 L H b) (n:Nat) (hn:L[n]?=some (j,x)) (hb:b<=g0):zlD (some g0) ops i j=true:=by
 have:=(hS.has _ (List.mem_of_getElem? hn)).2.1
 simp [zlD,hq,show j<g0 from by simp at this;omega]
theorem za4 {t:TypeId} {cs:List AV} (hS:St O H0 L H b) (hd:d<N) (hz:zdK P t=some cs) (hb:b<=g0+i)
  (h:∀H',St O H0 ((g0+i,.cells cs)::L) H' (g0+i+1)->zaL P N lim g0 ops K (i+1) r (Fr.of ((d,.ptr (g0+i) 0)::l)) H' g):zaL P N lim g0 ops K i (⟨some d,.alloc t,ty,pos,after,none⟩::r) (Fr.of l) H g :=
 za3 (wr:=some (g0+i,.cells cs)) hd rfl (by cases lim<;>rfl) (by simp [zat,hz]) (h _ (hS.add _ hb))
theorem zcg {t:TypeId} {x:Operand} {v:AV} {cs:List AV} (hS:St O H0 L H b) (hd:d<N) (hx:evL N l x=v) (hc:cellsOf v=some cs) (hb:b<=g0+i)
  (h:∀H',St O H0 ((g0+i,.cells cs)::L) H' (g0+i+1)->zaL P N lim g0 ops K (i+1) r (Fr.of ((d,.ptr (g0+i) 0)::l)) H' g):zaL P N lim g0 ops K i (⟨some d,.box t x,ty,pos,after,none⟩::r) (Fr.of l) H g :=
 za3 (wr:=some (g0+i,.cells cs)) hd rfl (by cases lim<;>rfl) (by simp [zat,hx,hc]) (h _ (hS.add _ hb))
theorem zpl {t:TypeId} {cs ds:List AV} {off k:Nat} (h:zax P t=some k) (hl:off+k<=cs.length) (hc:(cs.drop off).take k=ds):zdZ P t cs off=some (.agg ds):=by simp [zdZ,h,hl,hc]
theorem ziA {t:TypeId} {cs:List AV} {off:Nat} {v:AV} (h:zax P t=none) (hs:scalar P t=true) (hc:cs[off]?=some v):zdZ P t cs off=some v:=by simp [zdZ,h,hs,hc]
theorem zaK {t:TypeId} {x:Operand} {j off:Nat} {cs:List AV} {v:AV} (n:Nat) (hS:St O H0 L H b) (hd:d<N) (hx:evL N l x=.ptr j off) (hn:L[n]?=some (j,.cells cs)) (ho:Ok lim ops i j) (hp:zdZ P t cs off=some v)
  (h:zaL P N lim g0 ops K (i+1) r (Fr.of ((d,v)::l)) H g):zaL P N lim g0 ops K i (⟨some d,.load t x,ty,pos,after,none⟩::r) (Fr.of l) H g :=
 za3 (wr:=none) hd rfl (by
  cases hlim:lim with
  | none=>rfl
  | some q=>simpa [old,hx] using ho q hlim) (by simp [zat,hx,hS.get hn,hp]) h
theorem zoE {t:TypeId} {x:Operand} {cs:List AV} {v:AV} (hd:d<N) (hx:evL N l x=.ep cs) (hp:zdZ P t cs 0=some v)
  (h:zaL P N lim g0 ops K (i+1) r (Fr.of ((d,v)::l)) H g):zaL P N lim g0 ops K i (⟨some d,.load t x,ty,pos,after,none⟩::r) (Fr.of l) H g :=
 za3 (wr:=none) hd rfl (by cases lim<;>simp [old,hx]) (by simp [zat,hx,hp]) h
theorem zaC {t:TypeId} {x y:Operand} {j off:Nat} {cs ns:List AV} {v:AV} {L':List (Nat×Blk)} (n:Nat) (hS:St O H0 L H b) (hx:evL N l x=.ptr j off) (hn:L[n]?=some (j,.cells cs)) (ho:Ok lim ops i j)
  (hy:evL N l y=v) (hc:cellsOf v=some ns) (hv:zar P t=some ns.length) (hl:off+ns.length<=cs.length) (hL:putAt L n (.cells (zdL cs off ns))=L')
  (h:∀H',St O H0 L' H' b->zaL P N lim g0 ops K (i+1) r (Fr.of l) H' g):zaL P N lim g0 ops K i (⟨none,.store t x y,ty,pos,after,none⟩::r) (Fr.of l) H g :=
 zho (v:=.any) (wr:=some (j,.cells (zdL cs off ns))) rfl (by
  cases hlim:lim with
  | none=>rfl
  | some q=>simpa [old,hx] using ho q hlim) (by simp [zat,hx,hS.get hn,hy,hc,hv,hl]) (h _ (hL▸hS.put hn _))
theorem zhr {x:Operand} {j off:Nat} (hd:d<N) (hx:evL N l x=.ptr j off) (h:zaL P N lim g0 ops K (i+1) r (Fr.of ((d,.ptr j off)::l)) H g):zaL P N lim g0 ops K i (⟨some d,.nilCheck x,ty,pos,after,none⟩::r) (Fr.of l) H g :=
 za3 (wr:=none) hd rfl (by cases lim<;>rfl) (by simp [zat,hx]) h
theorem zlT {x:Operand} {cs:List AV} (hd:d<N) (hx:evL N l x=.ep cs) (h:zaL P N lim g0 ops K (i+1) r (Fr.of ((d,.ep cs)::l)) H g):zaL P N lim g0 ops K i (⟨some d,.nilCheck x,ty,pos,after,none⟩::r) (Fr.of l) H g :=
 za3 (wr:=none) hd rfl (by cases lim<;>rfl) (by simp [zat,hx]) h
theorem zap {s f:Nat} {x:Operand} {j off k:Nat} (hd:d<N) (hk:zaH P s f=some k) (hx:evL N l x=.ptr j off) (h:zaL P N lim g0 ops K (i+1) r (Fr.of ((d,.ptr j (off+k))::l)) H g):zaL P N lim g0 ops K i (⟨some d,.fieldAddr s x f,ty,pos,after,none⟩::r) (Fr.of l) H g :=
 za3 (wr:=none) hd rfl (by cases lim<;>rfl) (by simp [zat,hk,hx]) h
theorem ztC {s f:Nat} {x:Operand} {cs:List AV} {k:Nat} (hd:d<N) (hk:zaH P s f=some k) (hx:evL N l x=.ep cs) (h:zaL P N lim g0 ops K (i+1) r (Fr.of ((d,.ep (cs.drop k))::l)) H g):zaL P N lim g0 ops K i (⟨some d,.fieldAddr s x f,ty,pos,after,none⟩::r) (Fr.of l) H g :=
 za3 (wr:=none) hd rfl (by cases lim<;>rfl) (by simp [zat,hk,hx]) h
theorem zrH {x:Operand} {n:Nat} {vs:List AV} {v:AV} (hd:d<N) (hx:evL N l x=.tup vs) (hn:vs[n]?=some v) (h:zaL P N lim g0 ops K (i+1) r (Fr.of ((d,v)::l)) H g):zaL P N lim g0 ops K i (⟨some d,.extract x n,ty,pos,after,none⟩::r) (Fr.of l) H g :=
 za3 (wr:=none) hd rfl (by cases lim<;>rfl) (by simp [zat,hx,hn]) h
theorem za8 {α:Type} {t:TypeId} {x y:Operand} {tg:Tag} {k:Nat} {xs:List α} {f:α->List AV} {z:Int} {u:α} (hd:d<N) (hx:evL N l x=.sl tg k (xs.map f)) (hy:evL N l y=.v (.int .i64 z)) (hk:zaF P t=some k) (hu:idx xs z=some u)
  (h:zaL P N lim g0 ops K (i+1) r (Fr.of ((d,.ep (f u))::l)) H g):zaL P N lim g0 ops K i (⟨some d,.indexAddr t x y,ty,pos,after,none⟩::r) (Fr.of l) H g:=by
 obtain ⟨h0,h1⟩:=zrG f hu
 refine za3 (wr:=none) hd rfl (by cases lim<;>rfl) ?_ h
 simp only [zat,hx,hy,zfM,if_pos h0,Option.bind_some,hk,if_true,h1,Option.map_some]
theorem zmq {t:TypeId} {x y:Operand} {cs:List AV} {z:Int} {q:Nat×TypeId×Nat} {v:AV} (hd:d<N) (hx:evL N l x=.agg cs) (hy:evL N l y=.v (.int .i64 z)) (hq:zp5 P t=some q) (hz:0<=z) (hn:z.toNat<q.1) (hp:zdZ P q.2.1 cs (z.toNat*q.2.2)=some v)
  (h:zaL P N lim g0 ops K (i+1) r (Fr.of ((d,v)::l)) H g):zaL P N lim g0 ops K i (⟨some d,.index t x y,ty,pos,after,none⟩::r) (Fr.of l) H g :=
 za3 (wr:=none) hd rfl (by cases lim<;>rfl) (by simp only [zat,hx,hy,zfM,if_pos hz,Option.bind_some,hq,if_pos hn,hp,Option.map_some]) h
theorem zb9 {t ty':TypeId} {x:Operand} {tg:Tag} {k n:Nat} {es:List (List AV)} (hd:d<N) (hx:evL N l x=.sl tg k es) (hn:es.length=n) (ht:isSlice P t=true)
  (h:zaL P N lim g0 ops K (i+1) r (Fr.of ((d,.v (.int .i64 n))::l)) H g):zaL P N lim g0 ops K i (⟨some d,.call { callee:=.builtin .len,args:=#[x],argTypes:=#[t] },ty',pos,after,none⟩::r) (Fr.of l) H g :=
 za3 (wr:=none) hd rfl (by cases lim<;>rfl) (by simp [zat,hx,ht,hn]) h
theorem zu0 {xs:Array Operand} {ts:Array TypeId} {v:AV} (hd:d<N) (hv:zxl (xs.toList.map (evL N l))=some v) (h:zaL P N lim g0 ops K (i+1) r (Fr.of ((d,v)::l)) H g) :
  zaL P N lim g0 ops K i (⟨some d,.call { callee:=.builtin .min,args:=xs,argTypes:=ts },ty,pos,after,none⟩::r) (Fr.of l) H g :=
 za3 (wr:=none) hd rfl (by cases lim<;>rfl) (by simp only [zat,hv,Option.map_some]) h
theorem zyh {xs:Array Operand} {ts:Array TypeId} {v:AV} (hd:d<N) (hv:zxm (xs.toList.map (evL N l))=some v) (h:zaL P N lim g0 ops K (i+1) r (Fr.of ((d,v)::l)) H g) :
  zaL P N lim g0 ops K i (⟨some d,.call { callee:=.builtin .max,args:=xs,argTypes:=ts },ty,pos,after,none⟩::r) (Fr.of l) H g :=
 za3 (wr:=none) hd rfl (by cases lim<;>rfl) (by simp only [zat,hv,Option.map_some]) h
theorem zbf {t:TypeId} {ps:Array (Nat×Operand)} {z:List AV} {pl:List (Nat×Nat)} {cs:List AV} (hd:d<N) (hz:zdK P t=some z) (hp:places P t=some pl) (hf:zlq pl z (ps.toList.map fun q=>(q.1,evL N l q.2))=some cs)
  (h:zaL P N lim g0 ops K (i+1) r (Fr.of ((d,.agg cs)::l)) H g):zaL P N lim g0 ops K i (⟨some d,.build t ps,ty,pos,after,none⟩::r) (Fr.of l) H g :=
 za3 (wr:=none) hd rfl (by cases lim<;>rfl) (by simp only [zat,hz,hp,hf,Option.bind_some,Option.map_some]) h
theorem zcL {fn:Fn} {x y:Array Operand} {first cap:List AV} (hd:d<N) (h1:x.toList.map (evL N l)=first) (h2:y.toList.map (evL N l)=cap) (h:zaL P N lim g0 ops K (i+1) r (Fr.of ((d,.fn fn first cap)::l)) H g) :
  zaL P N lim g0 ops K i (⟨some d,.makeFunc fn x y,ty,pos,after,none⟩::r) (Fr.of l) H g :=
 za3 (wr:=none) hd rfl (by cases lim<;>rfl) (by simp only [zat,h1,h2]) h
theorem zbg {t:TypeId} {n k:Nat} {e:TypeId} {ps:Array (Nat×Operand)} {es:List (List AV)} (hS:St O H0 L H b) (hd:d<N) (hk:zaF P t=some k) (he:zcy P t=some e) (hp:zb8 k 0 (ps.toList.map fun q=>(q.1,evL N l q.2))=some es) (hf:za6 P t=true) (hn:es.length=n) (hnk:n*k<=1048576) (hb:b<=g0+i)
  (h:∀H',St O H0 ((g0+i,.row e n)::L) H' (g0+i+1)->zaL P N lim g0 ops K (i+1) r (Fr.of ((d,.sl (.id (g0+i)) k es)::l)) H' g):zaL P N lim g0 ops K i (⟨some d,.buildSlice t n ps,ty,pos,after,none⟩::r) (Fr.of l) H g :=
 za3 (v:=.sl (.id (g0+i)) k es) (wr:=some (g0+i,.row e n)) hd rfl (by cases lim<;>rfl) (by simp only [zat,hk,hp,Option.bind_some];rw [if_pos ⟨hf,hn,hnk⟩];simp only [he,Option.bind_some]) (h _ (hS.add _ hb))
theorem zoF {P:Program} {t:TypeId} {n:Nat} (h:n<=1048576):zog P t n=true:=by
 unfold zog
 simp [h]
theorem zj2 {α:Type} {t e:TypeId} {x y:Operand} {τ k:Nat} {tg:Tag} {xs ys zs:List α} {f:α->List AV} {L':List (Nat×Blk)} {m:Nat} (n:Nat) (hS:St O H0 L H b) (hd:d<N) (hx:evL N l x=.sl (.id τ) k (xs.map f)) (hy:evL N l y=.sl tg k (ys.map f))
  (hn:L[n]?=some (τ,.row e m)) (hm:m=xs.length) (ho:Ok lim ops i τ) (hk:zaF P t=some k) (he:zcy P t=some e) (hf:za6 P t=true) (hz:app xs ys=some zs) (hL:putAt L n (.row e zs.length)=L')
  (h:∀H',St O H0 L' H' b->zaL P N lim g0 ops K (i+1) r (Fr.of ((d,.sl (.id τ) k (zs.map f))::l)) H' g) :
  zaL P N lim g0 ops K i (⟨some d,.call { callee:=.builtin .append,args:=#[x,y],argTypes:=#[t,t] },ty,pos,after,none⟩::r) (Fr.of l) H g:=by
 unfold app at hz
 split at hz
 case isFalse=>cases hz
 injection hz with hz
 subst hm
 refine za3 (v:=.sl (.id τ) k (zs.map f)) (wr:=some (τ,.row e zs.length)) hd rfl ?_ ?_ (h _ (hL▸hS.put hn _))
 ·cases hlim:lim with
  | none=>rfl
  | some q=>simpa [old,hx] using ho q hlim
 ·simp only [zat,List.map_cons,List.map_nil,hx,hy,if_true,zeQ]
  rw [if_pos ⟨hf,zoF (by simpa using by assumption),.inl hk⟩]
  simp only [hS.get hn]
  rw [if_pos ⟨hk,he,by simp⟩]
  simp [←hz]
end
theorem zwd {α:Type} {P:Program} {N:Nat} {fr:Fr} {H H0:zaa} {g b p:Nat} {L:List (Nat×Blk)} {rs:List ResultVar} {e:Exit} {x:AV} {f:α->AV} {fd:α->List AV} {u r:α} (n:Nat) (he:e=.normal\/e=.ret) (hx:zgu P N fr H rs=some x) (hl:Le (f u) x) (hu:u=r) (hS:St (fun i=>i<g/\i≠p) H0 L H b)
  (hn:L[n]?=some (p,.cells (fd u))) :
  (e=.normal\/e=.ret)/\(∃x,zgu P N fr H rs=some x/\Le (f r) x)/\(∀i,i<g/\i≠p->H i=H0 i)/\H p=some (.cells (fd r)):=⟨he,⟨x,hx,hu▸hl⟩,fun i hi=>(hS.old i hi).2,hu▸hS.get hn⟩
theorem zbe {α:Type} {P:Program} {N:Nat} {fr:Fr} {H H0:zaa} {g b:Nat} {L:List (Nat×Blk)} {rs:List ResultVar} {e:Exit} {x:AV} {f:α->AV} {u r:α} (he:e=.normal\/e=.ret) (hx:zgu P N fr H rs=some x) (hl:Le (f u) x) (hu:u=r) (hS:St (·<g) H0 L H b) :
  (e=.normal\/e=.ret)/\(∃x,zgu P N fr H rs=some x/\Le (f r) x)/\∀i,i<g->H i=H0 i:=⟨he,⟨x,hx,hu▸hl⟩,fun i hi=>(hS.old i hi).2⟩
section
variable {P:Program} {N:Nat} {l:List (Nat×AV)} {H:zaa} {O:Nat->Prop} {H0:zaa} {L:List (Nat×Blk)} {b:Nat}
theorem zae {t:Nat} {x:AV} (h:evL N l (.tmp t)=x):zf7 P N (Fr.of l) H (.tmp t)=some x:=by simp [zf7,zea,h]
theorem zdh {t ty j off:Nat} {cs:List AV} {x:AV} (n:Nat) (hS:St O H0 L H b) (h:evL N l (.tmp t)=.ptr j off) (hn:L[n]?=some (j,.cells cs)) (hp:zdZ P ty cs off=some x):zf7 P N (Fr.of l) H (.cell t ty)=some x:=by
 simp [zf7,zea,h,hS.get hn,hp]
theorem zaw {fr:Fr} {a:ResultVar} {x:AV} (h:zf7 P N fr H a=some x):zgu P N fr H [a]=some x:=by simp [zgu,h]
theorem zdC {fr:Fr} {a c:ResultVar} {x y:AV} (h:zf7 P N fr H a=some x) (h':zf7 P N fr H c=some y):zgu P N fr H [a,c]=some (.tup [x,y]):=by simp [zgu,h,h']
theorem zfR {fr:Fr} {a c d:ResultVar} {x y z:AV} (h:zf7 P N fr H a=some x) (h':zf7 P N fr H c=some y) (h'':zf7 P N fr H d=some z):zgu P N fr H [a,c,d]=some (.tup [x,y,z]):=by simp [zgu,h,h',h'']
theorem zpm {fr:Fr} {a c d e:ResultVar} {x y z u:AV} (h:zf7 P N fr H a=some x) (h':zf7 P N fr H c=some y) (h'':zf7 P N fr H d=some z) (h3:zf7 P N fr H e=some u):zgu P N fr H [a,c,d,e]=some (.tup [x,y,z,u]):=by simp [zgu,h,h',h'',h3]
end
end Go.AM
