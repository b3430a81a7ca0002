/-
  The abstract machine: the rules that printed walks use. They carry along what is known of the heap.
  Conditions: none; it speaks of any program.
-/
import Derived.Test.YtclaalcoefcljaaAmM
import Derived.KernelRfl
set_option linter.all false
namespace Go.AM
open Go Go.RowKit
section
variable {P:Program} {N:Nat}
theorem zfv.mono {strict:Bool} {mu:Nat->Bool} {new f:Nat} {as:List AV} {K K':AV->zaa->Nat->Prop} {H:zaa} {g:Nat} (h:zfv P strict mu new f as K H g) (hk:∀r H g,K r H g->K' r H g):zfv P strict mu new f as K' H g:=by
 rcases h with ⟨r,h1,h2⟩ | ⟨r,b,h1,h2⟩ | ⟨hs,h1⟩ | ⟨id,cs,r,ds,hm,hc,h1,h2⟩
 ·exact .inl ⟨r,h1,hk _ _ _ h2⟩
 ·exact .inr (.inl ⟨r,b,h1,hk _ _ _ h2⟩)
 ·exact .inr (.inr (.inl ⟨hs,h1.mono hk⟩))
 ·exact .inr (.inr (.inr ⟨id,cs,r,ds,hm,hc,h1,hk _ _ _ h2⟩))
theorem zo4 {new:Nat} {op:Op} {ρ:Operand->AV} {H:zaa} {K K':AV->zaa->Prop} (hk:∀r H,K r H->K' r H) (h:zpB P new op ρ H K):zpB P new op ρ H K':=by
 unfold zpB at h ⊢
 split
 ·obtain ⟨i,m,h1,h2,h3,h4⟩:=h
  exact ⟨i,m,h1,h2,h3,fun a=>hk _ _ (h4 a)⟩
 ·obtain ⟨j,i,a,m,seen,h1,h2,h3,h4,h5⟩:=h
  exact ⟨j,i,a,m,seen,h1,h2,h3,fun q=>hk _ _ (h4 q),fun e p q1 q2=>hk _ _ (h5 e p q1 q2)⟩
 ·obtain ⟨j,i,a,m,seen,e,p,h1,h2,h3,h4,h5⟩:=h
  exact ⟨j,i,a,m,seen,e,p,h1,h2,h3,h4,hk _ _ h5⟩
 ·simp_all
theorem zmL {new:Nat} {op:Op} {ρ:Operand->AV} {H:zaa} {K K':AV->zaa->Prop} (hk:∀r H,K r H->K' r H) (h:zoA P new op ρ H K):zoA P new op ρ H K':=by
 unfold zoA at h ⊢
 split
 ·obtain ⟨k,es,h1,h2,h3,h4,h5,h6⟩:=h
  exact ⟨k,es,h1,h2,h3,h4,h5,h6.imp (hk _ _) (hk _ _)⟩
 ·obtain ⟨t,s,x,k,m,ds,h1,h2,h3,h4,h5,h⟩:=h
  refine ⟨t,s,x,k,m,ds,h1,h2,h3,h4,h5,h.imp (fun ⟨h0,tg,k',es,q1,q2⟩=>⟨h0,tg,k',es,q1,hk _ _ q2⟩) fun ⟨h6,h⟩=>⟨h6,h.imp ?_ ?_⟩⟩
  ·rintro ⟨i,off,n,cs,q1,q2,q3,q4,q5,q6⟩
   exact ⟨i,off,n,cs,q1,q2,q3,q4,hk _ _ q5,hk _ _ q6⟩
  ·rintro ⟨tg,es,q1,q2,q3,q4⟩
   exact ⟨tg,es,q1,q2,q3,hk _ _ q4⟩
 ·obtain ⟨n,e,z,h1,h2,h3,h4,h5,h6,h7,h8,h9⟩:=h
  exact ⟨n,e,z,h1,h2,h3,h4,h5,h6,h7,h8,hk _ _ h9⟩
 ·simp_all
theorem zoG {lim:Option Nat} {g0:Nat} {ops:Array Oper} {i:Nat} {o:Oper} {K K':Fr->zaa->Nat->Prop} {fr:Fr} {H:zaa} {g:Nat} (hk:∀fr H g,K fr H g->K' fr H g) (h:opQ P N lim g0 ops i o K fr H g):opQ P N lim g0 ops i o K' fr H g:=by
 unfold opQ at h ⊢
 split
 ·rename_i f args hc
  simp only [hc] at h
  split
  ·rename_i k first cap ht
   simp only [ht] at h
   exact h.mono fun r H g hr=>hk _ _ _ hr
  ·rename_i ht
   simp only [ht] at h
   obtain ⟨h1,q,M,r,M',a,b,c,d⟩:=h
   exact ⟨h1,q,M,r,M',a,b,c,hk _ _ _ d⟩
 ·rename_i hc
  simp only [hc] at h
  split
  ·rename_i ho
   rw [if_pos ho] at h
   split
   ·rename_i r wr he
    simp only [he] at h
    exact h.imp (hk _ _ _) fun ⟨h1,h2⟩=>⟨h1,h2.imp (fun ⟨r',q1,q2⟩=>⟨r',q1,hk _ _ _ q2⟩) (zmL fun r H' hr=>hk _ _ _ hr)⟩
   ·rename_i he
    simp only [he] at h
    split
    ·simp only at h
     split
     ·rename_i t x b hno
      simp only [hno] at h
      refine ⟨h.1,?_⟩
      have h2:=h.2
      unfold zp5 at h2 ⊢
      split
      ·rename_i tg k es hv
       simp only [hv] at h2
       exact ⟨fun q=>hk _ _ _ (h2.1 q),fun q=>hk _ _ _ (h2.2 q)⟩
      ·rename_i hv
       split at h2
       ·rename_i tg k es hv2
        exact absurd hv2 (hv tg k es)
       ·exact h2
     ·rename_i hno
      simp only [hno] at h
      exact h.imp (zo4 (fun r H' hr=>hk _ _ _ hr)) (zmL (fun r H' hr=>hk _ _ _ hr))
    ·exact h
  ·rename_i ho
   rw [if_neg ho] at h
   obtain ⟨h0,r,wr,h1,h2⟩:=h
   exact ⟨h0,r,wr,h1,hk _ _ _ h2⟩
theorem zn0 {lim:Option Nat} {g0:Nat} {ops:Array Oper} {i:Nat} {o:Oper} {K K':Fr->zaa->Nat->Prop} {fr:Fr} {H:zaa} {g:Nat} (hk:∀fr H g,K fr H g->K' fr H g) (h:zcO P N lim g0 ops i o K fr H g):zcO P N lim g0 ops i o K' fr H g:=by
 unfold zcO at h ⊢
 split
 ·rename_i hg
  simp only [hg] at h
  exact zoG hk h
 ·rename_i j want hg
  simp only [hg] at h
  split
  ·rename_i t ht
   simp only [ht] at h
   split
   ·rename_i hw
    rw [if_pos hw] at h
    exact zoG hk h
   ·rename_i hw
    rw [if_neg hw] at h
    exact hk _ _ _ h
  ·rename_i ht
   simp only [ht] at h
theorem zkD {lim:Option Nat} {g0:Nat} {ops:Array Oper} {K K':Fr->zaa->Nat->Prop} (hk:∀fr H g,K fr H g->K' fr H g):∀(r:List Oper) (i:Nat) (fr:Fr) (H:zaa) (g:Nat),za7 P N lim g0 ops K i r fr H g->za7 P N lim g0 ops K' i r fr H g
 | [],_,fr,H,g,h=>hk fr H g h
 | _::r,i,_,_,_,h=>zn0 (fun fr H g=>zkD hk r (i+1) fr H g) h
theorem zmM {c:Code}:∀{Q Q':Exit->Fr->zaa->Nat->Prop} {fr:Fr} {H:zaa} {g:Nat},wpA P N c Q fr H g->(∀e fr H g,Q e fr H g->Q' e fr H g)->wpA P N c Q' fr H g:=by
 induction c with
 | skip=>exact fun h hq=>hq _ _ _ _ h
 | label l=>exact fun h hq=>hq _ _ _ _ h
 | exit id=>exact fun h hq=>hq _ _ _ _ h
 | ret=>exact fun h hq=>hq _ _ _ _ h
 | goto l=>exact fun h _=>h.elim
 | refuse l=>exact fun h _=>h.elim
 | scope b ih =>
  intro Q Q' fr H g h hq
  refine ih h fun e fr' H' g' h'=>?_
  cases e with
  | goto l=>exact h'.elim
  | _=>exact hq _ _ _ _ h'
 | rangeFunc f ps x y ihx ihy =>
  intro Q Q' fr H g h hq
  simp only [wpA] at h ⊢
  obtain ⟨h1,h2,k,first,cap,hev,S,Lo,A,A',pe,R,s0,ts,cs,hR⟩:=h
  refine ⟨h1,h2,k,first,cap,hev,S,Lo,A,A',pe,R,s0,ts,cs,hR.pend,hR.has,hR.nd,hR.kinA,hR.kinds,hR.isin,hR.caught,hR.pslt,hR.tsnd,hR.round,fun q hq'=>?_⟩
  obtain ⟨rv,sF,a,b⟩:=hR.contract q hq'
  refine ⟨rv,sF,a,fun H' x y z=>?_⟩
  have hb:=b H' x y z
  cases hp:pe sF with
  | none=>simp only [hp] at hb;exact hq _ _ _ _ hb
  | some c =>
   simp only [hp] at hb
   obtain ⟨e,e1,e2⟩:=hb
   exact ⟨e,e1,hq _ _ _ _ e2⟩
 | region id ops draw =>
  intro Q Q' fr H g h hq
  simp only [wpA] at h ⊢
  split
  ·rename_i hd
   rw [if_pos hd] at h
   exact ⟨h.1,zkD (fun _ _ _ h=>⟨h.1,hq _ _ _ _ h.2⟩) _ _ _ _ _ h.2⟩
  ·rename_i hd
   rw [if_neg hd] at h
   exact zkD (fun _ _ _=>hq _ _ _ _) _ _ _ _ _ h
 | seq x y ihx ihy =>
  intro Q Q' fr H g h hq
  refine ihx h fun e fr' H' g' h'=>?_
  cases e with
  | normal =>
   obtain ⟨fr0,H0,g0,hd,h'⟩:=h'
   exact ⟨fr0,H0,g0,hd,ihy h' hq⟩
  | _=>exact hq _ _ _ _ h'
 | cond c x y ihx ihy =>
  intro Q Q' fr H g h hq
  simp only [wpA] at h ⊢
  split at h
  ·split at h
   ·rename_i t ht
    subst ht
    simpa using ihx h hq
   ·rename_i t ht
    simp only [if_neg ht]
    exact ihy h hq
  ·exact h.elim
 | block id c ih =>
  intro Q Q' fr H g h hq
  refine ih h fun e fr' H' g' h'=>?_
  cases e with
  | exit id' =>
   simp only [Exit.inBlockA] at h' ⊢
   split
   ·rename_i he
    rw [if_pos he] at h'
    exact hq _ _ _ _ h'
   ·rename_i he
    rw [if_neg he] at h'
    exact hq _ _ _ _ h'
  | _=>exact hq _ _ _ _ h'
 | loop c ih =>
  intro Q Q' fr H g h hq
  obtain ⟨I,h0,h⟩:=h
  refine ⟨I,h0,fun n fr H g hI hf=>ih (h n fr H g hI hf) fun e fr' H' g' h'=>?_⟩
  cases e with
  | normal=>exact h'
  | _=>exact hq _ _ _ _ h'
end
structure St (O:Nat->Prop) (H0:zaa) (L:List (Nat×Blk)) (H:zaa) (b:Nat):Prop where
 old:∀i,O i->i<b/\H i=H0 i
 has:∀p,p∈L->¬O p.1/\p.1<b/\H p.1=some p.2
 nd:(L.map (·.1)).Nodup
 fr:zcl H b
def putAt:List (Nat×Blk)->Nat->Blk->List (Nat×Blk)
 | [],_,_=>[]
 | p::L,0,b=>(p.1,b)::L
 | p::L,n+1,b=>p::putAt L n b
def zk3 {α:Type}:List Bool->List α->List α
 | true::m,x::l=>x::zk3 m l
 | false::m,_::l=>zk3 m l
 | [],l=>l
 | _,_=>[]
theorem zhq {α:Type}:∀(m:List Bool) (l:List α),(zk3 m l).Sublist l
 | true::m,x::l=>(zhq m l).cons_cons x
 | false::m,x::l=>(zhq m l).cons x
 | [],l=>.refl l
 | true::_,[]=>.slnil
 | false::_,[]=>.slnil
theorem zmN (L:List (Nat×Blk)) (n:Nat) (b:Blk):(putAt L n b).map (·.1)=L.map (·.1):=by
 induction L generalizing n with
 | nil=>rfl
 | cons p L ih=>cases n with
  | zero=>rfl
  | succ n=>simp [putAt,ih]
theorem zmO {L:List (Nat×Blk)} {n i:Nat} {b0 b:Blk} (h:L[n]?=some (i,b0)) (hnd:(L.map (·.1)).Nodup) {p:Nat×Blk} (hp:p∈putAt L n b):p=(i,b)\/(p∈L/\p.1≠i):=by
 induction L generalizing n with
 | nil=>simp at h
 | cons q L ih =>
  rw [List.map_cons,List.nodup_cons] at hnd
  cases n with
  | zero =>
   simp at h
   subst h
   rcases List.mem_cons.1 hp with rfl | hp
   ·exact .inl rfl
   ·exact .inr ⟨by simp [hp],fun e=>hnd.1 (by rw [←e];exact List.mem_map_of_mem (f:=(·.1)) hp)⟩
  | succ n =>
   simp at h
   rcases List.mem_cons.1 hp with rfl | hp
   ·exact .inr ⟨by simp,fun e=>hnd.1 (by rw [e];exact List.mem_map_of_mem (f:=(·.1)) (List.mem_of_getElem? h))⟩
   ·rcases ih h hnd.2 hp with h | ⟨h1,h2⟩
    ·exact .inl h
    ·exact .inr ⟨by simp [h1],h2⟩
section
variable {O:Nat->Prop} {H0 H:zaa} {L L':List (Nat×Blk)} {b:Nat}
theorem St.up (h:St O H0 L H b) {b':Nat} (hb:b<=b'):St O H0 L H b' :=
 ⟨fun i hi=>⟨Nat.lt_of_lt_of_le (h.old i hi).1 hb,(h.old i hi).2⟩,fun p hp=>⟨(h.has p hp).1,Nat.lt_of_lt_of_le (h.has p hp).2.1 hb,(h.has p hp).2.2⟩,h.nd,fun i hi=>h.fr i (Nat.le_trans hb hi)⟩
theorem St.sub (h:St O H0 L H b) (hs:L'.Sublist L):St O H0 L' H b:=⟨h.old,fun p hp=>h.has p (hs.subset hp),h.nd.sublist (hs.map _),h.fr⟩
theorem St.keep (h:St O H0 L H b) (m:List Bool) (he:zk3 m L=L'):St O H0 L' H b:=he▸h.sub (zhq m L)
theorem St.get (h:St O H0 L H b) {n i:Nat} {x:Blk} (hn:L[n]?=some (i,x)):H i=some x:=(h.has _ (List.mem_of_getElem? hn)).2.2
theorem St.add (h:St O H0 L H b) {i:Nat} (x:Blk) (hi:b<=i):St O H0 ((i,x)::L) (H.set i x) (i+1):=by
 refine ⟨fun j hj=>?_,fun p hp=>?_,?_,fun j hj=>by rw [zaa.set_ne _ _ (by omega)];exact h.fr j (by omega)⟩
 ·have:=h.old j hj
  exact ⟨by omega,by rw [zaa.set_ne _ _ (by omega)];exact this.2⟩
 ·rcases List.mem_cons.1 hp with rfl | hp
  ·exact ⟨fun hO=>by have:=(h.old _ hO).1;simp at this;omega,by simp,zaa.set_same _ _ _⟩
  ·have:=h.has p hp
   exact ⟨this.1,by omega,by rw [zaa.set_ne _ _ (by omega)];exact this.2.2⟩
 ·rw [List.map_cons,List.nodup_cons]
  refine ⟨fun hm=>?_,h.nd⟩
  obtain ⟨p,hp,he⟩:=List.mem_map.1 hm
  have:=(h.has p hp).2.1
  simp at he
  omega
theorem St.put (h:St O H0 L H b) {n i:Nat} {x0:Blk} (hn:L[n]?=some (i,x0)) (x:Blk):St O H0 (putAt L n x) (H.set i x) b:=by
 have hi:=h.has _ (List.mem_of_getElem? hn)
 refine ⟨fun j hj=>⟨(h.old j hj).1,?_⟩,fun p hp=>?_,by rw [zmN];exact h.nd,fun j hj=>by rw [zaa.set_ne _ _ (fun e=>by subst e;exact absurd hi.2.1 (by simp;omega))];exact h.fr j hj⟩
 ·rw [zaa.set_ne _ _ (fun e=>hi.1 (by simpa [e] using hj))]
  exact (h.old j hj).2
 ·rcases zmO hn h.nd hp with rfl | ⟨h1,h2⟩
  ·exact ⟨hi.1,hi.2.1,zaa.set_same _ _ _⟩
  ·have:=h.has p h1
   exact ⟨this.1,this.2.1,by rw [zaa.set_ne _ _ h2];exact this.2.2⟩
theorem St.start {g:Nat} {H:zaa} (hf:zcl H g):St (·<g) H [] H g:=⟨fun _ h=>⟨h,rfl⟩,fun p hp=>by simp at hp,by simp,hf⟩
end
def LeL:List AV->List AV->Prop
 | [],[]=>True
 | a::as,b::bs=>Le a b/\LeL as bs
 | _,_=>False
theorem LeL.get {as bs:List AV} (h:LeL as bs):as.length=bs.length/\∀(i:Nat) (c d:AV),as[i]?=some c->bs[i]?=some d->Le c d:=by
 induction as generalizing bs with
 | nil=>cases bs with
  | nil=>exact ⟨rfl,fun i c d h=>by simp at h⟩
  | cons b bs=>exact h.elim
 | cons a as ih=>cases bs with
  | nil=>exact h.elim
  | cons b bs =>
   obtain ⟨h1,h2⟩:=ih h.2
   refine ⟨by simp [h1],fun i c d hc hd=>?_⟩
   cases i with
   | zero=>simp at hc hd;subst hc hd;exact h.1
   | succ i=>exact h2 i c d (by simpa using hc) (by simpa using hd)
theorem Le.tupL {as bs:List AV} (h:LeL as bs):Le (.tup as) (.tup bs):=.tup as bs h.get.1 h.get.2
theorem Le.aggL {as bs:List AV} (h:LeL as bs):Le (.agg as) (.agg bs):=.agg as bs h.get.1 h.get.2
theorem LeL.refl:∀as:List AV,LeL as as
 | []=>trivial
 | a::as=>⟨.refl a,LeL.refl as⟩
section
variable {P:Program}
theorem VRs.le {G:Gh} {H:zaa} {w:World} {as bs:List AV} {vs:Array Value} (hl:LeL as bs) (h:VRs G H w bs vs):VRs G H w as vs:=by
 refine ⟨by rw [h.1,hl.get.1],fun i c x hc hx=>?_⟩
 have hi:i<bs.length:=by have:=(List.getElem?_eq_some_iff.1 hc).1;rw [hl.get.1] at this;exact this
 exact (h.2 i bs[i] x (List.getElem?_eq_getElem hi) hx).le (hl.get.2 i c _ hc (List.getElem?_eq_getElem hi))
theorem zaS.le {k:FuncId} {as bs:List AV} {r:AV} (h:zaS P k as r) (hl:LeL as bs):zaS P k bs r:=fun H g hf =>
 ⟨(h H g hf).1,fun G w vs hp hv=>(h H g hf).2 G w vs hp (hv.le hl)⟩
end
theorem ziJ.le {P:Program} {k:FuncId} {as bs:List AV} {id:Nat} {cs ds:List AV} {r:AV} (h:ziJ P k as id cs r ds) (hl:LeL as bs):ziJ P k bs id cs r ds:=fun H g hf hc =>
 ⟨(h H g hf hc).1,fun G w vs hp hv=>(h H g hf hc).2 G w vs hp (hv.le hl)⟩
theorem LeL.nil:LeL [] []:=trivial
theorem LeL.cons {a b:AV} {as bs:List AV} (h:Le a b) (r:LeL as bs):LeL (a::as) (b::bs):=⟨h,r⟩
def FLe (l:List (Nat×AV)):List (Nat×AV)->Prop
 | []=>True
 | p::r=>Le p.2 (lk l p.1)/\FLe l r
theorem FLe.nil {l:List (Nat×AV)}:FLe l []:=trivial
theorem FLe.cons {l l0:List (Nat×AV)} {t:Nat} {v:AV} (h:Le v (lk l t)) (r:FLe l l0):FLe l ((t,v)::l0):=⟨h,r⟩
theorem FLe.le {l l0:List (Nat×AV)} (h:FLe l l0):ziK (Fr.of l0) (Fr.of l):=by
 refine of_le ?_
 induction l0 with
 | nil=>intro p hp;simp at hp
 | cons q l0 ih =>
  intro p hp
  rcases List.mem_cons.1 hp with rfl | hp
  ·exact h.1
  ·exact ih h.2 p hp
theorem zap {α β:Type} {o:Option α} {f:α->Option β} {r:β} (h:o.bind f=some r):∃x,o=some x/\f x=some r:=Option.bind_eq_some_iff.1 h
theorem ifT {α:Type} {e:Bool} {x y:Option α} {r:α} (h:(if e=true then x else y)=some r) (he:e=true):x=some r:=by rwa [if_pos he] at h
theorem ifF {α:Type} {e:Bool} {x y:Option α} {r:α} (h:(if e=true then x else y)=some r) (he:e=false):y=some r:=by rwa [if_neg (by simp [he])] at h
def w64 (x:Int):Int:=IntKind.i64.wrap x
def idx {α:Type} (xs:List α) (i:Int):Option α:=if 0<=i then xs[i.toNat]? else none
def quo (a b:Int):Option Int:=if b=0 then none else some (w64 (a.tdiv b))
def rem (a b:Int):Option Int:=if b=0 then none else some (a.tmod b)
def mok {κ ν:Type} [DecidableEq κ] (ok:κ->Bool) (M:List (κ×ν)) (k:κ):Bool:=ok k&&M.all (fun p=>ok p.1)&&decide ((M.map (·.1)).Nodup)
def cut {α:Type} (xs:List α) (l h:Int):Option (List α):=if 0<=l/\l<=h/\h<=xs.length then some ((xs.drop l.toNat).take (h.toNat-l.toNat)) else none
def mkz (z:Int):Option (List Int):=if 0<z/\z<=1048576 then some (List.replicate z.toNat 0) else none
def app {α:Type} (xs ys:List α):Option (List α):=if xs.length+ys.length<=1048576 then some (xs++ys) else none
theorem zmP {α β:Type} {xs:List α} {i:Int} {x:α} (f:α->β) (h:idx xs i=some x):0<=i/\(xs.map f)[i.toNat]?=some (f x):=by
 unfold idx at h
 split at h
 ·exact ⟨by assumption,by rw [List.getElem?_map,h];rfl⟩
 ·cases h
abbrev cI (x:Int):List AV:=[.v (.int .i64 x)]
abbrev cB (x:Bool):List AV:=[.v (.bool x)]
abbrev cL {α:Type} (k:Nat) (f:α->List AV) (xs:List α):List AV:=[.sl .no k (xs.map f)]
section
variable {P:Program} {N:Nat} {Q:Exit->Fr->zaa->Nat->Prop} {l:List (Nat×AV)} {H:zaa} {g:Nat} {a b c:Code}
theorem zfX (l':List (Nat×AV)) (hl:FLe l l') (h:wpA P N b Q (Fr.of l') H g) :
  Exit.thenA (fun fr' H' g'=>∃fr0 H0 g0,zfM fr' H' g' fr0 H0 g0/\wpA P N b Q fr0 H0 g0) Q .normal (Fr.of l) H g:=⟨_,H,g,.le hl.le H g,h⟩
theorem zmQ {i j k k':Nat} {cs:List AV} (e:TypeId) (hk:0<k) (hi:H i=some (.cells cs)) (hj:cs[j]?=some (.sl .nil k' [])) :
  zfM (Fr.of l) H g (Fr.of l) ((H.set i (.cells (cs.set j (.sl (.id g) k [])))).set g (.row e 0)) (g+1):=by
 intro hf
 have hig:i<g:=by
  rcases Nat.lt_or_ge i g with h | h
  ·exact h
  ·rw [hf i h] at hi;cases hi
 refine ⟨fun x hx=>by rw [zaa.set_ne _ _ (by omega),zaa.set_ne _ _ (by omega)];exact hf x (by omega),fun G w hp=>?_⟩
 obtain ⟨q1,q2,q3⟩:=zgD (w':=w) (v:=.slice none 0 0) (es:=[]) (xs:=[]) (e:=e) hp (hf g (Nat.le_refl _)) hk (fun _ _=>rfl) (Nat.le_refl _) rfl rfl rfl (zel e k) (fun b hb=>by simp [Value.ownBlock] at hb) (.nil k)
 have hcomm:(H.set i (.cells (cs.set j (.sl (.id g) k [])))).set g (.row e 0)=(H.set g (.row e 0)).set i (.cells (cs.set j (.sl (.id g) k []))):=by
  funext x
  unfold zaa.set
  by_cases h1:x=g
  ·subst h1;rw [if_pos rfl,if_neg (by omega),if_pos rfl]
  ·rw [if_neg h1]
   by_cases h2:x=i
   ·rw [if_pos h2,if_pos h2]
   ·rw [if_neg h2,if_neg h2,if_neg h1]
 rw [hcomm]
 have hi':(H.set g (.row e 0)) i=some (.cells cs):=by rw [zaa.set_ne _ _ (by omega)];exact hi
 generalize G.atσ g (.slice none 0 0) k=G' at q1 q2 q3
 generalize H.set g (.row e 0)=H1 at q1 q2 q3 hi'
 have hsame:∀(x:Nat) ds,(H1.set i (.cells (cs.set j (.sl (.id g) k [])))) x=some (.cells ds)->∃ds',H1 x=some (.cells ds'):=fun x ds h=>by
  rcases zaa.set_cases h with ⟨rfl,_⟩ | ⟨_,h⟩
  ·exact ⟨cs,hi'⟩
  ·exact ⟨ds,h⟩
 have hrow:∀(x:Nat) d n,(H1.set i (.cells (cs.set j (.sl (.id g) k [])))) x=some (.row d n)->H1 x=some (.row d n):=fun x d n h=>by
  rcases zaa.set_cases h with ⟨_,hx⟩ | ⟨_,hx⟩
  ·cases hx
  ·exact hx
 have hobj:∀(x:Nat) q p,(H1.set i (.cells (cs.set j (.sl (.id g) k [])))) x=some (.obj q p)->H1 x=some (.obj q p):=fun x d n h=>by
  rcases zaa.set_cases h with ⟨_,hx⟩ | ⟨_,hx⟩
  ·cases hx
  ·exact hx
 have hfree:∀b n,zgS G' H1 b n->zgS G' (H1.set i (.cells (cs.set j (.sl (.id g) k [])))) b n:=fun b n h =>
  ⟨fun x ds hx=>by obtain ⟨ds',hx'⟩:=hsame x ds hx;exact h.1 x ds' hx',fun x d m hx=>h.2 x d m (hrow x d m hx)⟩
 have E:Evo G' H1 w G' (H1.set i (.cells (cs.set j (.sl (.id g) k [])))) w:=by
  refine ⟨fun x h=>⟨rfl,zaa.cel_put h⟩,fun x d n h=>⟨rfl,n,?_,Nat.le_refl _,fun _=>rfl⟩,fun x q p h=>⟨rfl,p,?_⟩,fun b n h=>⟨fun _ _ _ hx=>hx,fun _=>hfree b n h⟩⟩
  ·rw [zaa.set_ne _ _ (fun e=>by subst e;rw [hi'] at h;cases h)];exact h
  ·rw [zaa.set_ne _ _ (fun e=>by subst e;rw [hi'] at h;cases h)];exact h
 refine ⟨G',⟨fun x ds h=>?_,fun x d n h=>q1.rows x d n (hrow x d n h),fun x y ds fs h1 h2 he=>?_,fun x y ds d n h1 h2=>?_,fun x y d m d' n b h1 h2=>q1.own x y d m d' n b (hrow x d m h1) (hrow y d' n h2),fun x q p h=>q1.objs x q p (hobj x q p h),fun x y q q' p p' h1 h2=>q1.oinj x y q q' p p' (hobj x q p h1) (hobj y q' p' h2)⟩,q2.trans ⟨E,rfl,rfl,rfl,Nat.le_refl _,fun _ _ _=>rfl,fun b hb=>.inl ?_⟩,fun t x hv=>(hv.evo q2.evo).evo E⟩
 ·rcases zaa.set_cases h with ⟨rfl,hx⟩ | ⟨_,hx⟩
  ·injection hx with hx
   subst hx
   obtain ⟨vs,ty,h1,h2,h3,h4⟩:=q1.cells x cs hi'
   refine ⟨vs,ty,h1,⟨by simp [h2.1],h2.2⟩,by rw [List.length_set];exact h3,fun y c v hc hv=>?_⟩
   by_cases hy:y=j
   ·subst hy
    have hlt:y<cs.length:=(List.getElem?_eq_some_iff.1 hj).1
    rw [List.getElem?_set_self hlt] at hc
    injection hc with hc
    subst hc
    have hold:=h4 y _ v hj hv
    cases hold with
    | sl _ _ _ a cap b o f hcap hs ha hcc hvv htt =>
     simp only [List.length_nil] at htt ⊢
     have hx:Value.slice a 0 cap=.slice none 0 0:=htt
     rw [hx]
     exact q3.evo E
   ·rw [List.getElem?_set_ne (by omega)] at hc
    exact (h4 y c v hc hv).evo E
  ·obtain ⟨vs,ty,h1,h2,h3,h4⟩:=q1.cells x ds hx
   exact ⟨vs,ty,h1,h2,h3,fun y c v hc hv=>(h4 y c v hc hv).evo E⟩
 ·obtain ⟨ds',h1'⟩:=hsame x ds h1
  obtain ⟨fs',h2'⟩:=hsame y fs h2
  exact q1.inj x y ds' fs' h1' h2' he
 ·obtain ⟨ds',h1'⟩:=hsame x ds h1
  exact q1.sep x y ds' d n h1' (hrow y d n h2)
 ·rcases hb with ⟨x,ds,hx,hb⟩ | ⟨x,d,n,hx,hb⟩ | ⟨x,q,p,hx,hb⟩
  ·obtain ⟨ds',hx'⟩:=hsame x ds hx
   exact .inl ⟨x,ds',hx',hb⟩
  ·exact .inr (.inl ⟨x,d,n,hrow x d n hx,hb⟩)
  ·exact .inr (.inr ⟨x,q,p,hobj x q p hx,hb⟩)
theorem zj0 {O:Nat->Prop} {H0:zaa} {L L':List (Nat×Blk)} {bd i:Nat} {cs cs':List AV} (n j k:Nat) (e:TypeId) (hS:St O H0 L H bd) (hb:bd<=g) (hk:0<k) (hn:L[n]?=some (i,.cells cs)) (hj:cs[j]?=some (.sl .nil 0 [])) (hcs:cs.set j (.sl (.id g) k [])=cs') (hL:putAt L n (.cells cs')=L')
  (h:∀H',St O H0 ((g,.row e 0)::L') H' (g+1)->Exit.thenA (fun fr' H' g'=>∃fr0 H0 g0,zfM fr' H' g' fr0 H0 g0/\wpA P N b Q fr0 H0 g0) Q .normal (Fr.of l) H' (g+1)) :
  Exit.thenA (fun fr' H' g'=>∃fr0 H0 g0,zfM fr' H' g' fr0 H0 g0/\wpA P N b Q fr0 H0 g0) Q .normal (Fr.of l) H g:=by
 obtain ⟨fr0,H1,g1,hd,hw⟩:=h _ (((hL▸hS.put hn (.cells cs')).up hb).add (.row e 0) (Nat.le_refl _))
 exact ⟨fr0,H1,g1,(hcs▸zmQ e hk (hS.get hn) hj).trans hd,hw⟩
theorem zaY {J:Type} (fr:J->List (Nat×AV)) (R:J->zaa->Nat->Prop) (hb:∀j H g,R j H g->wpA P N b Q (Fr.of (fr j)) H g)
  (ha:wpA P N a (Exit.thenA (fun fr' H' g'=>∃j,ziK (Fr.of (fr j)) fr'/\R j H' g') Q) (Fr.of l) H g):wpA P N (.seq a b) Q (Fr.of l) H g:=by
 refine zo1 (l:=l) ?_
 refine zmM ha fun e fr' H' g' hq=>?_
 cases e with
 | normal =>
  obtain ⟨j,hle,hR⟩:=hq
  exact ⟨_,_,_,.le hle H' g',hb j H' g' hR⟩
 | _=>exact hq
theorem zal {J:Type} {fr:J->List (Nat×AV)} {R:J->zaa->Nat->Prop} (j:J) (hl:FLe l (fr j)) (hR:R j H g) :
  Exit.thenA (fun fr' H' g'=>∃j,ziK (Fr.of (fr j)) fr'/\R j H' g') Q .normal (Fr.of l) H g:=⟨j,hl.le,hR⟩
theorem zej {J:Type} {fr:J->List (Nat×AV)} {R:J->zaa->Nat->Prop} (h:Q .ret (Fr.of l) H g) :
  Exit.thenA (fun fr' H' g'=>∃j,ziK (Fr.of (fr j)) fr'/\R j H' g') Q .ret (Fr.of l) H g:=h
theorem zmR {o:Operand} {e:Bool} (hc:evL N l o=.v (.bool e)) (he:e=true) (h:wpA P N a Q (Fr.of l) H g):wpA P N (.cond o a b) Q (Fr.of l) H g:=zqa (by rw [hc,he]) h
theorem zkE {o:Operand} {e:Bool} (hc:evL N l o=.v (.bool e)) (he:e=false) (h:wpA P N b Q (Fr.of l) H g):wpA P N (.cond o a b) Q (Fr.of l) H g:=zo2 (by rw [hc,he]) h
theorem zcx {V:Type} (fr:V->List (Nat×AV)) (R:V->Nat->zaa->Nat->Prop) {n:Nat} (v:V) (hle:FLe l (fr v)) (h0:R v n H g)
  (h:∀v n H g,R v n H g->wpA P N c (Exit.thenA (fun fr' H' g'=>∃m v,m<n/\ziK (Fr.of (fr v)) fr'/\R v m H' g') Q) (Fr.of (fr v)) H g):wpA P N (.loop c) Q (Fr.of l) H g:=by
 refine zqb (fun n l H g=>∃v,l=fr v/\R v n H g) hle.le ⟨v,rfl,h0⟩ ?_
 rintro n l H g ⟨v,rfl,hR⟩ _
 refine zmM (h v n H g hR) fun e fr' H' g' hq=>?_
 cases e with
 | normal =>
  obtain ⟨m,v',hm,hle,hR'⟩:=hq
  exact ⟨m,_,hm,hle,v',rfl,hR'⟩
 | _=>exact hq
theorem zbY {V:Type} {fr:V->List (Nat×AV)} {R:V->Nat->zaa->Nat->Prop} {n m:Nat} (v:V) (hm:m<n) (hl:FLe l (fr v)) (hR:R v m H g) :
  Exit.thenA (fun fr' H' g'=>∃m v,m<n/\ziK (Fr.of (fr v)) fr'/\R v m H' g') Q .normal (Fr.of l) H g:=⟨m,v,hm,hl.le,hR⟩
end
section
variable {Q:Exit->Fr->zaa->Nat->Prop} {l:List (Nat×AV)} {H:zaa} {g:Nat}
theorem zaq {V:Type} {fr:V->List (Nat×AV)} {R:V->Nat->zaa->Nat->Prop} {n id:Nat} (h:Q (.exit id) (Fr.of l) H g) :
  Exit.thenA (fun fr' H' g'=>∃m v,m<n/\ziK (Fr.of (fr v)) fr'/\R v m H' g') Q (.exit id) (Fr.of l) H g:=h
theorem zdm {V:Type} {fr:V->List (Nat×AV)} {R:V->Nat->zaa->Nat->Prop} {n:Nat} (h:Q .ret (Fr.of l) H g) :
  Exit.thenA (fun fr' H' g'=>∃m v,m<n/\ziK (Fr.of (fr v)) fr'/\R v m H' g') Q .ret (Fr.of l) H g:=h
end
theorem zaN:∀c,c∈([]:List AV)->Pure c:=fun _ h=>by simp at h
theorem zaf {c:AV} {cs:List AV} (h:Pure c) (hs:∀c,c∈cs->Pure c):∀d,d∈c::cs->Pure d:=fun d hd=>by
 rcases List.mem_cons.1 hd with rfl | hd
 ·exact h
 ·exact hs d hd
theorem zaK {α:Type} {f:α->List AV} {xs:List α} (h:∀x,∀c,c∈f x->Pure c):∀e,e∈xs.map f->∀c,c∈e->Pure c:=fun e he=>by
 obtain ⟨x,_,rfl⟩:=List.mem_map.1 he
 exact h x
def Ok (lim:Option Nat) (ops:Array Oper) (i j:Nat):Prop:=∀g0,lim=some g0->(decide (j<g0) || behind ops ops.size i (j-g0))=true
theorem Ok.no {ops:Array Oper} {i j:Nat}:Ok none ops i j:=fun _ h=>by cases h
theorem Ok.lt {ops:Array Oper} {i j g0:Nat} (h:j<g0):Ok (some g0) ops i j:=fun _ e=>by injection e with e;subst e;simp [h]
theorem Ok.st {O:Nat->Prop} {H0 H:zaa} {L:List (Nat×Blk)} {b:Nat} {ops:Array Oper} {i j g0:Nat} {x:Blk} (hS:St O H0 L H b) (n:Nat) (hn:L[n]?=some (j,x)) (hb:b<=g0):Ok (some g0) ops i j :=
 .lt (Nat.lt_of_lt_of_le (hS.has _ (List.mem_of_getElem? hn)).2.1 hb)
theorem Ok.behind {ops:Array Oper} {i k g0:Nat} (h:behind ops ops.size i k=true):Ok (some g0) ops i (g0+k):=fun _ e=>by
 injection e with e
 subst e
 rw [show g0+k-g0=k by omega,h,Bool.or_true]
section
variable {P:Program} {N:Nat} {l:List (Nat×AV)} {H:zaa} {g:Nat} {lim:Option Nat} {g0 i:Nat} {ops:Array Oper} {K:Fr->zaa->Nat->Prop} {r:List Oper} {d:Nat} {op:Op} {ty:TypeId} {pos:String} {after:Array Edge}
 {O:Nat->Prop} {H0:zaa} {L:List (Nat×Blk)} {b:Nat}
theorem zk4 {j:Nat} {want e:Bool} {dst:Option Tmp} (hg:gd ops N (Fr.of l) j=some (some e)) (he:e=want) (h:za7 P N lim g0 ops K i (⟨dst,op,ty,pos,after,none⟩::r) (Fr.of l) H g) :
  za7 P N lim g0 ops K i (⟨dst,op,ty,pos,after,some (j,want)⟩::r) (Fr.of l) H g:=zih hg (fun _=>h) (fun hn=>absurd (by rw [he]) hn)
theorem zk5 {j:Nat} {want e:Bool} (hd:d<N) (hg:gd ops N (Fr.of l) j=some (some e)) (he:e=!want) (h:za7 P N lim g0 ops K (i+1) r (Fr.of ((d,.tup [])::l)) H g) :
  za7 P N lim g0 ops K i (⟨some d,op,ty,pos,after,some (j,want)⟩::r) (Fr.of l) H g:=zih hg (fun e'=>by rw [he] at e';cases want<;>cases e') (fun _=>by rw [zgZ hd];exact h)
theorem zb3 {j:Nat} {want:Bool} (hd:d<N) (hg:gd ops N (Fr.of l) j=some none) (h:za7 P N lim g0 ops K (i+1) r (Fr.of ((d,.tup [])::l)) H g) :
  za7 P N lim g0 ops K i (⟨some d,op,ty,pos,after,some (j,want)⟩::r) (Fr.of l) H g:=zih hg (fun e'=>by cases e') (fun _=>by rw [zgZ hd];exact h)
theorem zqc {x:Operand} {v:AV} (hd:d<N) (hx:evL N l x=v) (h:za7 P N lim g0 ops K (i+1) r (Fr.of ((d,v)::l)) H g):za7 P N lim g0 ops K i (⟨some d,.move x,ty,pos,after,none⟩::r) (Fr.of l) H g :=
 zb4 (v:=v) (wr:=none) hd rfl (by cases lim<;>rfl) (by simp [zaE,hx]) h
theorem zn1 {x:Operand} {v:AV} (hd:d<N) (hx:evL N l x=v) (h:za7 P N lim g0 ops K (i+1) r (Fr.of ((d,v)::l)) H g):za7 P N lim g0 ops K i (⟨some d,.assign x,ty,pos,after,none⟩::r) (Fr.of l) H g :=
 zb4 (v:=v) (wr:=none) hd rfl (by cases lim<;>rfl) (by simp [zaE,hx]) h
theorem zcy {c x y:Operand} {v:AV} {e:Bool} (hd:d<N) (hc:evL N l c=.v (.bool e)) (he:e=true) (hx:evL N l x=v) (h:za7 P N lim g0 ops K (i+1) r (Fr.of ((d,v)::l)) H g):za7 P N lim g0 ops K i (⟨some d,.pick c x y,ty,pos,after,none⟩::r) (Fr.of l) H g :=
 zb4 (v:=v) (wr:=none) hd rfl (by cases lim<;>rfl) (by simp [zaE,hc,he,hx]) h
theorem zby {c x y:Operand} {v:AV} {e:Bool} (hd:d<N) (hc:evL N l c=.v (.bool e)) (he:e=false) (hy:evL N l y=v) (h:za7 P N lim g0 ops K (i+1) r (Fr.of ((d,v)::l)) H g):za7 P N lim g0 ops K i (⟨some d,.pick c x y,ty,pos,after,none⟩::r) (Fr.of l) H g :=
 zb4 (v:=v) (wr:=none) hd rfl (by cases lim<;>rfl) (by simp [zaE,hc,he,hy]) h
theorem zii {bo:BinOp} {t t':TypeId} {x y:Operand} {k:IntKind} {m n:Int} {v:AV} (hd:d<N) (hx:evL N l x=.v (.int k m)) (hy:evL N l y=.v (.int k n)) (hv:zgT bo k m n=some v)
  (h:za7 P N lim g0 ops K (i+1) r (Fr.of ((d,v)::l)) H g):za7 P N lim g0 ops K i (⟨some d,.binOp bo t x y t',ty,pos,after,none⟩::r) (Fr.of l) H g:=by
 have hs:zjH bo k m n=none:=by
  unfold zjH
  split
  ·cases hv
  ·cases hv
  ·rfl
 exact zb4 (v:=v) (wr:=none) hd rfl (by cases lim<;>rfl) (by simp [zaE,hx,hy,zp3,hv,hs]) h
theorem zhr {m n:Int} {q:Int} (h:quo m n=some q):zgT .quo .i64 m n=some (.v (.int .i64 q)):=by
 unfold quo at h
 simp only [zgT]
 split at h
 ·cases h
 ·injection h with h
  rw [if_neg (by assumption),←h]
  rfl
theorem zjo {m n:Int} {q:Int} (h:rem m n=some q):zgT .rem .i64 m n=some (.v (.int .i64 q)):=by
 unfold rem at h
 simp only [zgT]
 split at h
 ·cases h
 ·injection h with h
  rw [if_neg (by assumption),←h]
theorem ztf {t t':TypeId} {x y:Operand} {m n:Bool} (hd:d<N) (hx:evL N l x=.v (.bool m)) (hy:evL N l y=.v (.bool n)) (ht:isBool P t=true)
  (h:za7 P N lim g0 ops K (i+1) r (Fr.of ((d,.v (.bool (m==n)))::l)) H g):za7 P N lim g0 ops K i (⟨some d,.binOp .eql t x y t',ty,pos,after,none⟩::r) (Fr.of l) H g :=
 zb4 (wr:=none) hd rfl (by cases lim<;>rfl) (by simp [zaE,hx,hy,zp3,ht]) h
theorem zgK {t:TypeId} {x:Operand} {e:Bool} (hd:d<N) (hx:evL N l x=.v (.bool e)) (h:za7 P N lim g0 ops K (i+1) r (Fr.of ((d,.v (.bool (!e)))::l)) H g):za7 P N lim g0 ops K i (⟨some d,.unOp .not t x,ty,pos,after,none⟩::r) (Fr.of l) H g :=
 zb4 (wr:=none) hd rfl (by cases lim<;>rfl) (by simp [zaE,hx]) h
theorem ztg {t:TypeId} {x:Operand} {n:Int} (hd:d<N) (hx:evL N l x=.v (.int .i64 n)) (h:za7 P N lim g0 ops K (i+1) r (Fr.of ((d,.v (.int .i64 (w64 (0-n))))::l)) H g):za7 P N lim g0 ops K i (⟨some d,.unOp .neg t x,ty,pos,after,none⟩::r) (Fr.of l) H g :=
 zb4 (wr:=none) hd rfl (by cases lim<;>rfl) (by simp [zaE,hx,w64]) h
theorem zbo {f:Operand} {args:Array Operand} {ts:Array TypeId} {k:FuncId} {first cap bs:List AV} {v:AV} (hd:d<N) (ht:tgt (evL N l f)=some (k,first,cap)) (ha:first++args.toList.map (evL N l)++cap=bs)
  (hs:zaS P k bs v) (h:za7 P N lim g0 ops K (i+1) r (Fr.of ((d,v)::l)) H g) :
  za7 P N lim g0 ops K i (⟨some d,.call { callee:=.value f,args:=args,argTypes:=ts },ty,pos,after,none⟩::r) (Fr.of l) H g:=run_pure hd ht ha hs h
theorem zem {t:TypeId} {cs:List AV} (hS:St O H0 L H b) (hd:d<N) (hz:zda P t=some cs) (hb:b<=g0+i)
  (h:∀H',St O H0 ((g0+i,.cells cs)::L) H' (g0+i+1)->za7 P N lim g0 ops K (i+1) r (Fr.of ((d,.ptr (g0+i) 0)::l)) H' g):za7 P N lim g0 ops K i (⟨some d,.alloc t,ty,pos,after,none⟩::r) (Fr.of l) H g :=
 zb4 (wr:=some (g0+i,.cells cs)) hd rfl (by cases lim<;>rfl) (by simp [zaE,hz]) (h _ (hS.add _ hb))
theorem zeZ {t:TypeId} {x:Operand} {v:AV} {cs:List AV} (hS:St O H0 L H b) (hd:d<N) (hx:evL N l x=v) (hc:cellsOf v=some cs) (hb:b<=g0+i)
  (h:∀H',St O H0 ((g0+i,.cells cs)::L) H' (g0+i+1)->za7 P N lim g0 ops K (i+1) r (Fr.of ((d,.ptr (g0+i) 0)::l)) H' g):za7 P N lim g0 ops K i (⟨some d,.box t x,ty,pos,after,none⟩::r) (Fr.of l) H g :=
 zb4 (wr:=some (g0+i,.cells cs)) hd rfl (by cases lim<;>rfl) (by simp [zaE,hx,hc]) (h _ (hS.add _ hb))
theorem zjp {t:TypeId} {cs ds:List AV} {off k:Nat} (h:zaw P t=some k) (hl:off+k<=cs.length) (hc:(cs.drop off).take k=ds):zfh P t cs off=some (.agg ds):=by simp [zfh,h,hl,hc]
theorem zhS {t:TypeId} {cs:List AV} {off:Nat} {v:AV} (h:zaw P t=none) (hs:scalar P t=true) (hc:cs[off]?=some v):zfh P t cs off=some v:=by simp [zfh,h,hs,hc]
theorem zbJ {t:TypeId} {x:Operand} {j off:Nat} {cs:List AV} {v:AV} (n:Nat) (hS:St O H0 L H b) (hd:d<N) (hx:evL N l x=.ptr j off) (hn:L[n]?=some (j,.cells cs)) (ho:Ok lim ops i j) (hp:zfh P t cs off=some v)
  (h:za7 P N lim g0 ops K (i+1) r (Fr.of ((d,v)::l)) H g):za7 P N lim g0 ops K i (⟨some d,.load t x,ty,pos,after,none⟩::r) (Fr.of l) H g :=
 zb4 (wr:=none) hd rfl (by
  cases hlim:lim with
  | none=>rfl
  | some q=>simpa [old,hx] using ho q hlim) (by simp [zaE,hx,hS.get hn,hp]) h
theorem zmS {t:TypeId} {x:Operand} {cs:List AV} {v:AV} (hd:d<N) (hx:evL N l x=.ep cs) (hp:zfh P t cs 0=some v)
  (h:za7 P N lim g0 ops K (i+1) r (Fr.of ((d,v)::l)) H g):za7 P N lim g0 ops K i (⟨some d,.load t x,ty,pos,after,none⟩::r) (Fr.of l) H g :=
 zb4 (wr:=none) hd rfl (by cases lim<;>simp [old,hx]) (by simp [zaE,hx,hp]) h
theorem zbC {t:TypeId} {x y:Operand} {j off:Nat} {cs ns:List AV} {v:AV} {L':List (Nat×Blk)} (n:Nat) (hS:St O H0 L H b) (hx:evL N l x=.ptr j off) (hn:L[n]?=some (j,.cells cs)) (ho:Ok lim ops i j)
  (hy:evL N l y=v) (hc:cellsOf v=some ns) (hv:zam P t=some ns.length) (hl:off+ns.length<=cs.length) (hL:putAt L n (.cells (zdx cs off ns))=L')
  (h:∀H',St O H0 L' H' b->za7 P N lim g0 ops K (i+1) r (Fr.of l) H' g):za7 P N lim g0 ops K i (⟨none,.store t x y,ty,pos,after,none⟩::r) (Fr.of l) H g :=
 zkC (v:=.any) (wr:=some (j,.cells (zdx cs off ns))) rfl (by
  cases hlim:lim with
  | none=>rfl
  | some q=>simpa [old,hx] using ho q hlim) (by simp [zaE,hx,hS.get hn,hy,hc,hv,hl]) (h _ (hL▸hS.put hn _))
theorem zbQ {x:Operand} {j off:Nat} (hd:d<N) (hx:evL N l x=.ptr j off) (h:za7 P N lim g0 ops K (i+1) r (Fr.of ((d,.ptr j off)::l)) H g):za7 P N lim g0 ops K i (⟨some d,.nilCheck x,ty,pos,after,none⟩::r) (Fr.of l) H g :=
 zb4 (wr:=none) hd rfl (by cases lim<;>rfl) (by simp [zaE,hx]) h
theorem zan {s f:Nat} {x:Operand} {j off k:Nat} (hd:d<N) (hk:zao P s f=some k) (hx:evL N l x=.ptr j off) (h:za7 P N lim g0 ops K (i+1) r (Fr.of ((d,.ptr j (off+k))::l)) H g):za7 P N lim g0 ops K i (⟨some d,.fieldAddr s x f,ty,pos,after,none⟩::r) (Fr.of l) H g :=
 zb4 (wr:=none) hd rfl (by cases lim<;>rfl) (by simp [zaE,hk,hx]) h
theorem zn2 {s f:Nat} {x:Operand} {cs:List AV} {k:Nat} (hd:d<N) (hk:zao P s f=some k) (hx:evL N l x=.ep cs) (h:za7 P N lim g0 ops K (i+1) r (Fr.of ((d,.ep (cs.drop k))::l)) H g):za7 P N lim g0 ops K i (⟨some d,.fieldAddr s x f,ty,pos,after,none⟩::r) (Fr.of l) H g :=
 zb4 (wr:=none) hd rfl (by cases lim<;>rfl) (by simp [zaE,hk,hx]) h
theorem zo5 {s f:Nat} {x:Operand} {cs:List AV} {q:Nat×TypeId} {v:AV} (hd:d<N) (hk:fieldType P s f=some q) (hx:evL N l x=.agg cs) (hp:zfh P q.2 cs q.1=some v) (h:za7 P N lim g0 ops K (i+1) r (Fr.of ((d,v)::l)) H g):za7 P N lim g0 ops K i (⟨some d,.field s x f,ty,pos,after,none⟩::r) (Fr.of l) H g :=
 zb4 (wr:=none) hd rfl (by cases lim<;>rfl) (by simp [zaE,hk,hx,hp]) h
theorem zmT {x:Operand} {n:Nat} {vs:List AV} {v:AV} (hd:d<N) (hx:evL N l x=.tup vs) (hn:vs[n]?=some v) (h:za7 P N lim g0 ops K (i+1) r (Fr.of ((d,v)::l)) H g):za7 P N lim g0 ops K i (⟨some d,.extract x n,ty,pos,after,none⟩::r) (Fr.of l) H g :=
 zb4 (wr:=none) hd rfl (by cases lim<;>rfl) (by simp [zaE,hx,hn]) h
theorem zbr {α:Type} {t:TypeId} {x y:Operand} {tg:Tag} {k:Nat} {xs:List α} {f:α->List AV} {z:Int} {u:α} (hd:d<N) (hx:evL N l x=.sl tg k (xs.map f)) (hy:evL N l y=.v (.int .i64 z)) (hk:zaD P t=some k) (hu:idx xs z=some u)
  (h:za7 P N lim g0 ops K (i+1) r (Fr.of ((d,.ep (f u))::l)) H g):za7 P N lim g0 ops K i (⟨some d,.indexAddr t x y,ty,pos,after,none⟩::r) (Fr.of l) H g:=by
 obtain ⟨h0,h1⟩:=zmP f hu
 refine zb4 (wr:=none) hd rfl (by cases lim<;>rfl) ?_ h
 simp only [zaE,hx,hy,zfi,if_pos h0,Option.bind_some,hk,if_true,h1,Option.map_some]
theorem zcI {t ty':TypeId} {x:Operand} {tg:Tag} {k n:Nat} {es:List (List AV)} (hd:d<N) (hx:evL N l x=.sl tg k es) (hn:es.length=n) (ht:isSlice P t=true)
  (h:za7 P N lim g0 ops K (i+1) r (Fr.of ((d,.v (.int .i64 n))::l)) H g):za7 P N lim g0 ops K i (⟨some d,.call { callee:=.builtin .len,args:=#[x],argTypes:=#[t] },ty',pos,after,none⟩::r) (Fr.of l) H g :=
 zb4 (wr:=none) hd rfl (by cases lim<;>rfl) (by simp [zaE,hx,ht,hn]) h
theorem zd3 {t:TypeId} {ps:Array (Nat×Operand)} {z:List AV} {pl:List (Nat×Nat)} {cs:List AV} (hd:d<N) (hz:zda P t=some z) (hp:places P t=some pl) (hf:ziC pl z (ps.toList.map fun q=>(q.1,evL N l q.2))=some cs)
  (h:za7 P N lim g0 ops K (i+1) r (Fr.of ((d,.agg cs)::l)) H g):za7 P N lim g0 ops K i (⟨some d,.build t ps,ty,pos,after,none⟩::r) (Fr.of l) H g :=
 zb4 (wr:=none) hd rfl (by cases lim<;>rfl) (by simp only [zaE,hz,hp,hf,Option.bind_some,Option.map_some]) h
theorem zl0 {fn:Fn} {x y:Array Operand} {first cap:List AV} (hd:d<N) (h1:x.toList.map (evL N l)=first) (h2:y.toList.map (evL N l)=cap) (h:za7 P N lim g0 ops K (i+1) r (Fr.of ((d,.fn fn first cap)::l)) H g) :
  za7 P N lim g0 ops K i (⟨some d,.makeFunc fn x y,ty,pos,after,none⟩::r) (Fr.of l) H g :=
 zb4 (wr:=none) hd rfl (by cases lim<;>rfl) (by simp only [zaE,h1,h2]) h
theorem zmU {α:Type} {t:TypeId} {x:Operand} {lo hi:Option Operand} {tg:Tag} {k:Nat} {xs ys:List α} {f:α->List AV} {p q:Int} (hd:d<N) (hx:evL N l x=.sl tg k (xs.map f)) (hk:zaD P t=some k)
  (hl:(lo.map (evL N l)=none/\p=0)\/lo.map (evL N l)=some (.v (.int .i64 p))) (hh:(hi.map (evL N l)=none/\q=xs.length)\/hi.map (evL N l)=some (.v (.int .i64 q))) (hc:cut xs p q=some ys)
  (h:za7 P N lim g0 ops K (i+1) r (Fr.of ((d,.sl .no k (ys.map f))::l)) H g):za7 P N lim g0 ops K i (⟨some d,.slice t x lo hi none,ty,pos,after,none⟩::r) (Fr.of l) H g:=by
 refine zb4 (v:=.sl .no k (ys.map f)) (wr:=none) hd rfl (by cases lim<;>rfl) ?_ h
 unfold cut at hc
 split at hc
 case isFalse=>cases hc
 rename_i hpq
 injection hc with hc
 have e1:loN (lo.map (evL N l))=some p.toNat:=by
  rcases hl with ⟨e,rfl⟩ | e<;>rw [e]<;>simp [loN,zfi,hpq.1]
 have e2:hiN (Option.isSome (none:Option AV)) (xs.map f).length (hi.map (evL N l))=some q.toNat:=by
  rcases hh with ⟨e,rfl⟩ | e<;>rw [e]
  ·simp [hiN]
  ·simp only [hiN,zfi]
   rw [if_pos (by omega)]
 simp only [zaE,hx,zkU,if_pos hk,e1,e2,Option.bind_some,Option.map_none,zr4]
 rw [if_pos ⟨by omega,by rw [List.length_map];omega⟩,←hc]
 simp [List.map_drop,List.map_take]
theorem zcz {t:TypeId} {n k:Nat} {e:TypeId} {ps:Array (Nat×Operand)} {es:List (List AV)} (hS:St O H0 L H b) (hd:d<N) (hk:zaD P t=some k) (he:zb5 P t=some e) (hp:zcN k 0 (ps.toList.map fun q=>(q.1,evL N l q.2))=some es) (hf:za3 P t=true) (hn:es.length=n) (hnk:n*k<=1048576) (hb:b<=g0+i)
  (h:∀H',St O H0 ((g0+i,.row e n)::L) H' (g0+i+1)->za7 P N lim g0 ops K (i+1) r (Fr.of ((d,.sl (.id (g0+i)) k es)::l)) H' g):za7 P N lim g0 ops K i (⟨some d,.buildSlice t n ps,ty,pos,after,none⟩::r) (Fr.of l) H g :=
 zb4 (v:=.sl (.id (g0+i)) k es) (wr:=some (g0+i,.row e n)) hd rfl (by cases lim<;>rfl) (by simp only [zaE,hk,hp,Option.bind_some];rw [if_pos ⟨hf,hn,hnk⟩];simp only [he,Option.bind_some]) (h _ (hS.add _ hb))
theorem zij {P:Program} {t:TypeId} {n:Nat} (h:n<=1048576):zmk P t n=true:=by
 unfold zmk
 simp [h]
theorem zg0 {α:Type} {t e:TypeId} {x y:Operand} {τ k:Nat} {tg:Tag} {xs ys zs:List α} {f:α->List AV} {L':List (Nat×Blk)} {m:Nat} (n:Nat) (hS:St O H0 L H b) (hd:d<N) (hx:evL N l x=.sl (.id τ) k (xs.map f)) (hy:evL N l y=.sl tg k (ys.map f))
  (hn:L[n]?=some (τ,.row e m)) (hm:m=xs.length) (ho:Ok lim ops i τ) (hk:zaD P t=some k) (he:zb5 P t=some e) (hf:za3 P t=true) (hz:app xs ys=some zs) (hL:putAt L n (.row e zs.length)=L')
  (h:∀H',St O H0 L' H' b->za7 P N lim g0 ops K (i+1) r (Fr.of ((d,.sl (.id τ) k (zs.map f))::l)) H' g) :
  za7 P N lim g0 ops K i (⟨some d,.call { callee:=.builtin .append,args:=#[x,y],argTypes:=#[t,t] },ty,pos,after,none⟩::r) (Fr.of l) H g:=by
 unfold app at hz
 split at hz
 case isFalse=>cases hz
 injection hz with hz
 subst hm
 refine zb4 (v:=.sl (.id τ) k (zs.map f)) (wr:=some (τ,.row e zs.length)) hd rfl ?_ ?_ (h _ (hL▸hS.put hn _))
 ·cases hlim:lim with
  | none=>rfl
  | some q=>simpa [old,hx] using ho q hlim
 ·simp only [zaE,List.map_cons,List.map_nil,hx,hy,if_true,zeI]
  rw [if_pos ⟨hf,zij (by simpa using by assumption),.inl hk⟩]
  simp only [hS.get hn]
  rw [if_pos ⟨hk,he,by simp⟩]
  simp [←hz]
end
theorem zbL {α:Type} {P:Program} {N:Nat} {fr:Fr} {H H0:zaa} {g b:Nat} {L:List (Nat×Blk)} {rs:List ResultVar} {e:Exit} {x:AV} {f:α->AV} {u r:α} (he:e=.normal\/e=.ret) (hx:ziL P N fr H rs=some x) (hl:Le (f u) x) (hu:u=r) (hS:St (·<g) H0 L H b) :
  (e=.normal\/e=.ret)/\(∃x,ziL P N fr H rs=some x/\Le (f r) x)/\∀i,i<g->H i=H0 i:=⟨he,⟨x,hx,hu▸hl⟩,fun i hi=>(hS.old i hi).2⟩
section
variable {P:Program} {N:Nat} {l:List (Nat×AV)} {H:zaa} {O:Nat->Prop} {H0:zaa} {L:List (Nat×Blk)} {b:Nat}
theorem zau {t:Nat} {x:AV} (h:evL N l (.tmp t)=x):zfI P N (Fr.of l) H (.tmp t)=some x:=by simp [zfI,zig,h]
theorem zfc {t ty j off:Nat} {cs:List AV} {x:AV} (n:Nat) (hS:St O H0 L H b) (h:evL N l (.tmp t)=.ptr j off) (hn:L[n]?=some (j,.cells cs)) (hp:zfh P ty cs off=some x):zfI P N (Fr.of l) H (.cell t ty)=some x:=by
 simp [zfI,zig,h,hS.get hn,hp]
theorem zaJ {fr:Fr} {a:ResultVar} {x:AV} (h:zfI P N fr H a=some x):ziL P N fr H [a]=some x:=by simp [ziL,h]
theorem ze0 {fr:Fr} {a c:ResultVar} {x y:AV} (h:zfI P N fr H a=some x) (h':zfI P N fr H c=some y):ziL P N fr H [a,c]=some (.tup [x,y]):=by simp [ziL,h,h']
theorem zj1 {fr:Fr} {a c d:ResultVar} {x y z:AV} (h:zfI P N fr H a=some x) (h':zfI P N fr H c=some y) (h'':zfI P N fr H d=some z):ziL P N fr H [a,c,d]=some (.tup [x,y,z]):=by simp [ziL,h,h',h'']
end
end Go.AM
