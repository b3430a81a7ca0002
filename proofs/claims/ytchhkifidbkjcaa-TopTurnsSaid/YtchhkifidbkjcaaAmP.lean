/-
  The abstract machine: functions that change several blocks, or a state that a given function keeps.
  Conditions: none; it speaks of any program.
-/
import Derived.Test.YtchhkifidbkjcaaAmO
set_option linter.all false
namespace Go.AM
open Go Go.RowKit
theorem zhc.le {P:Program} {k:FuncId} {as bs:List AV} {L L':BL} {r:AV} (h:zhc P k as L r L') (hl:LeL as bs):zhc P k bs L r L':=fun H g hf hc =>
 ⟨(h H g hf hc).1,fun G w vs hp hv=>(h H g hf hc).2 G w vs hp (hv.le hl)⟩
theorem zbE {P : Program} {N : Nat} (hm : P.follows .mixedOrders = true) {f : FuncId} {fn : Func} {c : Code} (hf : P.funcs[f]? = some fn) (hb : fn.body = some c) (hname : fn.name ≠ "runtime.NumGoroutine") (hN : fn.ntmps = N)
  {as:List AV} (hlen:as.length<=N) {r:AV} {L L':BL} (hkin:zg7 L L') (hnd:(ids L).Nodup) (hp:∀H,Has H L'->In H r) (hds:InB In L')
  (h:∀H g,za2 H g->Has H L->wpA P N c (fun e fr H1 _=>(e=.normal\/e=.ret)/\(∃x,zgu P N fr H1 fn.results.toList=some x/\Le r x)/\(∀i,i<g/\i∉ids L->H1 i=H i)/\Has H1 L') (zfB as) H g):zhc P f as L r L':=fun H g hfr hid=>by
 have hlt:∀i x,H i=some x->i<g:=fun i x hi=>by
  rcases Nat.lt_or_ge i g with h | h
  ·exact h
  ·rw [hfr i h] at hi;cases hi
 have hold:∀i,i∈ids L->∃b,H i=some b:=fun i hi=>by
  obtain ⟨b,hc⟩:=zfP hi
  exact ⟨b,hid _ hc⟩
 have hnd':(ids L').Nodup:=hkin.ids▸hnd
 have hkp:=zpi hkin hid hnd'
 refine zhn hm hf hb hname hN hlen hfr (fun i hi=>?_) (Nat.le_refl _) (hp _ (zgU H hnd')) (fun i hi=>?_) (fun i e n hi=>?_) (fun i k p hi=>?_) (fun i _ hq=>?_) (fun i cs' hq=>?_)
  (h H g hfr hid) fun e fr H1 g1 hq=>⟨hq.1,hq.2.1,fun i x hi=>?_⟩
 ·rw [zei]
  ·exact hfr i hi
  ·rw [←hkin.ids]
   intro hm
   obtain ⟨b,hc⟩:=hold i hm
   rw [hfr i hi] at hc
   cases hc
 ·rcases hi with ⟨cs,hi⟩ | hi
  ·obtain ⟨y,hy,hky⟩:=hkp i _ hi
   cases y with
   | cells cs'=>exact .inl ⟨cs',hy⟩
   | _=>exact hky.elim
  ·obtain ⟨y,hy,hky⟩:=hkp i _ hi
   cases y with
   | ice=>exact .inr hy
   | _=>exact hky.elim
 ·obtain ⟨y,hy,hky⟩:=hkp i _ hi
  cases y with
  | row e' n'=>rw [show e=e' from hky];exact ⟨n',hy⟩
  | _=>exact hky.elim
 ·obtain ⟨y,hy,hky⟩:=hkp i _ hi
  cases y with
  | obj k' p'=>rw [show k=k' from hky];exact ⟨p',hy⟩
  | _=>exact hky.elim
 ·rw [zei]
  ·exact hq
  ·rw [←hkin.ids]
   intro hm
   obtain ⟨b,hc⟩:=hold i hm
   rw [hc] at hq
   cases hq
 ·rcases zhL hq with h1 | ⟨_,h2⟩
  ·exact .inr fun c hc=>hds _ cs' h1 rfl c hc _ (zgU H hnd')
  ·exact .inl h2
 ·rcases zhL hi with h1 | ⟨h1,h2⟩
  ·exact hq.2.2.2 _ h1
  ·rw [hq.2.2.1 i ⟨hlt i x h2,by rw [hkin.ids];exact h1⟩]
   exact h2
theorem St.startH {g:Nat} {H:zaa} {L:BL} (hf:za2 H g) (hnd:(ids L).Nodup) (hp:Has H L):St (fun i=>i<g/\i∉ids L) H L H g:=by
 refine ⟨fun _ h=>⟨h.1,rfl⟩,fun p hpm=>?_,hnd,hf⟩
 have h1:=hp p hpm
 refine ⟨fun h=>h.2 (List.mem_map_of_mem (f:=(·.1)) hpm),?_,h1⟩
 rcases Nat.lt_or_ge p.1 g with h | h
 ·exact h
 ·rw [hf _ h] at h1;cases h1
def zwg (M:BL) (c:AV):Prop:=Pure c\/∃τ k es e n,c=.sl (.id τ) k es/\(τ,Blk.row e n)∈M/\∀x,x∈es->∀y,y∈x->Pure y
def zlU (A M:BL) (c:AV):Prop:=zwg A c\/(∀H,Has H M->In H c)\/∃i off k n m cs,c=.ms i off k n m/\(i,Blk.cells cs)∈A
theorem zhs {A M:BL}:∀c,c∈([]:List AV)->zlU A M c:=fun _ h=>by simp at h
theorem zbK {A M:BL} {a:AV} {cs:List AV} (h:zlU A M a) (t:∀c,c∈cs->zlU A M c):∀c,c∈a::cs->zlU A M c:=fun c hc=>by
 rcases List.mem_cons.1 hc with rfl | hc
 ·exact h
 ·exact t c hc
def OkC (A M:BL) (p:Nat×Blk):Prop:=∀cs,p.2=.cells cs->∀c,c∈cs->zlU A M c
theorem ziB {A M:BL}:∀p,p∈([]:BL)->OkC A M p:=fun _ h=>by simp at h
theorem zeA {A M L:BL} {i:Nat} {cs:List AV} (h:∀c,c∈cs->zlU A M c) (t:∀p,p∈L->OkC A M p):∀p,p∈(i,Blk.cells cs)::L->OkC A M p:=fun p hp=>by
 rcases List.mem_cons.1 hp with rfl | hp
 ·intro ds e;injection e with e;subst e;exact h
 ·exact t p hp
theorem ziC {A M:BL} (hA:∀p,p∈A->OkC A M p) (hM:InB In M):InB In (A++M):=fun p cs hp e c hc H hH=>by
 rcases List.mem_append.1 hp with hp | hp
 ·rcases hA p hp cs e c hc with (h1 | ⟨τ,k,es,e',n,rfl,hm,hpu⟩) | h2
  ·exact h1.inH
  ·exact .sl _ _ _ (fun τ' ht=>by injection ht with ht;subst ht;exact ⟨_,_,hH _ (List.mem_append.2 (.inl hm))⟩) fun x hx y hy=>(hpu x hx y hy).inH
  ·rcases h2 with h2 | ⟨i,off,k,n,m,ds,rfl,hm⟩
   ·exact h2 H fun q hq=>hH q (List.mem_append.2 (.inr hq))
   ·exact .ms _ _ _ _ _ (.inl ⟨_,hH _ (List.mem_append.2 (.inl hm))⟩)
 ·exact hM p cs hp e c hc H fun q hq=>hH q (List.mem_append.2 (.inr hq))
theorem zeW:InB In []:=fun p cs hp=>by simp at hp
theorem zns {P:Program} {k:FuncId} {as:List AV} {r:AV} (h:zaR P k as r):zhc P k as [] r []:=fun H g hf _=>h H g hf
theorem zdf {α:Type} {P:Program} {N:Nat} {fr:Fr} {H H0:zaa} {g b:Nat} {I:List Nat} {L:BL} {rs:List ResultVar} {e:Exit} {x:AV} {f:α->AV} {fd:α->BL} {u r:α} (he:e=.normal\/e=.ret) (hx:zgu P N fr H rs=some x) (hl:Le (f u) x) (hu:u=r) (hS:St (fun i=>i<g/\i∉I) H0 L H b)
  (n:Nat) (hn:L.drop n=fd u) :
  (e=.normal\/e=.ret)/\(∃x,zgu P N fr H rs=some x/\Le (f r) x)/\(∀i,i<g/\i∉I->H i=H0 i)/\Has H (fd r):=by
 subst hu
 exact ⟨he,⟨x,hx,hl⟩,fun i hi=>(hS.old i hi).2,fun p hm=>((hS.sub (hn▸List.drop_sublist n L:(fd u).Sublist L)).has p hm).2.2⟩
theorem zu2 (u w:List AV) {as bs:List AV} (h:LeL as bs):LeL (u++as++w) (u++bs++w):=by
 induction u with
 | nil =>
  simp only [List.nil_append]
  induction as generalizing bs with
  | nil=>cases bs with
   | nil=>exact LeL.refl w
   | cons b bs=>exact h.elim
  | cons a as ih=>cases bs with
   | nil=>exact h.elim
   | cons b bs=>exact ⟨h.1,ih h.2⟩
 | cons a u ih=>exact ⟨.refl a,ih⟩
def At (L:BL):List Nat->BL->BL->Prop
 | [],[],[]=>True
 | n::ns,p::M,q::M'=>L[n]?=some p/\q.1=p.1/\At L ns M M'
 | _,_,_=>False
theorem At.nil {L:BL}:At L [] [] []:=trivial
theorem At.cons {L:BL} {n i:Nat} {x y:Blk} {ns:List Nat} {M M':BL} (h:L[n]?=some (i,x)) (t:At L ns M M'):At L (n::ns) ((i,x)::M) ((i,y)::M'):=⟨h,rfl,t⟩
def ziD (L:BL):List Nat->BL->BL
 | n::ns,p::M'=>putAt (ziD L ns M') n p.2
 | _,_=>L
theorem zrI {L:BL} {n m i:Nat} {x b:Blk} (h:L[n]?=some (i,x)):∃y,(putAt L m b)[n]?=some (i,y):=by
 induction L generalizing n m with
 | nil=>simp at h
 | cons p L ih =>
  cases m with
  | zero =>
   cases n with
   | zero=>simp at h;subst h;exact ⟨b,rfl⟩
   | succ n=>exact ⟨x,by simpa [putAt] using h⟩
  | succ m =>
   cases n with
   | zero=>exact ⟨x,by simpa [putAt] using h⟩
   | succ n=>simpa [putAt] using ih (by simpa using h)
theorem zqv {L:BL} (ns:List Nat) (M:BL) {n i:Nat} {x:Blk} (h:L[n]?=some (i,x)):∃y,(ziD L ns M)[n]?=some (i,y):=by
 induction ns generalizing M with
 | nil=>exact ⟨x,by simpa [ziD] using h⟩
 | cons k ns ih =>
  cases M with
  | nil=>exact ⟨x,by simpa [ziD] using h⟩
  | cons p M =>
   obtain ⟨y,hy⟩:=ih M
   exact zrI hy
theorem St.puts {O:Nat->Prop} {H0 H:zaa} {L:BL} {b:Nat} (hS:St O H0 L H b) {ns:List Nat} {M M':BL} (h:At L ns M M'):St O H0 (ziD L ns M') (H.puts M') b:=by
 induction ns generalizing M M' with
 | nil =>
  cases M with
  | nil=>cases M' with
   | nil=>exact hS
   | cons q M'=>exact h.elim
  | cons p M=>exact h.elim
 | cons n ns ih =>
  cases M with
  | nil=>exact h.elim
  | cons p M =>
   cases M' with
   | nil=>exact h.elim
   | cons q M' =>
    obtain ⟨h1,h2,h3⟩:=h
    obtain ⟨y,hy⟩:=zqv ns M' (show L[n]?=some (p.1,p.2) from h1)
    have:=(ih h3).put hy q.2
    show St O H0 (putAt (ziD L ns M') n _) ((H.puts M').set q.1 _) b
    rw [h2]
    exact this
theorem At.has {O:Nat->Prop} {H0 H:zaa} {L:BL} {b:Nat} (hS:St O H0 L H b) {ns:List Nat} {M M':BL} (h:At L ns M M'):Has H M:=by
 induction ns generalizing M M' with
 | nil =>
  cases M with
  | nil=>intro p h;simp at h
  | cons p M=>cases M'<;>exact h.elim
 | cons n ns ih =>
  cases M with
  | nil=>intro p h;simp at h
  | cons p M =>
   cases M' with
   | nil=>exact h.elim
   | cons q M' =>
    obtain ⟨h1,h2,h3⟩:=h
    intro p' hm
    rcases List.mem_cons.1 hm with rfl | hm
    ·exact hS.get (show L[n]?=some (p'.1,p'.2) from h1)
    ·exact ih h3 p' hm
theorem St.state {O:Nat->Prop} {H0 H:zaa} {L:BL} {b:Nat} {M M':BL} (hS:St O H0 (L++M) H b) (hids:ids M'=ids M):St O H0 (L++M') (H.puts M') b:=by
 have hnd:=hS.nd
 rw [List.map_append,List.nodup_append] at hnd
 have hM:∀p,p∈M'->¬O p.1/\p.1<b:=fun p hp=>by
  have:p.1∈ids M:=by rw [←hids];exact List.mem_map_of_mem (f:=(·.1)) hp
  obtain ⟨x,hc⟩:=zfP this
  have:=hS.has (p.1,x) (List.mem_append.2 (.inr hc))
  exact ⟨this.1,this.2.1⟩
 refine ⟨fun i hi=>⟨(hS.old i hi).1,?_⟩,fun p hp=>?_,?_,fun i hi=>?_⟩
 ·rw [zei]
  ·exact (hS.old i hi).2
  ·intro hm
   obtain ⟨x,hc⟩:=zfP hm
   exact (hM _ hc).1 hi
 ·rcases List.mem_append.1 hp with hp | hp
  ·have:=hS.has p (List.mem_append.2 (.inl hp))
   refine ⟨this.1,this.2.1,?_⟩
   rw [zei]
   ·exact this.2.2
   ·rw [hids]
    intro hm
    exact hnd.2.2 _ (List.mem_map_of_mem (f:=(·.1)) hp) _ hm rfl
  ·exact ⟨(hM p hp).1,(hM p hp).2,zgU H (by rw [hids];exact hnd.2.1) p hp⟩
 ·rw [List.map_append,show M'.map (·.1)=M.map (·.1) from hids,List.nodup_append]
  exact hnd
 ·rw [zei]
  ·exact hS.fr i hi
  ·intro hm
   obtain ⟨x,hc⟩:=zfP hm
   have:=(hM _ hc).2
   simp at this
   omega
theorem At.app {L M:BL} {ns:List Nat} {A A':BL} (h:At L ns A A'):At (L++M) ns A A':=by
 induction ns generalizing A A' with
 | nil=>cases A<;>cases A'<;>first | exact h | exact h.elim
 | cons n ns ih =>
  cases A with
  | nil=>cases A'<;>exact h.elim
  | cons p A =>
   cases A' with
   | nil=>exact h.elim
   | cons q A'=>exact ⟨by rw [List.getElem?_append_left (List.getElem?_eq_some_iff.1 h.1).1];exact h.1,h.2.1,ih h.2.2⟩
theorem St.has_state {O:Nat->Prop} {H0 H:zaa} {L:BL} {b:Nat} {M:BL} (hS:St O H0 (L++M) H b):Has H M:=fun p hm=>(hS.has p (List.mem_append.2 (.inr hm))).2.2
theorem zoH {P:Program} {N:Nat} {Q:Exit->Fr->zaa->Nat->Prop} {l:List (Nat×AV)} {H:zaa} {g:Nat} {b:Code} {O:Nat->Prop} {H0:zaa} {L L':List (Nat×Blk)} {bd i:Nat} {cs cs':List AV} (n:Nat) (hS:St O H0 L H bd) (hn:L[n]?=some (i,.cells cs)) (hle:LeL cs' cs) (hL:putAt L n (.cells cs')=L')
  (h:∀H',St O H0 L' H' bd->Exit.thenA (fun fr' H' g'=>∃fr0 H0 g0,zjc fr' H' g' fr0 H0 g0/\wpA P N b Q fr0 H0 g0) Q .normal (Fr.of l) H' g) :
  Exit.thenA (fun fr' H' g'=>∃fr0 H0 g0,zjc fr' H' g' fr0 H0 g0/\wpA P N b Q fr0 H0 g0) Q .normal (Fr.of l) H g:=by
 have hi:=hS.get hn
 obtain ⟨fr0,H1,g1,hd,hw⟩:=h _ (hL▸hS.put hn (.cells cs'))
 refine ⟨fr0,H1,g1,zjc.trans (fun hf=>?_) hd,hw⟩
 have hsame:∀(x:Nat) ds,(H.set i (.cells cs')) x=some (.cells ds)->∃ds',H x=some (.cells ds'):=fun x ds h=>by
  rcases zaa.set_cases h with ⟨rfl,_⟩ | ⟨_,h⟩
  ·exact ⟨cs,hi⟩
  ·exact ⟨ds,h⟩
 have hrow:∀(x:Nat) d n,(H.set i (.cells cs')) x=some (.row d n)->H x=some (.row d n):=fun x d n h=>by
  rcases zaa.set_cases h with ⟨_,hx⟩ | ⟨_,hx⟩
  ·cases hx
  ·exact hx
 refine ⟨fun x hx=>?_,fun G w hp=>?_⟩
 ·have hne:x≠i:=fun e=>by subst e;rw [hf x hx] at hi;cases hi
  rw [zaa.set_ne _ _ hne]
  exact hf x hx
 have hobj:∀(x:Nat) q p,(H.set i (.cells cs')) x=some (.obj q p)->H x=some (.obj q p):=fun x d n h=>by
  rcases zaa.set_cases h with ⟨_,hx⟩ | ⟨_,hx⟩
  ·cases hx
  ·exact hx
 have hfree:∀b n,zis G H b n->zis G (H.set i (.cells cs')) b n:=fun b n h =>
  ⟨fun x ds hx=>by obtain ⟨ds',hx'⟩:=hsame x ds hx;exact h.1 x ds' hx',fun x d m hx=>h.2 x d m (hrow x d m hx)⟩
 have E:Evo G H w G (H.set i (.cells cs')) w:=by
  refine ⟨fun x h=>⟨rfl,zaa.cel_put h⟩,fun x d n h=>⟨rfl,n,?_,Nat.le_refl _,fun _=>rfl⟩,fun x q p h=>⟨rfl,p,?_⟩,fun b n h=>⟨fun _ _ _ hx=>hx,fun _=>hfree b n h⟩,rfl,fun _ _ _ _ _ h=>h⟩
  ·rw [zaa.set_ne _ _ (fun e=>by subst e;rw [hi] at h;cases h)];exact h
  ·rw [zaa.set_ne _ _ (fun e=>by subst e;rw [hi] at h;cases h)];exact h
 refine ⟨G,⟨fun x ds h=>?_,fun x d n h=>hp.rows x d n (hrow x d n h),fun x y ds fs h1 h2 he=>?_,fun x y ds d n h1 h2=>?_,fun x y d m d' n b h1 h2=>hp.own x y d m d' n b (hrow x d m h1) (hrow y d' n h2),fun x q p h=>hp.objs x q p (hobj x q p h),fun x y q q' p p' h1 h2=>hp.oinj x y q q' p p' (hobj x q p h1) (hobj y q' p' h2),hp.lo⟩,⟨E,rfl,rfl,rfl,Nat.le_refl _,fun _ _ _=>rfl,fun b hb=>.inl ?_⟩,fun t x hv=>hv.evo E⟩
 ·rcases zaa.set_cases h with ⟨rfl,hx⟩ | ⟨_,hx⟩
  ·injection hx with hx
   subst hx
   obtain ⟨vs,ty,h1,h2,h3,h4⟩:=hp.cells x cs hi
   refine ⟨vs,ty,h1,⟨by rw [hle.get.1];exact h2.1,h2.2⟩,by rw [hle.get.1];exact h3,fun y c v hc hv=>?_⟩
   have hy:y<cs.length:=by have:=(List.getElem?_eq_some_iff.1 hc).1;rw [hle.get.1] at this;exact this
   exact ((h4 y cs[y] v (List.getElem?_eq_getElem hy) hv).le (hle.get.2 y c _ hc (List.getElem?_eq_getElem hy))).evo E
  ·obtain ⟨vs,ty,h1,h2,h3,h4⟩:=hp.cells x ds hx
   exact ⟨vs,ty,h1,h2,h3,fun y c v hc hv=>(h4 y c v hc hv).evo E⟩
 ·obtain ⟨ds',h1'⟩:=hsame x ds h1
  obtain ⟨fs',h2'⟩:=hsame y fs h2
  exact hp.inj x y ds' fs' h1' h2' he
 ·obtain ⟨ds',h1'⟩:=hsame x ds h1
  exact hp.sep x y ds' d n h1' (hrow y d n h2)
 ·rcases hb with ⟨x,ds,hx,hb⟩ | ⟨x,d,n,hx,hb⟩ | ⟨x,q,p,hx,hb⟩
  ·obtain ⟨ds',hx'⟩:=hsame x ds hx
   exact .inl ⟨x,ds',hx',hb⟩
  ·exact .inr (.inl ⟨x,d,n,hrow x d n hx,hb⟩)
  ·exact .inr (.inr ⟨x,q,p,hobj x q p hx,hb⟩)
section
variable {P:Program} {N:Nat} {l:List (Nat×AV)} {H:zaa} {g:Nat} {lim:Option Nat} {g0 i:Nat} {ops:Array Oper} {K:Fr->zaa->Nat->Prop} {r:List Oper} {d:Nat} {ty:TypeId} {pos:String} {after:Array Edge}
 {O:Nat->Prop} {H0:zaa} {L L':List (Nat×Blk)} {b:Nat}
theorem zlV {f:Operand} {args:Array Operand} {ts:Array TypeId} {k:FuncId} {first cap bs:List AV} {v:AV} {M M':BL} (ns:List Nat) (hl:lim=none\/zfe ops (Fr.of l) i=true) (hS:St O H0 L H b) (hd:d<N) (ht:tgt (evL N l f)=some (k,first,cap)) (ha:first++args.toList.map (evL N l)++cap=bs)
  (hs:zhc P k bs M v M') (hA:At L ns M M') (hL:ziD L ns M'=L') (hb:b<=g)
  (h:∀H',St O H0 L' H' b->zaL P N lim g0 ops K (i+1) r (Fr.of ((d,v)::l)) H' g) :
  zaL P N lim g0 ops K i (⟨some d,.call { callee:=.value f,args:=args,argTypes:=ts },ty,pos,after,none⟩::r) (Fr.of l) H g :=
 zie hd ht ha (hs H g (fun j hj=>hS.fr j (Nat.le_trans hb hj)) (hA.has hS)) hl (h _ (hL▸hS.puts hA))
theorem ztD {f:Operand} {args:Array Operand} {ts:Array TypeId} {F:AV} {bs:List AV} {v:AV} {M M':BL} (hl:lim=none\/zfe ops (Fr.of l) i=true) (hd:d<N) (ht:evL N l f=F) (ha:args.toList.map (evL N l)=bs) (hs:zlo P F bs M v M') (hf:za2 H g) (hh:Has H M)
  (h:zaL P N lim g0 ops K (i+1) r (Fr.of ((d,v)::l)) (H.puts M') g) :
  zaL P N lim g0 ops K i (⟨some d,.call { callee:=.value f,args:=args,argTypes:=ts },ty,pos,after,none⟩::r) (Fr.of l) H g:=by
 subst ht ha
 generalize hF:evL N l f=F at hs
 cases F with
 | fn fk u w =>
  cases fk with
  | func k=>exact zie hd (by rw [hF];rfl) rfl (hs H g hf hh) hl h
  | _=>exact hs.elim
 | yld j ts' cs =>
  simp only [zaL,zbs,opQ,zbz,zea,hF,tgt]
  exact ⟨hl,(j,ts',cs),M,v,M',rfl,hs,hh,by rw [zdP hd];exact h⟩
 | _=>exact hs.elim
theorem zgW {f:Operand} {args:Array Operand} {ts:Array TypeId} {F:AV} {bs:List AV} {v:AV} {M M':BL} (hl:lim=none\/zfe ops (Fr.of l) i=true) (hS:St O H0 (L++M) H b) (hd:d<N) (ht:evL N l f=F) (ha:args.toList.map (evL N l)=bs)
  (hs:zlo P F bs M v M') (hids:ids M'=ids M) (hb:b<=g)
  (h:∀H',St O H0 (L++M') H' b->zaL P N lim g0 ops K (i+1) r (Fr.of ((d,v)::l)) H' g) :
  zaL P N lim g0 ops K i (⟨some d,.call { callee:=.value f,args:=args,argTypes:=ts },ty,pos,after,none⟩::r) (Fr.of l) H g :=
 ztD hl hd ht ha hs (fun j hj=>hS.fr j (Nat.le_trans hb hj)) hS.has_state (h _ (hS.state hids))
theorem ziE {f:Operand} {args:Array Operand} {ts:Array TypeId} {k:FuncId} {first cap bs:List AV} {v:AV} {M M':BL} (hl:lim=none\/zfe ops (Fr.of l) i=true) (hS:St O H0 (L++M) H b) (hd:d<N) (ht:tgt (evL N l f)=some (k,first,cap)) (ha:first++args.toList.map (evL N l)++cap=bs)
  (hs:zhc P k bs M v M') (hids:ids M'=ids M) (hb:b<=g)
  (h:∀H',St O H0 (L++M') H' b->zaL P N lim g0 ops K (i+1) r (Fr.of ((d,v)::l)) H' g) :
  zaL P N lim g0 ops K i (⟨some d,.call { callee:=.value f,args:=args,argTypes:=ts },ty,pos,after,none⟩::r) (Fr.of l) H g :=
 zie hd ht ha (hs H g (fun j hj=>hS.fr j (Nat.le_trans hb hj)) hS.has_state) hl (h _ (hS.state hids))
end
end Go.AM
