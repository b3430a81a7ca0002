/-
  The abstract machine: given functions and their states, functions that return a new function, ranges over functions.
  Conditions: none; it speaks of any program.
-/
import Derived.Test.YtchhkifidbkjcaaAmP
set_option linter.all false
namespace Go.AM
open Go Go.RowKit
theorem zlo.le {P:Program} {f:AV} {as bs:List AV} {L L':BL} {r:AV} (h:zlo P f as L r L') (hl:LeL as bs):zlo P f bs L r L':=by
 cases f with
 | fn fk u w =>
  cases fk with
  | func k=>exact zhc.le h (zu2 u w hl)
  | _=>exact h.elim
 | yld j ts cs=>exact ⟨h.1,fun n G H g w vs hf hh hp hy hv=>h.2 n G H g w vs hf hh hp hy (hv.le hl)⟩
 | _=>exact h.elim
theorem zfS:zg7 [] []:=trivial
theorem zd1 {i:Nat} {cs ds:List AV} {L M:BL} (h:zg7 L M):zg7 ((i,.cells cs)::L) ((i,.cells ds)::M):=⟨rfl,trivial,h⟩
theorem zu4 {A B M M':BL} (h:zg7 A B) (t:zg7 M M'):zg7 (A++M) (B++M'):=by
 induction A generalizing B with
 | nil=>cases B with
  | nil=>exact t
  | cons q B=>exact h.elim
 | cons p A ih=>cases B with
  | nil=>exact h.elim
  | cons q B=>exact ⟨h.1,h.2.1,ih h.2.2⟩
theorem At.mem {L M M':BL} {ns:List Nat} (hA:At L ns M M') {i:Nat} (hi:i∈ids M):∃n,n∈ns/\∃x,L[n]?=some (i,x):=by
 induction ns generalizing M M' with
 | nil=>cases M with
  | nil=>simp [ids] at hi
  | cons p M=>cases M'<;>exact hA.elim
 | cons n ns ih=>cases M with
  | nil=>cases M'<;>exact hA.elim
  | cons p M=>cases M' with
   | nil=>exact hA.elim
   | cons q M' =>
    simp only [ids,List.map_cons,List.mem_cons] at hi
    rcases hi with rfl | hi
    ·exact ⟨n,by simp,p.2,hA.1⟩
    ·obtain ⟨m,hm,h⟩:=ih hA.2.2 hi
     exact ⟨m,by simp [hm],h⟩
theorem zux {L:BL} (hnd:(L.map (·.1)).Nodup) {m n i:Nat} {x y:Blk} (hm:L[m]?=some (i,x)) (hn:L[n]?=some (i,y)):m=n:=by
 have hm':(L.map (·.1))[m]?=some i:=by rw [List.getElem?_map,hm];rfl
 have hn':(L.map (·.1))[n]?=some i:=by rw [List.getElem?_map,hn];rfl
 exact (List.getElem?_inj (List.getElem?_eq_some_iff.1 hm').1 hnd).1 (hm'.trans hn'.symm)
theorem zwh {L M M':BL} (hnd:(L.map (·.1)).Nodup) {ns:List Nat} (hA:At L ns M M') (hns:ns.Nodup):(ids M).Nodup:=by
 induction ns generalizing M M' with
 | nil=>cases M with
  | nil=>exact List.nodup_nil
  | cons p M=>cases M'<;>exact hA.elim
 | cons n ns ih=>cases M with
  | nil=>cases M'<;>exact hA.elim
  | cons p M=>cases M' with
   | nil=>exact hA.elim
   | cons q M' =>
    obtain ⟨h1,_,h3⟩:=hA
    obtain ⟨hn,hns⟩:=List.nodup_cons.1 hns
    refine List.nodup_cons.2 ⟨fun hm=>?_,ih h3 hns⟩
    obtain ⟨m,hm1,x,hm2⟩:=h3.mem hm
    have:=zux hnd (show L[n]?=some (p.1,p.2) from h1) hm2
    exact hn (this▸hm1)
theorem St.nd_at {O:Nat->Prop} {H0 H:zaa} {L:BL} {b:Nat} (hS:St O H0 L H b) {M M':BL} {ns:List Nat} (hA:At L ns M M') (hns:ns.Nodup):(ids M).Nodup:=zwh hS.nd hA hns
theorem zb2 {H:zaa}:∀c,c∈([]:List AV)->In H c:=fun _ h=>by simp at h
theorem za0 {H:zaa} {a:AV} {cs:List AV} (h:In H a) (t:∀c,c∈cs->In H c):∀c,c∈a::cs->In H c:=fun c hc=>by
 rcases List.mem_cons.1 hc with rfl | hc
 ·exact h
 ·exact t c hc
theorem znt {H:zaa} {M:BL} {i o:Nat} {cs:List AV} (hH:Has H M) (n:Nat) (hn:M[n]?=some (i,.cells cs)):In H (.ptr i o):=.ptr _ _ (.inl ⟨_,hH _ (List.mem_of_getElem? hn)⟩)
theorem zht {B:Type} {o:Option B} {r:B×Unit} (h:o.map (fun y=>(y,()))=some r):o=some r.1:=by
 cases o with
 | none=>cases h
 | some y=>injection h with h;rw [←h]
def zrP (P:Program) (f:FuncId) (as:List AV) (r:Nat->AV) (X Y:List AV):Prop:=∀H g,za2 H g->Sat P f as H g (r g) (H.puts [(g+1,.cells X),(g,.cells Y)]) (g+2)
theorem zrP.le {P:Program} {k:FuncId} {as bs:List AV} {r:Nat->AV} {X Y:List AV} (h:zrP P k as r X Y) (hl:LeL as bs):zrP P k bs r X Y:=fun H g hf =>
 ⟨(h H g hf).1,fun G w vs hp hv=>(h H g hf).2 G w vs hp (hv.le hl)⟩
section
variable {P:Program} {N:Nat} {l:List (Nat×AV)} {H:zaa} {g:Nat} {lim:Option Nat} {g0 i:Nat} {ops:Array Oper} {K:Fr->zaa->Nat->Prop} {r:List Oper} {d:Nat} {ty:TypeId} {pos:String} {after:Array Edge}
 {O:Nat->Prop} {H0:zaa} {L L':List (Nat×Blk)} {b:Nat}
end
theorem ztG {l2:List (Nat×AV)} (t:Nat):(match ((l2.map (·.1)).zip (l2.map (·.2))).find? (fun q=>q.1==t) with | some q=>q.2 | none=>.any)=lk l2 t:=by
 induction l2 with
 | nil=>rfl
 | cons p l2 ih =>
  simp only [List.map_cons,List.zip_cons_cons,List.find?_cons,lk]
  by_cases h:p.1=t
  ·simp [h]
  ·rw [show (p.1==t)=false by simp [h],if_neg (Ne.symm h)]
   exact ih
theorem zu5 {N p:Nat} (hp:p<N) (x:AV) (l2:List (Nat×AV)):rFr N [p] (l2.map (·.1)) (l2.map (·.2)) [x]=Fr.of ((p,x)::l2):=by
 funext t
 simp only [rFr,List.zip_cons_cons,List.zip_nil_left,List.foldl_cons,List.foldl_nil,Fr.put,if_pos hp]
 by_cases h:t=p
 ·subst h
  simp [Fr.of,lk]
 ·rw [if_neg h]
  show _=lk ((p,x)::l2) t
  rw [zoA (by first | exact h | exact Ne.symm h)]
  exact ztG t
theorem St.congr {O:Nat->Prop} {H0 H H1:zaa} {L:BL} {b g:Nat} (hS:St O H0 L H1 b) (hb:b<=g) (h:∀i,i<g->H i=H1 i) (hf:za2 H (g+1)) (hg:H g=none\/True):(∀i,i<b->H i=H1 i):=fun i hi=>h i (Nat.lt_of_lt_of_le hi hb)
theorem zu6 {P:Program} {N:Nat} {Q:Exit->Fr->zaa->Nat->Prop} {l:List (Nat×AV)} {H:zaa} {g:Nat} {O:Nat->Prop} {H0:zaa} {L L':BL} {b:Nat}
  {gop:Operand} {p:Nat} {asg body:Code} {k:FuncId} {first cap:List AV} {S:Type} (Lo:S->BL) (pe:S->Option Code) (R:AV->S->Bool->S->Prop) (s0 sF:S) {A A':BL} {rv:AV} (l2:List (Nat×AV)) (ns:List Nat)
  (hS:St O H0 L H b) (hb:b<=g) (hev:evL N l gop=.fn (.func k) first cap) (hna:zjB asg=true) (hnb:zjB body=true) (hpe:pe s0=none)
  (hA:At L ns (A++Lo s0) (A'++Lo sF)) (hns:ns.Nodup) (hL:ziD L ns (A'++Lo sF)=L')
  (hkA:zg7 A A') (hk:∀s s',zg7 (Lo s) (Lo s')) (hin:∀s,InB In (Lo s)) (hcs:∀s H,Has H (Lo s)->∀c,c∈l2.map (·.2)->In H c)
  (hl2:FLe l l2) (hN:l2.all (fun q=>decide (q.1<N))=true) (hp:p<N) (hpl:(l2.map (·.1)).contains p=false)
  (hround:∀x s b s',R x s b s'->pe s=none/\∀H' g',za2 H' g'->Has H' (Lo s) ->
   wpA P N asg (fun e fr2 H2 g2=>e=.normal/\∃l3 B,zkh (Fr.of l3) fr2/\St (fun i=>i<g') H' B H2 g2 /\
    ∀Hb H3,St (fun i=>i<g'/\i∉ids (Lo s)) Hb (B++Lo s) H3 g2->wpA P N body (fun e _ H4 _=>(match pe s' with | none=>b=true/\e=.normal | some c=>b=false/\zlF c=some e) /\
     ∃b4,St (fun i=>i<g'/\i∉ids (Lo s)) Hb (Lo s') H4 b4) (Fr.of l3) H3 g2) (Fr.of ((p,x)::l2)) H' g')
  (hcon:∀(F:AV) (Lx:S->BL),(∀s s',zg7 (Lx s) (Lx s'))->(∀s,(ids A++ids (Lx s)).Nodup)->(∀s,InB In (Lx s))->(∀s H,Has H (Lx s)->In H F)->cellsOf F=some [F] ->
   (∀x s b s',R x s b s'->zlo P F [x] (Lx s) (.v (.bool b)) (Lx s'))->zhc P k (first++[F]++cap) (A++Lx s0) rv (A'++Lx sF))
  (hafter:∀H',St O H0 L' H' (g+1)->match pe sF with | none=>Q .normal (Fr.of l) H' (g+1) | some c=>∃e,zlF c=some e/\Q e (Fr.of l) H' (g+1)) :
  wpA P N (.rangeFunc gop #[p] asg body) Q (Fr.of l) H g:=by
 simp only [wpA]
 have hgf:za2 H g:=fun j hj=>hS.fr j (Nat.le_trans hb hj)
 have hHas:=hA.has hS
 have hnd0:(ids (A++Lo s0)).Nodup:=hS.nd_at hA hns
 have hgn:∀s,g∉ids (A++Lo s):=fun s hm=>by
  rw [show ids (A++Lo s)=ids A++ids (Lo s) by simp [ids],(hk s s0).ids,show ids A++ids (Lo s0)=ids (A++Lo s0) by simp [ids]] at hm
  obtain ⟨x,hx⟩:=zfP hm
  have:=hHas _ hx
  rw [hgf g (Nat.le_refl _)] at this
  cases this
 refine ⟨hna,hnb,k,first,cap,by rw [←zea] at hev;exact hev,S,Lo,A,A',pe,fun xs s b s'=>∃x,xs=[x]/\R x s b s',s0,l2.map (·.1),l2.map (·.2),hpe,hHas,hnd0,hkA,hk,hin,?_,?_,?_,?_,?_⟩
 ·intro j t c h1 h2
  rw [List.getElem?_map] at h1 h2
  cases hq:l2[j]? with
  | none=>rw [hq] at h1;cases h1
  | some q =>
   rw [hq] at h1 h2
   simp only [Option.map_some,Option.some.injEq] at h1 h2
   subst h1 h2
   have hm:=List.mem_of_getElem? hq
   refine ⟨by have:=List.all_eq_true.1 hN q hm;simpa using this,?_⟩
   have:∀{l2:List (Nat×AV)},FLe l l2->q∈l2->Le q.2 (lk l q.1):=fun {l2} h hm=>by
    induction l2 with
    | nil=>simp at hm
    | cons p l2 ih =>
     rcases List.mem_cons.1 hm with rfl | hm
     ·exact h.1
     ·exact ih h.2 hm
   exact this hl2 hm
 ·intro t ht
  simp at ht
  subst ht
  exact hp
 ·intro j t h1 ht
  simp at ht
  subst ht
  have:=List.mem_of_getElem? h1
  have h2:¬(l2.map (·.1)).contains t=true:=by rw [hpl];simp
  exact h2 (List.contains_iff_mem.2 this)
 ·rintro xs s b' s' ⟨x,rfl,hr⟩
  obtain ⟨h1,h2⟩:=hround x s b' s' hr
  refine ⟨h1,rfl,fun H' g' hf' hh' hgg=>?_⟩
  rw [zu5 hp]
  refine zlS (h2 H' g' hf' hh') ?_
  rintro e fr2 H2 g2 ⟨rfl,l3,B,hle,hSB,hbody⟩
  refine ⟨rfl,fun i hi=>(hSB.old i hi).2,Fr.of l3,hle,fun q=>?_⟩
  have hg2:g'<=g2:=by
   rcases Nat.lt_or_ge g2 g' with h | h
   ·have:=(hSB.old g2 h).1;omega
   ·exact h
  have hgs:g∉ids (Lo s):=fun hm=>hgn s (by rw [show ids (A++Lo s)=ids A++ids (Lo s) by simp [ids]];exact List.mem_append.2 (.inr hm))
  have hlo:∀q,q∈Lo s->q.1<g'/\H' q.1=some q.2:=fun q hq=>by
   have h3:=hh' q hq
   refine ⟨?_,h3⟩
   rcases Nat.lt_or_ge q.1 g' with h | h
   ·exact h
   ·rw [hf' _ h] at h3;cases h3
  have hBg:∀q,q∈B->g'<=q.1:=fun q hq=>by
   have:=(hSB.has q hq).1
   omega
  have hidlo:∀q,q∈Lo s->q.1∈ids (Lo s):=fun q hq=>List.mem_map_of_mem (f:=(·.1)) hq
  have hS3:St (fun i=>i<g'/\i∉ids (Lo s)) (H'.set g (.obj (some q) (zur q))) (B++Lo s) (H2.set g (.obj (some q) (zur q))) g2:=by
   refine ⟨fun i hi=>⟨by have:=hi.1;omega,?_⟩,fun q' hq=>?_,?_,fun i hi=>?_⟩
   ·by_cases hig:i=g
    ·subst hig;rw [zaa.set_same,zaa.set_same]
    ·rw [zaa.set_ne _ _ hig,zaa.set_ne _ _ hig];exact (hSB.old i hi.1).2
   ·rcases List.mem_append.1 hq with hq | hq
    ·have h3:=hSB.has q' hq
     have h4:=hBg q' hq
     exact ⟨fun h=>by have:=h.1;omega,h3.2.1,by rw [zaa.set_ne _ _ (by omega)];exact h3.2.2⟩
    ·obtain ⟨h3,h4⟩:=hlo q' hq
     exact ⟨fun h=>h.2 (hidlo q' hq),by omega,by rw [zaa.set_ne _ _ (show q'.1≠g from fun e=>hgs (e▸hidlo q' hq)),(hSB.old _ h3).2];exact h4⟩
   ·rw [List.map_append,List.nodup_append]
    refine ⟨hSB.nd,?_,fun a ha c hc e=>?_⟩
    ·have h5:(ids A++ids (Lo s0)).Nodup:=by simpa [ids] using hnd0
     have:=(List.nodup_append.1 h5).2.1
     rw [(hk s0 s).ids] at this
     exact this
    ·subst e
     obtain ⟨q1,h3,rfl⟩:=List.mem_map.1 ha
     obtain ⟨q2,h4,h5⟩:=List.mem_map.1 hc
     have h6:=hBg q1 h3
     have h7:=(hlo q2 h4).1
     omega
   ·rw [zaa.set_ne _ _ (by omega)];exact hSB.fr i hi
  refine zlS (hbody _ _ hS3) ?_
  rintro e _ H4 _ ⟨hm,b4,hS4⟩
  exact ⟨hm,fun q' hq=>(hS4.has q' hq).2.2,fun i hi=>(hS4.old i hi).2⟩
 ·intro q hq
  refine ⟨rv,sF,fun hy=>?_,fun H' hf' hh' hold=>?_⟩
  ·refine hcon (.yld g (l2.map (·.1)) (l2.map (·.2))) (fun s=>(g,.obj (some q) (zhd q (pe s)))::Lo s) (fun s s'=>⟨rfl,rfl,hk s s'⟩) (fun s=>?_) (fun s p' cs hp' he c hc H' hH'=>?_) (fun s H' hH'=>?_) rfl (fun x s b' s' hr=>show zvT P _ _ _ _ _ _ _ from hy [x] s b' s' ⟨x,rfl,hr⟩) |> fun h=>by simp only [hpe] at h;exact h
   ·show (ids A++g::ids (Lo s)).Nodup
    have h1:(ids A++ids (Lo s0)).Nodup:=by simpa [ids] using hnd0
    rw [←(hk s s0).ids] at h1
    have h2:=List.nodup_append.1 h1
    have h3:=hgn s
    rw [show ids (A++Lo s)=ids A++ids (Lo s) by simp [ids],List.mem_append,not_or] at h3
    refine List.nodup_append.2 ⟨h2.1,List.nodup_cons.2 ⟨h3.2,h2.2.1⟩,fun a ha c hc e=>?_⟩
    subst e
    rcases List.mem_cons.1 hc with rfl | hc
    ·exact h3.1 ha
    ·exact h2.2.2 a ha a hc rfl
   ·rcases List.mem_cons.1 hp' with rfl | hp'
    ·cases he
    ·exact hin s p' cs hp' he c hc H' fun x hx=>hH' x (by simp [hx])
   ·refine .yld _ _ _ q _ (hH' (g,.obj (some q) (zhd q (pe s))) (by simp)) fun j t c h1 h2=>hcs s H' (fun x hx=>hH' x (by simp [hx])) c (List.mem_of_getElem? h2)
  ·refine hafter H' ?_
   have hS1:=hS.puts hA
   rw [hL] at hS1
   have hidF:ids (A'++Lo sF)=ids (A++Lo s0):=by
    rw [show ids (A'++Lo sF)=ids A'++ids (Lo sF) by simp [ids],←hkA.ids,(hk sF s0).ids];simp [ids]
   have hagree:∀i,i<g->H' i=(H.puts (A'++Lo sF)) i:=fun i hi=>by
    by_cases hm:i∈ids (A++Lo s0)
    ·rw [←hidF] at hm
     obtain ⟨x,hx⟩:=zfP hm
     rw [hh' _ hx,zgU H (by rw [hidF];exact hnd0) _ hx]
    ·rw [hold i ⟨hi,hm⟩,zei _ (by rw [hidF];exact hm)]
   refine ⟨fun i hi=>⟨?_,?_⟩,fun p' hp'=>?_,hS1.nd,hf'⟩
   ·have:=(hS1.old i hi).1;omega
   ·rw [hagree i (by have:=(hS1.old i hi).1;omega)];exact (hS1.old i hi).2
   ·have h1:=hS1.has p' hp'
    have h2:p'.1<b:=h1.2.1
    exact ⟨h1.1,Nat.lt_succ_of_lt (Nat.lt_of_lt_of_le h2 hb),by rw [hagree _ (Nat.lt_of_lt_of_le h2 hb)];exact h1.2.2⟩
def zuy (fl b:Bool) (e:Exit):Prop:=(fl=false/\b=true/\e=.normal)\/(fl=true/\b=false/\e=.ret)
theorem zwi {O:Nat->Prop} {Hb H:zaa} {L:BL} {b:Nat} (h:St O Hb L H b):zuy false true .normal/\∃b4,St O Hb L H b4:=⟨.inl ⟨rfl,rfl,rfl⟩,_,h⟩
theorem zwj {P:Program} {N:Nat} {l l3:List (Nat×AV)} {H H':zaa} {g g' bd:Nat} {O:Nat->Prop} {B Ls:BL} {body:Code} {Q:zaa->Exit->Fr->zaa->Nat->Prop} (hle:FLe l l3) (hS:St (fun i=>i<g') H' B H bd) (hb:bd<=g)
  (h:∀Hb H3,St O Hb (B++Ls) H3 g->wpA P N body (Q Hb) (Fr.of l3) H3 g) :
  Exit.normal=.normal/\∃l3 B,zkh (Fr.of l3) (Fr.of l)/\St (fun i=>i<g') H' B H g/\∀Hb H3,St O Hb (B++Ls) H3 g->wpA P N body (Q Hb) (Fr.of l3) H3 g :=
 ⟨rfl,l3,B,hle.le,hS.up hb,h⟩
theorem ztH {P:Program} {N:Nat} {Q:Exit->Fr->zaa->Nat->Prop} {l:List (Nat×AV)} {H:zaa} {g:Nat} {O:Nat->Prop} {H0:zaa} {L L':BL} {b:Nat}
  {gop:Operand} {p:Nat} {asg body:Code} {k:FuncId} {first cap:List AV} {S:Type} {Lo:S->BL} {R:AV->S->Bool->S->Prop} {s0 sF:S} {A A':BL} {rv:AV} (l2:List (Nat×AV)) (ns:List Nat)
  (hS:St O H0 L H b) (hb:b<=g) (hev:evL N l gop=.fn (.func k) first cap) (hna:zjB asg=true) (hnb:zjB body=true)
  (hA:At L ns (A++Lo s0) (A'++Lo sF)) (hns:ns.Nodup) (hL:ziD L ns (A'++Lo sF)=L')
  (hkA:zg7 A A') (hk:∀s s',zg7 (Lo s) (Lo s')) (hin:∀s,InB In (Lo s)) (hcs:∀s H,Has H (Lo s)->∀c,c∈l2.map (·.2)->In H c)
  (hl2:FLe l l2) (hN:l2.all (fun q=>decide (q.1<N))=true) (hp:p<N) (hpl:(l2.map (·.1)).contains p=false)
  (hround:∀x s b s',R x s b s'->true=true/\∀H' g',za2 H' g'->Has H' (Lo s) ->
   wpA P N asg (fun e fr2 H2 g2=>e=.normal/\∃l3 B,zkh (Fr.of l3) fr2/\St (fun i=>i<g') H' B H2 g2 /\
    ∀Hb H3,St (fun i=>i<g'/\i∉ids (Lo s)) Hb (B++Lo s) H3 g2->wpA P N body (fun e _ H4 _=>zuy false b e/\∃b4,St (fun i=>i<g'/\i∉ids (Lo s)) Hb (Lo s') H4 b4) (Fr.of l3) H3 g2) (Fr.of ((p,x)::l2)) H' g')
  (hcon:∀(F:AV) (Lx:S->BL),(∀s s',zg7 (Lx s) (Lx s'))->(∀s,(ids A++ids (Lx s)).Nodup)->(∀s,InB In (Lx s))->(∀s H,Has H (Lx s)->In H F)->cellsOf F=some [F] ->
   (∀x s b s',R x s b s'->zlo P F [x] (Lx s) (.v (.bool b)) (Lx s'))->zhc P k (first++[F]++cap) (A++Lx s0) rv (A'++Lx sF))
  (hafter:∀H',St O H0 L' H' (g+1)->Q .normal (Fr.of l) H' (g+1)) :
  wpA P N (.rangeFunc gop #[p] asg body) Q (Fr.of l) H g:=by
 refine zu6 Lo (fun _=>none) R s0 sF l2 ns hS hb hev hna hnb rfl hA hns hL hkA hk hin hcs hl2 hN hp hpl (fun x s b s' hr=>⟨rfl,fun H' g' hf hh=>?_⟩) hcon hafter
 refine zlS ((hround x s b s' hr).2 H' g' hf hh) ?_
 rintro e fr2 H2 g2 ⟨h1,l3,B,h2,h3,h4⟩
 refine ⟨h1,l3,B,h2,h3,fun Hb H3 h5=>zlS (h4 Hb H3 h5) ?_⟩
 rintro e _ H4 _ ⟨h6,h7⟩
 refine ⟨?_,h7⟩
 rcases h6 with ⟨_,h8,h9⟩ | ⟨h8,_⟩
 ·exact ⟨h8,h9⟩
 ·cases h8
theorem zgc {P:Program} {k:FuncId} {as:List AV} {r:AV} (h:zhc P k as [] r []):zaR P k as r:=fun H g hf=>h H g hf fun p hp=>by simp at hp
section
variable {P:Program} {N:Nat} {l:List (Nat×AV)} {H:zaa} {g:Nat} {lim:Option Nat} {g0 i:Nat} {ops:Array Oper} {K:Fr->zaa->Nat->Prop} {r:List Oper} {d:Nat} {ty:TypeId} {pos:String} {after:Array Edge}
end
theorem St.ne {O:Nat->Prop} {H0 H:zaa} {L:BL} {b n m i j:Nat} {x y:Blk} (hS:St O H0 L H b) (hn:L[n]?=some (i,x)) (hm:L[m]?=some (j,y)) (hne:n≠m):i≠j:=fun e=>by
 subst e
 exact hne (zux hS.nd hn hm)
theorem zrQ {fr:Fr}:∀q,q∈([]:List (Nat×Nat))->zkf (fr q.1) (fr q.2):=fun _ h=>by simp at h
theorem zpo {fr:Fr} {s t:Nat} {E:List (Nat×Nat)} (h:zkf (fr s) (fr t)) (r:∀q,q∈E->zkf (fr q.1) (fr q.2)):∀q,q∈(s,t)::E->zkf (fr q.1) (fr q.2):=fun q hq=>by
 rcases List.mem_cons.1 hq with rfl | hq
 ·exact h
 ·exact r q hq
theorem zu7 {P:Program} {fr:Fr}:∀q,q∈([]:List (Nat×Nat×TypeId))->zhZ P q.2.2 (fr q.1) (fr q.2.1):=fun _ h=>by simp at h
theorem zmu {P:Program} {fr:Fr} {s t:Nat} {ty:TypeId} {E:List (Nat×Nat×TypeId)} (h:zhZ P ty (fr s) (fr t)) (r:∀q,q∈E->zhZ P q.2.2 (fr q.1) (fr q.2.1)):∀q,q∈(s,t,ty)::E->zhZ P q.2.2 (fr q.1) (fr q.2.1):=fun q hq=>by
 rcases List.mem_cons.1 hq with rfl | hq
 ·exact h
 ·exact r q hq
theorem zwk {A M:BL} (h:(ids A++ids M).Nodup):(ids (A++M)).Nodup:=by
 rw [show ids (A++M)=ids A++ids M by simp [ids]]
 exact h
end Go.AM
