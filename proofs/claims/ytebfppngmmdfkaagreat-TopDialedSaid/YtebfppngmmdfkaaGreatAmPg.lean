/-
  The abstract machine: on the way through such a function, the late slice is made a block that can be written to.
  Conditions: none; it speaks of any program.
-/
import Derived.Test.YtebfppngmmdfkaaGreatAmPf
set_option linter.all false
namespace Go.AM
open Go Go.RowKit
inductive Ear (L:BL):AV->Prop
 | v (x:Value):Ear L (.v x)
 | ptr (i off n:Nat) (cs:List AV) (h:L[n]?=some (i,.cells cs)):Ear L (.ptr i off)
 | od (k:Nat) (es:List (List AV)) (h:∀e,e∈es->∀c,c∈e->Flat c):Ear L (.sl .od k es)
theorem Ear.erl {L:BL} {a:AV} (h:Ear L a):Erl a:=by
 cases h with
 | v x=>exact .v x
 | ptr i off n cs h=>exact .ptr i off
 | od k es h=>exact .od k es fun e he c hc=>by obtain ⟨y,rfl⟩:=h e he c hc;exact .v y
theorem Ear.inP {L:BL} {H:zab} {a:AV} (h:Ear L a) (hh:Has H L):In H a:=by
 cases h with
 | v x=>exact .v x
 | ptr i off n cs h=>exact .ptr i off (.inl ⟨cs,hh _ (List.mem_of_getElem? h)⟩)
 | od k es h=>exact .sl _ _ _ (fun τ e=>by cases e) fun e he c hc=>by obtain ⟨y,rfl⟩:=h e he c hc;exact .v y
theorem zoH {L:BL}:∀v,v∈([]:List AV)->Ear L v:=fun v h=>by simp at h
theorem zfb {L:BL} {a:AV} {l:List AV} (h:Ear L a) (t:∀v,v∈l->Ear L v):∀v,v∈a::l->Ear L v:=fun v hv=>by
 rcases List.mem_cons.1 hv with rfl | hv
 ·exact h
 ·exact t v hv
theorem zs3 {L:BL}:∀p,p∈([]:BL)->∃cs,p.2=.cells cs/\∀v,v∈cs->Ear L v:=fun p h=>by simp at h
theorem znx {L M:BL} {i:Nat} {cs:List AV} (h:∀v,v∈cs->Ear L v) (t:∀p,p∈M->∃cs,p.2=.cells cs/\∀v,v∈cs->Ear L v):∀p,p∈(i,.cells cs)::M->∃cs,p.2=.cells cs/\∀v,v∈cs->Ear L v:=fun p hp=>by
 rcases List.mem_cons.1 hp with rfl | hp
 ·exact ⟨cs,rfl,h⟩
 ·exact t p hp
theorem zrx {t:Nat}:∀{l:List (Nat×AV)},lk l t=.any\/∃p,p∈l/\lk l t=p.2
 | []=>.inl rfl
 | (d,v)::l=>by
  by_cases e:t=d
  ·exact .inr ⟨(d,v),by simp,by simp [lk,e]⟩
  ·rcases zrx (t:=t) (l:=l) with h | ⟨p,hp,h⟩
   ·left;simp [lk,e,h]
   ·right;exact ⟨p,by simp [hp],by simp [lk,e,h]⟩
section
variable {P:Program} {N:Nat} {G0:Gh} {w0:World} {C:Exit->Act->World->Prop} {Q:Exit->Fr->zab->Nat->Prop}
theorem zs4 (hm:P.follows .mixedOrders=true) {y:Code} {l:List (Nat×AV)} {H H0:zab} {g b t:Nat} {O:Nat->Prop} {L:BL} {us:List Int} (hC:zuq N G0 w0 Q C) (hlo:G0.lo=w0.heap.size) (ht:t<N) (hne:(us.length==0)=false)
  (hH0:H0=E0) (hS:St O H0 L H b) (hb:b<=g) (hO:∀i,O i->i<g) (hl:∀v,v∈l.map (·.2)->Ear L v) (hL:∀p,p∈L->∃cs,p.2=.cells cs/\∀v,v∈cs->Ear L v)
  (h:∀H',St O H0 ((g,.cells (us.map cI).flatten)::L) H' (g+1)->wpA P N y Q (Fr.of ((t,.ms g 0 1 us.length us.length)::l)) H' (g+1)) :
  Snd P N G0 w0 C y (Fr.of ((t,.sl .fr 1 (us.map cI))::l)) H g:=by
 subst hH0
 intro a w hl0 S hf
 have hz:us≠[]:=fun e=>by subst e;exact absurd hne (by decide)
 have hnd:(ids L).Nodup:=hS.nd
 have hh:Has (E0.puts L) L:=zhp E0 hnd
 have hsub:∀i x,(E0.puts L) i=some x->H i=some x:=fun i x hi=>by
  rcases zew hi with h | ⟨_,h⟩
  ·exact (hS.has _ h).2.2
  ·cases h
 have hgn:(E0.puts L) g=none:=by
  cases e:(E0.puts L) g with
  | none=>rfl
  | some x =>
   have:=hsub g x e
   rw [hf g (Nat.le_refl _)] at this
   cases this
 have S1:Sim G0 E0 w0 N (Fr.of ((t,.sl .fr 1 (us.map cI))::l)) (E0.puts L) a w:=by
  obtain ⟨G,hp,hE,hM,hs,hvs⟩:=S
  obtain ⟨q1,q2⟩:=zgm (hp0 G0 w0 hl0) hp hE hsub (fun i hi=>by rcases hi with ⟨_,hi⟩ | hi<;>cases hi) (fun i d m hi=>by cases hi) (fun i q p hi=>by cases hi) (fun i cs hi=>by
   rcases zew hi with h | ⟨_,h⟩
   ·obtain ⟨cs',e,hc⟩:=hL _ h
    injection e with e
    subst e
    exact .inr fun c hc'=>(hc c hc').inP hh
   ·cases h)
  refine ⟨G,q1,q2,?_,hs,fun t' ht'=>(hvs t' ht').back hsub ?_⟩
  ·obtain ⟨Ds,d1,d2,d3⟩:=hM
   refine ⟨Ds,d1,d2,fun D hD=>⟨(d3 D hD).1,(d3 D hD).2.1,fun hi=>(d3 D hD).2.2 ?_⟩⟩
   rcases hi with ⟨i,cs,hi,h⟩ | ⟨i,e,n,hi,h⟩ | ⟨i,k,p,hi,h⟩
   ·exact .inl ⟨i,cs,hsub i _ hi,h⟩
   ·exact .inr (.inl ⟨i,e,n,hsub i _ hi,h⟩)
   ·exact .inr (.inr ⟨i,k,p,hsub i _ hi,h⟩)
  ·show In _ (lk _ t')
   by_cases e:t'=t
   ·subst e
    rw [zi2]
    exact .sl _ _ _ (fun τ e=>by cases e) fun e he c hc=>by
     obtain ⟨y,rfl⟩:=zdN us e he c hc
     exact .v _
   ·rw [zmu e]
    rcases zrx (t:=t') (l:=l) with h | ⟨p,hp',h⟩
    ·rw [h];exact .any
    ·rw [h];exact (hl _ (List.mem_map.2 ⟨p,hp',rfl⟩)).inP hh
 have S2:=S1.thaw (new:=g) (zs:=us) (t:=t) (fr':=Fr.of ((t,.ms g 0 1 us.length us.length)::l)) hlo ht (zi2 _ _ _) hz hgn
  (fun i cs hi c hc=>by
   rcases zew hi with h | ⟨_,h⟩
   ·obtain ⟨cs',e,hc'⟩:=hL _ h
    injection e with e
    subst e
    exact (hc' c hc).erl
   ·cases h)
  (fun t' ht' e=>by
   show lk _ t'=_\/(lk _ t'=lk _ t'/\Erl (lk _ t'))
   rw [zmu e,zmu e]
   rcases zrx (t:=t') (l:=l) with h | ⟨p,hp',h⟩
   ·exact .inl h
   ·exact .inr ⟨rfl,by rw [h];exact (hl _ (List.mem_map.2 ⟨p,hp',rfl⟩)).erl⟩)
  (zi2 _ _ _)
 have hlt:∀p,p∈L->p.1<g:=fun p hp=>Nat.lt_of_lt_of_le (hS.has p hp).2.1 hb
 have hS2:St O E0 ((g,.cells (us.map cI).flatten)::L) ((E0.puts L).set g (.cells (zaY us).flatten)) (g+1):=by
  refine ⟨fun i hi=>⟨by have:=hO i hi;omega,?_⟩,fun p hp=>?_,?_,fun i hi=>?_⟩
  ·have:=hO i hi
   rw [zab.set_ne _ _ (by omega),zd7 E0 fun hm=>?_]
   obtain ⟨x,hx⟩:=zga hm
   exact (hS.has _ hx).1 hi
  ·rcases List.mem_cons.1 hp with rfl | hp
   ·exact ⟨fun h=>Nat.lt_irrefl _ (hO _ h),Nat.lt_succ_self _,zab.set_same _ _ _⟩
   ·have h1:=hlt p hp
    exact ⟨(hS.has p hp).1,by omega,by rw [zab.set_ne _ _ (by omega)];exact hh p hp⟩
  ·refine List.nodup_cons.2 ⟨fun hm=>?_,hS.nd⟩
   obtain ⟨p,hp,e⟩:=List.mem_map.1 hm
   have:=hlt p hp
   simp only at e
   omega
  ·rw [zab.set_ne _ _ (by omega)]
   cases e:(E0.puts L) i with
   | none=>rfl
   | some x =>
    have:=hsub i x e
    rw [hf i (by omega)] at this
    cases this
 exact zhy hm y none 0 G0 E0 w0 Q _ _ (g+1) a w C (.inl rfl) (h _ hS2) S2 hS2.fr hC
end
def OdL (as bs:List AV):Prop:=as.length=bs.length/\∀(i:Nat) (a b:AV),as[i]?=some a->bs[i]?=some b->Od a b
theorem zry:OdL [] []:=⟨rfl,fun i a b h=>by simp at h⟩
theorem zfQ {a b:AV} {as bs:List AV} (h:Od a b) (t:OdL as bs):OdL (a::as) (b::bs):=⟨by simp [t.1],fun i x y hx hy=>by
 cases i with
 | zero=>simp at hx hy;subst hx hy;exact h
 | succ i=>exact t.2 i x y (by simpa using hx) (by simpa using hy)⟩
theorem Od.aggL {as bs:List AV} (h:OdL as bs):Od (.agg as) (.agg bs):=.agg _ _ h.1 h.2
theorem zmG {P : Program} {N : Nat} (hm : P.follows .mixedOrders = true) {f : FuncId} {fn : Func} {c : Code} (hf : P.funcs[f]? = some fn) (hb : fn.body = some c) (hname : fn.name ≠ "runtime.NumGoroutine") (hN : fn.ntmps = N)
  {as bs:List AV} {zs:List Int} {y:Value} (hlen:bs.length<=N) (hpa:∀a,a∈as->Pure a) (hod:OdL as bs)
  (h:∀(G0:Gh) (w0:World) (C:Exit->Act->World->Prop),G0.lo=w0.heap.size->zuq N G0 w0 (zoF P N fn.results.toList zs y) C->∀H0 g,H0=E0->zbB H0 g->Snd P N G0 w0 C c (zhc bs) H0 g):zav P f as (.tup [.sl .no 1 (zaY zs),.v y]) :=
 znv hm hf hb hname hN hlen hpa hod.1 hod.2 fun G0 w0 C h1 h2=>h G0 w0 C h1 h2 E0 0 rfl fun _ _=>rfl
theorem zs5 {P:Program} {N:Nat} {rs:List ResultVar} {zs:List Int} {y:Value} {ex:Exit} {l:List (Nat×AV)} {O:Nat->Prop} {H0 H:zab} {L:BL} {b g j q:Nat} (n:Nat) (he:ex=.normal\/ex=.ret) (hl:q=zs.length) (hr:zjb P N (Fr.of l) H rs=some (.tup [.ms j 0 1 q q,.v y])) (hS:St O H0 L H b)
  (hn:L[n]?=some (j,.cells (zs.map cI).flatten)):zoF P N rs zs y ex (Fr.of l) H g:=by
 subst hl
 exact ⟨he,.inl ⟨j,hr,hS.get hn⟩⟩
end Go.AM
