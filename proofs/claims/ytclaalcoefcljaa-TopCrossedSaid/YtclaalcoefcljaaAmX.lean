/-
  The abstract machine: the rules for slices whose cells may be written to.
  Conditions: none; it speaks of any program.
-/
import Derived.Test.YtclaalcoefcljaaAmW
set_option linter.all false
namespace Go.AM
open Go Go.RowKit
section
variable {P:Program} {N:Nat} {l:List (Nat×AV)} {H:zaa} {g:Nat} {lim:Option Nat} {g0 i:Nat} {ops:Array Oper} {K:Fr->zaa->Nat->Prop} {r:List Oper} {d:Nat} {ty:TypeId} {pos:String} {after:Array Edge}
 {O:Nat->Prop} {H0:zaa} {L Lp:List (Nat×Blk)} {b:Nat}
theorem St.perm {L':BL} (hS:St O H0 L H b) (h:L'.Perm L):St O H0 L' H b:=⟨hS.old,fun p hp=>hS.has p (h.mem_iff.1 hp),(h.map (·.1)).nodup_iff.2 hS.nd,hS.fr⟩
def msn (new k n:Nat):AV:=if n=0 then .sl .no k [] else .ms new 0 k n n
theorem zog {new k n:Nat} {es:List (List AV)} (h:es.length=n):msl new k es=msn new k n:=by
 subst h
 unfold msl msn
 by_cases e:es=[]
 ·rw [if_pos e,if_pos (by simp [e])]
 ·rw [if_neg e,if_neg (by simpa using e)]
def zdX (new n:Nat) (es:List (List AV)):BL:=if es.length=n then zeJ new es else [(new,.ice),(new,.ice)]
theorem St.len {j n:Nat} {es:List (List AV)} (hS:St O H0 (Lp++zdX j n es) H b):es.length=n:=by
 by_cases h:es.length=n
 ·exact h
 ·have:=hS.nd
  rw [List.map_append,List.nodup_append] at this
  have h2:=this.2.1
  unfold zdX at h2
  rw [if_neg h] at h2
  simp at h2
theorem St.thaw {j n:Nat} {es:List (List AV)} (hS:St O H0 (Lp++zdX j n es) H b):St O H0 (Lp++zeJ j es) H b:=by
 have h:=hS.len
 unfold zdX at hS
 rwa [if_pos h] at hS
theorem St.unthaw {j n:Nat} {es:List (List AV)} (h:es.length=n) (hS:St O H0 (Lp++zeJ j es) H b):St O H0 (Lp++zdX j n es) H b:=by
 unfold zdX
 rwa [if_pos h]
theorem zqs {F:Operand} {args:Array Operand} {ts:Array TypeId} {kf:FuncId} {first cap bs:List AV} {mk:AV->AV} {e k:Nat} {es:List (List AV)} (hS:St O H0 Lp H b) (hd:d<N) (ht:tgt (evL N l F)=some (kf,first,cap)) (ha:first++args.toList.map (evL N l)++cap=bs)
  (hs:zmi P kf bs mk e k es) (hm:zqZ mk) (hp:∀a,a∈bs->Pure a) (hfl:∀e,e∈es->∀c,c∈e->Flat c) {n:Nat} (hn:es.length=n) (hb:b<=g0+i)
  (h:∀H',St O H0 (Lp++zdX (g0+i) n es) H' (g0+i+1)->zaX P N lim g0 ops K (i+1) r (Fr.of ((d,mk (msn (g0+i) k n))::l)) H' g) :
  zaX P N lim g0 ops K i (⟨some d,.call { callee:=.value F,args:=args,argTypes:=ts },ty,pos,after,none⟩::r) (Fr.of l) H g:=by
 simp only [zaX,zcH,opQ,zdo,zil,ht,ha]
 refine zfw.new1 (hs.ms hm hp hfl) ?_
 rw [zg8 hd]
 replace h:=fun H' h'=>h H' (St.unthaw hn h')
 rw [←zog hn] at h
 by_cases hne:es=[]
 ·subst hne
  exact h _ (by rw [show zeJ (g0+i) []=[] from rfl,List.append_nil];exact hS.up (by omega))
 ·have e1:(mbl 0 es).map (fun x=>(g0+i,x))=some (g0+i,.cells es.flatten):=by unfold mbl;rw [if_neg hne];rfl
  rw [e1]
  refine h _ ?_
  have e2:zeJ (g0+i) es=[(g0+i,.cells es.flatten)]:=by unfold zeJ;rw [if_neg hne]
  rw [e2]
  exact (hS.add (.cells es.flatten) hb).perm (List.perm_append_comm)
theorem zpB {α:Type} {t:TypeId} {x y:Operand} {j k n:Nat} {xs:List α} {f:α->List AV} {z:Int} {u:α} (hS:St O H0 (Lp++zdX j n (xs.map f)) H b) (hd:d<N) (hx:evL N l x=msn j k n) (hy:evL N l y=.v (.int .i64 z)) (hk:zaG P t=some k) (hu:idx xs z=some u)
  (h:zaX P N lim g0 ops K (i+1) r (Fr.of ((d,.ptr j (0+z.toNat*k))::l)) H g):zaX P N lim g0 ops K i (⟨some d,.indexAddr t x y,ty,pos,after,none⟩::r) (Fr.of l) H g:=by
 obtain ⟨h0,h1⟩:=zn0 f hu
 have hlt:z.toNat<(xs.map f).length:=(List.getElem?_eq_some_iff.1 h1).1
 rw [hS.len] at hlt
 unfold msn at hx
 rw [if_neg (by omega)] at hx
 refine zbw (wr:=none) hd rfl (by cases lim<;>rfl) ?_ h
 simp only [zaE,hx,hy,zfc,if_pos h0,Option.bind_some]
 rw [if_pos ⟨hk,hlt⟩]
theorem Ok.tl {b':Nat} {O:Nat->Prop} {H0 H:zaa} {Lp:BL} {ops:Array Oper} {i j n g0:Nat} {xs:List Int} {z u:Int} (hS:St O H0 (Lp++zdX j n (xs.map cI)) H b') (hu:idx xs z=some u) (hb:b'<=g0):Ok (some g0) ops i j:=by
 have hne:xs.map cI≠[]:=fun e=>by
  have:xs=[]:=by simpa using e
  rw [this] at hu
  unfold idx at hu
  split at hu<;>simp at hu
 have hT:=hS.thaw
 unfold zeJ at hT
 rw [if_neg hne] at hT
 have:=(hT.has (j,.cells (xs.map cI).flatten) (by simp)).2.1
 exact .lt (Nat.lt_of_lt_of_le this hb)
theorem znb (p:BL) (x:Nat×Blk) (y:Blk):putAt (p++[x]) p.length y=p++[(x.1,y)]:=by
 induction p with
 | nil=>rfl
 | cons q p ih=>simp only [List.cons_append,List.length_cons,putAt,ih]
theorem St.putTail {j:Nat} {es es':List (List AV)} (hS:St O H0 (Lp++zeJ j es) H b) (hne:es≠[]) (hne':es'≠[]):St O H0 (Lp++zeJ j es') (H.set j (.cells es'.flatten)) b:=by
 have e1:zeJ j es=[(j,.cells es.flatten)]:=by unfold zeJ;rw [if_neg hne]
 have e2:zeJ j es'=[(j,.cells es'.flatten)]:=by unfold zeJ;rw [if_neg hne']
 rw [e1] at hS
 rw [e2,←znb Lp (j,.cells es.flatten)]
 exact hS.put (n:=Lp.length) (x0:=.cells es.flatten) (by simp) _
end
section
variable {P:Program} {N:Nat} {Q:Exit->Fr->zaa->Nat->Prop} {l:List (Nat×AV)} {H:zaa} {g:Nat} {b:Code} {O:Nat->Prop} {H0:zaa} {bd:Nat}
end
theorem zhJ:∀c,c∈([]:List AV)->Flat c:=fun _ h=>by simp at h
theorem zdK {x:Value} {cs:List AV} (t:∀c,c∈cs->Flat c):∀c,c∈AV.v x::cs->Flat c:=fun c hc=>by
 rcases List.mem_cons.1 hc with rfl | hc
 ·exact ⟨_,rfl⟩
 ·exact t c hc
theorem zhK {α:Type} {f:α->List AV} {xs:List α} (h:∀x,∀c,c∈f x->Flat c):∀e,e∈xs.map f->∀c,c∈e->Flat c:=fun e he=>by
 obtain ⟨x,_,rfl⟩:=List.mem_map.1 he
 exact h x
theorem zkg {α:Type} {f:α->List AV} {k:Nat} {xs:List α} (h:∀x,(f x).length=k):∀e,e∈xs.map f->e.length=k:=fun e he=>by
 obtain ⟨x,_,rfl⟩:=List.mem_map.1 he
 exact h x
theorem zsa:zqZ (fun s=>s):=.inl rfl
theorem Flat.pure {c:AV} (h:Flat c):Pure c:=by obtain ⟨x,rfl⟩:=h;exact .v x
section
variable {P:Program} {N:Nat} {Q:Exit->Fr->zaa->Nat->Prop} {l:List (Nat×AV)} {H:zaa} {g:Nat} {a b:Code} {O:Nat->Prop} {H0:zaa} {bd:Nat}
theorem zq0 {J:Type} (fr:J->List (Nat×AV)) (R:J->zaa->Nat->Prop) (hb:∀j H g,R j H g->wpA P N b Q (Fr.of (fr j)) H g)
  (ha:wpA P N a (Exit.thenA (fun fr' H' g'=>∃j H0 g0,zhf fr' H' g' (Fr.of (fr j)) H0 g0/\R j H0 g0) Q) (Fr.of l) H g):wpA P N (.seq a b) Q (Fr.of l) H g:=by
 refine zqP (l:=l) ?_
 refine znW ha fun e fr' H' g' hq=>?_
 cases e with
 | normal =>
  obtain ⟨j,H0,g0,hd,hR⟩:=hq
  exact ⟨_,_,_,hd,hb j H0 g0 hR⟩
 | _=>exact hq
theorem zi6 {J:Type} {fr:J->List (Nat×AV)} {R:J->zaa->Nat->Prop} (h:Q .ret (Fr.of l) H g) :
  Exit.thenA (fun fr' H' g'=>∃j H0 g0,zhf fr' H' g' (Fr.of (fr j)) H0 g0/\R j H0 g0) Q .ret (Fr.of l) H g:=h
theorem zq1 (P:Program) {J:Type} {fr:J->List (Nat×AV)} {R:J->zaa->Nat->Prop} {Lp Lp':BL} {i j p k:Nat} {cs cs':List AV} {es:List (List AV)} (n:Nat) {m:Nat} (hS:St O H0 (Lp++zdX i m es) H bd) (hn:Lp[n]?=some (j,.cells cs)) (hc:cs[p]?=some (msn i k m)) (hk:0<k) (hes:∀e,e∈es->e.length=k) (hfl:∀e,e∈es->∀c,c∈e->Flat c)
  (hcs:cs.set p (.sl .no k es)=cs') (hL:putAt Lp n (.cells cs')=Lp') (v:J) (hl:FLe l (fr v)) (h:∀H',St O H0 Lp' H' bd->R v H' g) :
  Exit.thenA (fun fr' H' g'=>∃j H0 g0,zhf fr' H' g' (Fr.of (fr j)) H0 g0/\R j H0 g0) Q .normal (Fr.of l) H g:=by
 have key:=zqr (P:=P) (N:=0) (b:=.skip) (Q:=fun _ fr0 H1 g1=>fr0=Fr.of (fr v)/\R v H1 g1) n hS.thaw hn (by rw [hc,zog hS.len]) hk hes hfl hcs hL (fun H' hS'=>⟨Fr.of (fr v),H',g,.le hl.le _ _,rfl,h H' hS'⟩)
 obtain ⟨fr0,H1,g1,hd,rfl,hR⟩:=key
 exact ⟨v,H1,g1,hd,hR⟩
end
end Go.AM
