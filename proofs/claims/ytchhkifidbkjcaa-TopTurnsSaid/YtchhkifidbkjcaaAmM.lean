/-
  The abstract machine: the rules by which a function is walked.
  Conditions: none; it speaks of any program.
-/
import Derived.Test.YtchhkifidbkjcaaAmL
set_option linter.all false
namespace Go.AM
open Go Go.RowKit
def lk:List (Nat×AV)->Nat->AV
 | [],_=>.any
 | (d,v)::l,t=>if t=d then v else lk l t
def Fr.of (l:List (Nat×AV)):Fr:=lk l
def evL (N:Nat) (l:List (Nat×AV)):Operand->AV
 | .tmp t=>if t<N then lk l t else .any
 | .const v=>cv v
 | .global _=>.any
 | .func f=>.fn (.func f) [] []
theorem zea (N:Nat) (l:List (Nat×AV)):(Fr.of l).ev N=evL N l:=by
 funext x
 cases x<;>rfl
theorem zdP {N d:Nat} (h:d<N) (l:List (Nat×AV)) (v:AV):(Fr.of l).put N (some d) v=Fr.of ((d,v)::l):=by
 funext t
 simp only [Fr.put,if_pos h]
 rfl
theorem zkz (d:Nat) (v:AV) (l:List (Nat×AV)):lk ((d,v)::l) d=v:=if_pos rfl
theorem zoA {t d:Nat} (h:t≠d) (v:AV) (l:List (Nat×AV)):lk ((d,v)::l) t=lk l t:=if_neg h
theorem of_le {l0 l:List (Nat×AV)} (h:∀p,p∈l0->Le p.2 (lk l p.1)):zkh (Fr.of l0) (Fr.of l):=by
 intro t
 have:∀l1:List (Nat×AV),(∀p,p∈l1->p∈l0)->Le (lk l1 t) (lk l t):=by
  intro l1
  induction l1 with
  | nil=>exact fun _=>.any _
  | cons p l1 ih =>
   intro hm
   obtain ⟨d,v⟩:=p
   by_cases ht:t=d
   ·subst ht
    rw [zkz]
    exact h (t,v) (hm _ (by simp))
   ·rw [zoA ht]
    exact ih fun q hq=>hm q (by simp [hq])
 exact this l0 fun _ h=>h
theorem zkh.refl (fr:Fr):zkh fr fr:=fun _=>.refl _
section
variable {P:Program} {N:Nat} {Q:Exit->Fr->zaa->Nat->Prop} {l:List (Nat×AV)} {H:zaa} {g:Nat} {a b c:Code}
theorem zv6 (h:wpA P N a (Exit.thenA (fun fr' H' g'=>∃fr0 H0 g0,zjc fr' H' g' fr0 H0 g0/\wpA P N b Q fr0 H0 g0) Q) (Fr.of l) H g):wpA P N (.seq a b) Q (Fr.of l) H g:=h
theorem zav {K:Fr->zaa->Nat->Prop} {id:Nat} (h:Q (.exit id) (Fr.of l) H g):Exit.thenA K Q (.exit id) (Fr.of l) H g:=h
theorem zao {K:Fr->zaa->Nat->Prop} (h:Q .ret (Fr.of l) H g):Exit.thenA K Q .ret (Fr.of l) H g:=h
theorem zaD {id:Nat} (h:Q .normal (Fr.of l) H g):Exit.inBlockA id Q (.exit id) (Fr.of l) H g:=by simpa [Exit.inBlockA] using h
theorem zas {id:Nat} (h:Q .normal (Fr.of l) H g):Exit.inBlockA id Q .normal (Fr.of l) H g:=h
theorem zaV {id:Nat} (h:Q .ret (Fr.of l) H g):Exit.inBlockA id Q .ret (Fr.of l) H g:=h
theorem zay (h:Q .normal (Fr.of l) H g):wpA P N .skip Q (Fr.of l) H g:=h
theorem zaS (h:Q .ret (Fr.of l) H g):wpA P N .ret Q (Fr.of l) H g:=h
theorem zb1 {id:Nat} (h:Q (.exit id) (Fr.of l) H g):wpA P N (.exit id) Q (Fr.of l) H g:=h
theorem zaB {id:Nat} (h:wpA P N c (Exit.inBlockA id Q) (Fr.of l) H g):wpA P N (.block id c) Q (Fr.of l) H g:=h
theorem zty {id n:Nat} {os:List Oper} (hn:os.length=n) (h:zaL P N none g os.toArray (Q .normal) 0 os (Fr.of l) H (g+n)):wpA P N (.region id os.toArray false) Q (Fr.of l) H g:=by
 subst hn
 simpa [wpA] using h
theorem zc4 {id n:Nat} {os:List Oper} (hn:os.length=n) (ho:(zkg os.toArray&&(zth os.toArray).isEmpty&&(zlr os.toArray).isEmpty)=true) (h:zaL P N (some g) g os.toArray (Q .normal) 0 os (Fr.of l) H (g+n)):wpA P N (.region id os.toArray true) Q (Fr.of l) H g:=by
 subst hn
 simp only [Bool.and_eq_true,List.isEmpty_iff] at ho
 simpa [wpA,ho.1.1,ho.1.2,ho.2] using h
theorem zuU {id n:Nat} {os:List Oper} (E:List (Nat×Nat)) (hn:os.length=n) (ho:(zkg os.toArray&&(zlr os.toArray).isEmpty)=true) (he:zth os.toArray=E) (h:zaL P N (some g) g os.toArray (fun fr H g=>(∀q,q∈E->zkf (fr q.1) (fr q.2))/\Q .normal fr H g) 0 os (Fr.of l) H (g+n)):wpA P N (.region id os.toArray true) Q (Fr.of l) H g:=by
 subst hn
 subst he
 simp only [Bool.and_eq_true,List.isEmpty_iff] at ho
 simp only [wpA,ho.1,ho.2,if_true,true_and,List.not_mem_nil,false_imp_iff,implies_true,and_true]
 exact h
theorem zuV {id n:Nat} {os:List Oper} (E:List (Nat×Nat)) (T:List (Nat×Nat×TypeId)) (hn:os.length=n) (ho:zkg os.toArray=true) (he:zth os.toArray=E) (ht:zlr os.toArray=T) (h:zaL P N (some g) g os.toArray (fun fr H g=>((∀q,q∈E->zkf (fr q.1) (fr q.2))/\∀q,q∈T->zhZ P q.2.2 (fr q.1) (fr q.2.1))/\Q .normal fr H g) 0 os (Fr.of l) H (g+n)):wpA P N (.region id os.toArray true) Q (Fr.of l) H g:=by
 subst hn
 subst he
 subst ht
 simp only [wpA,ho,if_true,true_and]
 exact h
theorem zuv {o:Operand} {t:Bool} (hc:evL N l o=.v (.bool t)) (h1:t=true->wpA P N a Q (Fr.of l) H g) (h2:t=false->wpA P N b Q (Fr.of l) H g):wpA P N (.cond o a b) Q (Fr.of l) H g:=by
 simp only [wpA,zea,hc]
 cases t
 ·exact h2 rfl
 ·exact h1 rfl
theorem zv7 {o:Operand} (hc:evL N l o=.v (.bool true)) (h:wpA P N a Q (Fr.of l) H g):wpA P N (.cond o a b) Q (Fr.of l) H g:=zuv hc (fun _=>h) (fun e=>by cases e)
theorem zuW {o:Operand} (hc:evL N l o=.v (.bool false)) (h:wpA P N b Q (Fr.of l) H g):wpA P N (.cond o a b) Q (Fr.of l) H g:=zuv hc (fun e=>by cases e) (fun _=>h)
theorem zv8 (I:Nat->List (Nat×AV)->zaa->Nat->Prop) {n:Nat} {l0:List (Nat×AV)} (hle:zkh (Fr.of l0) (Fr.of l)) (h0:I n l0 H g)
  (h:∀n l H g,I n l H g->za2 H g->wpA P N c (Exit.thenA (fun fr' H' g'=>∃m l0,m<n/\zkh (Fr.of l0) fr'/\I m l0 H' g') Q) (Fr.of l) H g):wpA P N (.loop c) Q (Fr.of l) H g:=by
 refine ⟨fun n fr H g=>∃l,fr=Fr.of l/\I n l H g,⟨n,Fr.of l0,hle,l0,rfl,h0⟩,?_⟩
 rintro n fr H g ⟨l,rfl,hI⟩ hf
 have key:=h n l H g hI hf
 have:(Exit.thenA (fun fr' H' g'=>∃m l0,m<n/\zkh (Fr.of l0) fr'/\I m l0 H' g') Q)=(Exit.thenA (fun fr' H' g'=>∃m fr0,m<n/\zkh fr0 fr'/\∃l,fr0=Fr.of l/\I m l H' g') Q):=by
  funext e fr' H' g'
  cases e<;>first | rfl | skip
  apply propext
  constructor
  ·rintro ⟨m,l0,h1,h2,h3⟩
   exact ⟨m,_,h1,h2,l0,rfl,h3⟩
  ·rintro ⟨m,_,h1,h2,l0,rfl,h3⟩
   exact ⟨m,l0,h1,h2,h3⟩
 rwa [this] at key
variable {lim:Option Nat} {g0 i:Nat} {ops:Array Oper} {K:Fr->zaa->Nat->Prop} {r:List Oper} {d:Nat} {op:Op} {ty:TypeId} {pos:String} {after:Array Edge}
theorem zuX (h:K (Fr.of l) H g):zaL P N lim g0 ops K i [] (Fr.of l) H g:=h
theorem za3 {v:AV} {wr:Option (Nat×Blk)} (hd:d<N) (hc:zbz op=none) (ho:old lim ops i op (evL N l)=true) (he:zat P (g0+i) op (evL N l) H=some (v,wr))
  (h:zaL P N lim g0 ops K (i+1) r (Fr.of ((d,v)::l)) (H.patch wr) g):zaL P N lim g0 ops K i (⟨some d,op,ty,pos,after,none⟩::r) (Fr.of l) H g:=by
 simp only [zaL,zbs,opQ,hc,zea,ho,he,if_true,zdP hd]
 exact .inl h
theorem zj1 {v v':AV} {wr:Option (Nat×Blk)} (hd:d<N) (hc:zbz op=none) (ho:old none ops i op (evL N l)=true) (he:zat P (g0+i) op (evL N l) H=some (v,wr)) (hle:Le v' v)
  (h:zaL P N none g0 ops K (i+1) r (Fr.of ((d,v')::l)) (H.patch wr) g):zaL P N none g0 ops K i (⟨some d,op,ty,pos,after,none⟩::r) (Fr.of l) H g:=by
 simp only [zaL,zbs,opQ,hc,zea,ho,he,if_true]
 exact .inr ⟨by trivial,.inl ⟨v',hle,by rw [zdP hd];exact h⟩⟩
theorem zho {v:AV} {wr:Option (Nat×Blk)} (hc:zbz op=none) (ho:old lim ops i op (evL N l)=true) (he:zat P (g0+i) op (evL N l) H=some (v,wr))
  (h:zaL P N lim g0 ops K (i+1) r (Fr.of l) (H.patch wr) g):zaL P N lim g0 ops K i (⟨none,op,ty,pos,after,none⟩::r) (Fr.of l) H g:=by
 simp only [zaL,zbs,opQ,hc,zea,ho,he,if_true]
 exact .inl h
theorem zkA {j:Nat} {want:Bool} {t:Option Bool} {dst:Option Tmp} (hg:gd ops N (Fr.of l) j=some t) (h1:t=some want->zaL P N lim g0 ops K i (⟨dst,op,ty,pos,after,none⟩::r) (Fr.of l) H g)
  (h2:t≠some want->zaL P N lim g0 ops K (i+1) r ((Fr.of l).put N dst (.tup [])) H g):zaL P N lim g0 ops K i (⟨dst,op,ty,pos,after,some (j,want)⟩::r) (Fr.of l) H g:=by
 simp only [zaL,zbs,hg]
 by_cases hw:t=some want
 ·rw [if_pos hw]
  exact h1 hw
 ·rw [if_neg hw]
  exact h2 hw
theorem run_pure {f:Operand} {args:Array Operand} {ts:Array TypeId} {k:FuncId} {first cap as:List AV} {v:AV} (hd:d<N) (ht:tgt (evL N l f)=some (k,first,cap)) (ha:first++args.toList.map (evL N l)++cap=as)
  (hs:zaR P k as v) (h:zaL P N lim g0 ops K (i+1) r (Fr.of ((d,v)::l)) H g) :
  zaL P N lim g0 ops K i (⟨some d,.call { callee:=.value f,args:=args,argTypes:=ts },ty,pos,after,none⟩::r) (Fr.of l) H g:=by
 simp only [zaL,zbs,opQ,zbz,zea,ht,ha]
 refine zeR.pure hs ?_
 rw [zdP hd]
 exact h
theorem zrB {f:Operand} {args:Array Operand} {ts:Array TypeId} {k:FuncId} {first cap as:List AV} {e k':Nat} {es:List (List AV)} (hd:d<N) (ht:tgt (evL N l f)=some (k,first,cap)) (ha:first++args.toList.map (evL N l)++cap=as)
  (hs:zf9 P k as e k' es) (h:zaL P N lim g0 ops K (i+1) r (Fr.of ((d,.sl (.id (g0+i)) k' es)::l)) (H.set (g0+i) (.row e es.length)) g) :
  zaL P N lim g0 ops K i (⟨some d,.call { callee:=.value f,args:=args,argTypes:=ts },ty,pos,after,none⟩::r) (Fr.of l) H g:=by
 simp only [zaL,zbs,opQ,zbz,zea,ht,ha]
 refine zeR.fresh hs ?_
 rw [zdP hd]
 exact h
theorem zie {f:Operand} {args:Array Operand} {ts:Array TypeId} {k:FuncId} {first cap as:List AV} {v:AV} {H':zaa} {g':Nat} (hd:d<N) (ht:tgt (evL N l f)=some (k,first,cap)) (ha:first++args.toList.map (evL N l)++cap=as)
  (hs:Sat P k as H g v H' g') (hl:lim=none\/zfe ops (Fr.of l) i=true) (h:zaL P N lim g0 ops K (i+1) r (Fr.of ((d,v)::l)) H' g') :
  zaL P N lim g0 ops K i (⟨some d,.call { callee:=.value f,args:=args,argTypes:=ts },ty,pos,after,none⟩::r) (Fr.of l) H g:=by
 simp only [zaL,zbs,opQ,zbz,zea,ht,ha]
 rw [show (lim.isSome&&!zfe ops (Fr.of l) i)=false from by rcases hl with rfl | hl;rfl;simp [hl]]
 refine zeR.sat hs ?_
 rw [zdP hd]
 exact h
end
theorem zpj {P:Program} {N:Nat} {l:List (Nat×AV)} {H:zaa} {g:Nat} {lim:Option Nat} {g0 i:Nat} {ops:Array Oper} {K:Fr->zaa->Nat->Prop} {r:List Oper} {d:Nat} {ty:TypeId} {pos:String} {after:Array Edge}
  {f:Operand} {args:Array Operand} {ts:Array TypeId} {k:FuncId} {first cap as:List AV} {T:AV->zaa->Nat->Prop} (hd:d<N) (ht:tgt (evL N l f)=some (k,first,cap)) (ha:first++args.toList.map (evL N l)++cap=as)
  (hs:zq9 P k as H g T) (hl:lim=none\/zfe ops (Fr.of l) i=true) (h:∀v H' g',T v H' g'->zaL P N lim g0 ops K (i+1) r (Fr.of ((d,v)::l)) H' g') :
  zaL P N lim g0 ops K i (⟨some d,.call { callee:=.value f,args:=args,argTypes:=ts },ty,pos,after,none⟩::r) (Fr.of l) H g:=by
 simp only [zaL,zbs,opQ,zbz,zea,ht,ha]
 rw [show (lim.isSome&&!zfe ops (Fr.of l) i)=false from by rcases hl with rfl | hl;rfl;simp [hl]]
 refine zeR.satP (hs.mono fun v H' g' hT=>?_)
 rw [zdP hd]
 exact h _ _ _ hT
theorem zah (as:List AV):zfB as=Fr.of ((List.range as.length).zip as):=by
 have:∀(l:List AV) (n t:Nat),lk ((List.range' n l.length).zip l) (n+t)=(l[t]?).getD .any:=by
  intro l
  induction l with
  | nil=>intro n t;rfl
  | cons a l ih =>
   intro n t
   simp only [List.length_cons,List.range'_succ,List.zip_cons_cons]
   cases t with
   | zero=>simp [lk]
   | succ t =>
    rw [zoA (by omega),show n+(t+1)=n+1+t by omega,ih]
    rfl
 funext t
 rw [List.range_eq_range']
 have h:=this as 0 t
 rw [Nat.zero_add] at h
 exact h.symm
end Go.AM
