/-
  The abstract machine: the rules by which a function is walked.
  Conditions: none; it speaks of any program.
-/
import Derived.Test.YtebfppngmmdfkaaGreatAmL
set_option linter.all false
namespace Go.AM
open Go Go.RowKit
def lk:List (Nat×AV)->Nat->AV
 | [],_=>.any
 | (d,v)::l,t=>if t=d then v else lk l t
def Fr.of (l:List (Nat×AV)):Fr:=lk l
def evL (N:Nat) (l:List (Nat×AV)):Operand->AV
 | .tmp t=>if t<N then lk l t else .any
 | .const v=>cv v
 | .global _=>.any
 | .func f=>.fn (.func f) [] []
theorem ziM (N:Nat) (l:List (Nat×AV)):(Fr.of l).ev N=evL N l:=by
 funext x
 cases x<;>rfl
theorem zhz {N d:Nat} (h:d<N) (l:List (Nat×AV)) (v:AV):(Fr.of l).put N (some d) v=Fr.of ((d,v)::l):=by
 funext t
 simp only [Fr.put,if_pos h]
 rfl
theorem zi2 (d:Nat) (v:AV) (l:List (Nat×AV)):lk ((d,v)::l) d=v:=if_pos rfl
theorem zmu {t d:Nat} (h:t≠d) (v:AV) (l:List (Nat×AV)):lk ((d,v)::l) t=lk l t:=if_neg h
theorem of_le {l0 l:List (Nat×AV)} (h:∀p,p∈l0->Le p.2 (lk l p.1)):zks (Fr.of l0) (Fr.of l):=by
 intro t
 have:∀l1:List (Nat×AV),(∀p,p∈l1->p∈l0)->Le (lk l1 t) (lk l t):=by
  intro l1
  induction l1 with
  | nil=>exact fun _=>.any _
  | cons p l1 ih =>
   intro hm
   obtain ⟨d,v⟩:=p
   by_cases ht:t=d
   ·subst ht
    rw [zi2]
    exact h (t,v) (hm _ (by simp))
   ·rw [zmu ht]
    exact ih fun q hq=>hm q (by simp [hq])
 exact this l0 fun _ h=>h
theorem zks.refl (fr:Fr):zks fr fr:=fun _=>.refl _
section
variable {P:Program} {N:Nat} {Q:Exit->Fr->zab->Nat->Prop} {l:List (Nat×AV)} {H:zab} {g:Nat} {a b c:Code}
theorem zu9 (h:wpA P N a (Exit.thenA (fun fr' H' g'=>∃fr0 H0 g0,zkj fr' H' g' fr0 H0 g0/\wpA P N b Q fr0 H0 g0) Q) (Fr.of l) H g):wpA P N (.seq a b) Q (Fr.of l) H g:=h
theorem zar {K:Fr->zab->Nat->Prop} {id:Nat} (h:Q (.exit id) (Fr.of l) H g):Exit.thenA K Q (.exit id) (Fr.of l) H g:=h
theorem zak {K:Fr->zab->Nat->Prop} (h:Q .ret (Fr.of l) H g):Exit.thenA K Q .ret (Fr.of l) H g:=h
theorem zaw {id:Nat} (h:Q .normal (Fr.of l) H g):Exit.inBlockA id Q (.exit id) (Fr.of l) H g:=by simpa [Exit.inBlockA] using h
theorem zae {id:Nat} (h:Q .normal (Fr.of l) H g):Exit.inBlockA id Q .normal (Fr.of l) H g:=h
theorem zaq {id:Nat} (h:Q .ret (Fr.of l) H g):Exit.inBlockA id Q .ret (Fr.of l) H g:=h
theorem zas (h:Q .normal (Fr.of l) H g):wpA P N .skip Q (Fr.of l) H g:=h
theorem zaB (h:Q .ret (Fr.of l) H g):wpA P N .ret Q (Fr.of l) H g:=h
theorem zbw {id:Nat} (h:Q (.exit id) (Fr.of l) H g):wpA P N (.exit id) Q (Fr.of l) H g:=h
theorem zap {id:Nat} (h:wpA P N c (Exit.inBlockA id Q) (Fr.of l) H g):wpA P N (.block id c) Q (Fr.of l) H g:=h
theorem zsC {id n:Nat} {os:List Oper} (hn:os.length=n) (h:za1 P N none g os.toArray (Q .normal) 0 os (Fr.of l) H (g+n)):wpA P N (.region id os.toArray false) Q (Fr.of l) H g:=by
 subst hn
 simpa [wpA] using h
theorem zdy {id n:Nat} {os:List Oper} (hn:os.length=n) (ho:(zlM os.toArray&&(zso os.toArray).isEmpty)=true) (h:za1 P N (some g) g os.toArray (Q .normal) 0 os (Fr.of l) H (g+n)):wpA P N (.region id os.toArray true) Q (Fr.of l) H g:=by
 subst hn
 simp only [Bool.and_eq_true,List.isEmpty_iff] at ho
 simpa [wpA,ho.1,ho.2] using h
theorem zor {id n:Nat} {os:List Oper} (E:List (Nat×Nat)) (hn:os.length=n) (ho:zlM os.toArray=true) (he:zso os.toArray=E) (h:za1 P N (some g) g os.toArray (fun fr H g=>(∀q,q∈E->zlB (fr q.1) (fr q.2))/\Q .normal fr H g) 0 os (Fr.of l) H (g+n)):wpA P N (.region id os.toArray true) Q (Fr.of l) H g:=by
 subst hn
 subst he
 simp only [wpA,ho,if_true,true_and]
 exact h
theorem ztE {o:Operand} {t:Bool} (hc:evL N l o=.v (.bool t)) (h1:t=true->wpA P N a Q (Fr.of l) H g) (h2:t=false->wpA P N b Q (Fr.of l) H g):wpA P N (.cond o a b) Q (Fr.of l) H g:=by
 simp only [wpA,ziM,hc]
 cases t
 ·exact h2 rfl
 ·exact h1 rfl
theorem zva {o:Operand} (hc:evL N l o=.v (.bool true)) (h:wpA P N a Q (Fr.of l) H g):wpA P N (.cond o a b) Q (Fr.of l) H g:=ztE hc (fun _=>h) (fun e=>by cases e)
theorem zt4 {o:Operand} (hc:evL N l o=.v (.bool false)) (h:wpA P N b Q (Fr.of l) H g):wpA P N (.cond o a b) Q (Fr.of l) H g:=ztE hc (fun e=>by cases e) (fun _=>h)
theorem zvb (I:Nat->List (Nat×AV)->zab->Nat->Prop) {n:Nat} {l0:List (Nat×AV)} (hle:zks (Fr.of l0) (Fr.of l)) (h0:I n l0 H g)
  (h:∀n l H g,I n l H g->zbB H g->wpA P N c (Exit.thenA (fun fr' H' g'=>∃m l0,m<n/\zks (Fr.of l0) fr'/\I m l0 H' g') Q) (Fr.of l) H g):wpA P N (.loop c) Q (Fr.of l) H g:=by
 refine ⟨fun n fr H g=>∃l,fr=Fr.of l/\I n l H g,⟨n,Fr.of l0,hle,l0,rfl,h0⟩,?_⟩
 rintro n fr H g ⟨l,rfl,hI⟩ hf
 have key:=h n l H g hI hf
 have:(Exit.thenA (fun fr' H' g'=>∃m l0,m<n/\zks (Fr.of l0) fr'/\I m l0 H' g') Q)=(Exit.thenA (fun fr' H' g'=>∃m fr0,m<n/\zks fr0 fr'/\∃l,fr0=Fr.of l/\I m l H' g') Q):=by
  funext e fr' H' g'
  cases e<;>first | rfl | skip
  apply propext
  constructor
  ·rintro ⟨m,l0,h1,h2,h3⟩
   exact ⟨m,_,h1,h2,l0,rfl,h3⟩
  ·rintro ⟨m,_,h1,h2,l0,rfl,h3⟩
   exact ⟨m,l0,h1,h2,h3⟩
 rwa [this] at key
variable {lim:Option Nat} {g0 i:Nat} {ops:Array Oper} {K:Fr->zab->Nat->Prop} {r:List Oper} {d:Nat} {op:Op} {ty:TypeId} {pos:String} {after:Array Edge}
theorem zt5 (h:K (Fr.of l) H g):za1 P N lim g0 ops K i [] (Fr.of l) H g:=h
theorem zbC {v:AV} {wr:Option (Nat×Blk)} (hd:d<N) (hc:zdt op=none) (ho:old lim ops i op (evL N l)=true) (he:zaE P (g0+i) op (evL N l) H=some (v,wr))
  (h:za1 P N lim g0 ops K (i+1) r (Fr.of ((d,v)::l)) (H.patch wr) g):za1 P N lim g0 ops K i (⟨some d,op,ty,pos,after,none⟩::r) (Fr.of l) H g:=by
 simp only [za1,zcI,opQ,hc,ziM,ho,he,if_true,zhz hd]
 exact .inl h
theorem zsD {v v':AV} {wr:Option (Nat×Blk)} (hd:d<N) (hc:zdt op=none) (ho:old none ops i op (evL N l)=true) (he:zaE P (g0+i) op (evL N l) H=some (v,wr)) (hle:Le v' v)
  (h:za1 P N none g0 ops K (i+1) r (Fr.of ((d,v')::l)) (H.patch wr) g):za1 P N none g0 ops K i (⟨some d,op,ty,pos,after,none⟩::r) (Fr.of l) H g:=by
 simp only [za1,zcI,opQ,hc,ziM,ho,he,if_true]
 exact .inr ⟨by trivial,.inl ⟨v',hle,by rw [zhz hd];exact h⟩⟩
theorem zmv {v:AV} {wr:Option (Nat×Blk)} (hc:zdt op=none) (ho:old lim ops i op (evL N l)=true) (he:zaE P (g0+i) op (evL N l) H=some (v,wr))
  (h:za1 P N lim g0 ops K (i+1) r (Fr.of l) (H.patch wr) g):za1 P N lim g0 ops K i (⟨none,op,ty,pos,after,none⟩::r) (Fr.of l) H g:=by
 simp only [za1,zcI,opQ,hc,ziM,ho,he,if_true]
 exact .inl h
theorem zk3 {j:Nat} {want:Bool} {t:Option Bool} {dst:Option Tmp} (hg:gd ops N (Fr.of l) j=some t) (h1:t=some want->za1 P N lim g0 ops K i (⟨dst,op,ty,pos,after,none⟩::r) (Fr.of l) H g)
  (h2:t≠some want->za1 P N lim g0 ops K (i+1) r ((Fr.of l).put N dst (.tup [])) H g):za1 P N lim g0 ops K i (⟨dst,op,ty,pos,after,some (j,want)⟩::r) (Fr.of l) H g:=by
 simp only [za1,zcI,hg]
 by_cases hw:t=some want
 ·rw [if_pos hw]
  exact h1 hw
 ·rw [if_neg hw]
  exact h2 hw
theorem run_pure {f:Operand} {args:Array Operand} {ts:Array TypeId} {k:FuncId} {first cap as:List AV} {v:AV} (hd:d<N) (ht:tgt (evL N l f)=some (k,first,cap)) (ha:first++args.toList.map (evL N l)++cap=as)
  (hs:zav P k as v) (h:za1 P N lim g0 ops K (i+1) r (Fr.of ((d,v)::l)) H g) :
  za1 P N lim g0 ops K i (⟨some d,.call { callee:=.value f,args:=args,argTypes:=ts },ty,pos,after,none⟩::r) (Fr.of l) H g:=by
 simp only [za1,zcI,opQ,zdt,ziM,ht,ha]
 refine zhw.pure hs ?_
 rw [zhz hd]
 exact h
theorem zk4 {f:Operand} {args:Array Operand} {ts:Array TypeId} {k:FuncId} {first cap as:List AV} {v:AV} {H':zab} {g':Nat} (hd:d<N) (ht:tgt (evL N l f)=some (k,first,cap)) (ha:first++args.toList.map (evL N l)++cap=as)
  (hs:Sat P k as H g v H' g') (hl:lim=none\/zhJ ops (Fr.of l) i=true) (h:za1 P N lim g0 ops K (i+1) r (Fr.of ((d,v)::l)) H' g') :
  za1 P N lim g0 ops K i (⟨some d,.call { callee:=.value f,args:=args,argTypes:=ts },ty,pos,after,none⟩::r) (Fr.of l) H g:=by
 simp only [za1,zcI,opQ,zdt,ziM,ht,ha]
 rw [show (lim.isSome&&!zhJ ops (Fr.of l) i)=false from by rcases hl with rfl | hl;rfl;simp [hl]]
 refine zhw.sat hs ?_
 rw [zhz hd]
 exact h
end
theorem zag (as:List AV):zhc as=Fr.of ((List.range as.length).zip as):=by
 have:∀(l:List AV) (n t:Nat),lk ((List.range' n l.length).zip l) (n+t)=(l[t]?).getD .any:=by
  intro l
  induction l with
  | nil=>intro n t;rfl
  | cons a l ih =>
   intro n t
   simp only [List.length_cons,List.range'_succ,List.zip_cons_cons]
   cases t with
   | zero=>simp [lk]
   | succ t =>
    rw [zmu (by omega),show n+(t+1)=n+1+t by omega,ih]
    rfl
 funext t
 rw [List.range_eq_range']
 have h:=this as 0 t
 rw [Nat.zero_add] at h
 exact h.symm
end Go.AM
