/-
  The abstract machine: the keys of a map, sorted.
  Conditions: none; it speaks of any program.
-/
import Derived.Test.YtchhkifidbkjcaaAmQu
import Derived.Test.YtchhkifidbkjcaaAmRr
import Derived.Test.YtchhkifidbkjcaaAmSd
import Derived.Maps.Range
import Derived.Lib.SlKeysI
set_option linter.all false
namespace Go.AM
open Go Go.RowKit
def zpz (P:Program) (f keys1:FuncId):Prop :=
 ztg P f/\∀(mb:Option Nat) (w:World),Calls P f #[.map mb] w fun e w'=>e=.returned (.func (.func keys1) #[] #[.pointer (some ⟨w.heap.size,0,none⟩)])/\∃ty,w'=w.alloc (.cells #[.map mb] ty)
def zmA (P:Program) (f keys1:FuncId) (kt:TypeId):Prop :=
 ztg P f/\∀(w:World) (Bm b nn:Nat) (D0:DataW Nat) (R:Value->Option (DataW Nat×List MemPlace)),Bm<w.heap.size->w.cell? ⟨Bm,0,none⟩=some (.map (some b))->w.ownsMap P kt R b nn D0->Maps.size D0<=1048576 ->
  Calls P f #[.func (.func keys1) #[] #[.pointer (some ⟨Bm,0,none⟩)]] w fun e w'=>∃(v:Value) (ss:List Int),e=.returned v/\ss.Perm (intKeys D0)/\w'.ownsRow w.heap.size kt 1 v ss.length ((ss.mergeSort (fun x y=>decide (x<=y))).map encZ)/\Below w.heap.size w w'
theorem zr5 {P:Program} {f keys1:FuncId} (h:zpz P f keys1) (j:Nat):zh8 P f [.mp j] (fun new=>.fn (.func keys1) [] [.ptr new 0]) (some (.cells [.mp j])):=by
 refine ⟨h.1,fun G H g new w vs hf hn hp hv=>?_⟩
 obtain ⟨a,rfl,ha⟩:=zoj hv
 cases ha with
 | mp _ k p hj =>
  refine (h.2 (some (G.φ j)) w).mono fun en w' ⟨he,ty,hw⟩=>?_
  subst hw
  obtain ⟨q1,q2,q3⟩:=zgv (cs:=[.mp j]) (vs:=#[.map (some (G.φ j))]) (ty:=ty) hp hn rfl (fun x hx=>by simp at hx;subst hx;rfl) (fun i c x hc hx=>by
   match i with
   | 0=>simp at hc hx;subst hc hx;exact .mp j k p hj
   | i+1=>simp at hc)
  refine ⟨_,_,he,q1,q2,.fn _ _ _ _ _ rfl rfl (fun i c x hc=>by simp at hc) fun i c x hc hx=>?_⟩
  match i with
  | 0=>simp at hc hx;subst hc hx;exact q3
  | i+1=>simp at hc
theorem znz (m:List (Value×Value)) (hnd:(m.map (·.1)).Nodup):Go.MapKept.Stamped (zgn m) m.length:=by
 refine ⟨fun x hx=>?_,?_,?_⟩
 ·rw [zbM] at hx
  obtain ⟨i,hi,rfl⟩:=List.mem_mapIdx.1 hx
  exact hi
 ·have:(zgn m).toList.map (·.born)=List.range m.length:=by
   rw [zbM]
   apply List.ext_getElem (by simp)
   intro i h1 h2
   simp
  rw [this]
  exact List.nodup_range
 ·have:(zgn m).toList.map (·.key)=m.map (·.1):=by
   rw [zbM]
   apply List.ext_getElem (by simp)
   intro i h1 h2
   simp
  rw [this]
  exact hnd
section
variable {ν:Type} {cv:ν->Value}
theorem zr6 {P:Program} {kt:TypeId} (hk:P.underlying kt=some (.int .i64)) {w:World} {b:Nat} {E:List (Int×ν)} {o:Obj} (hb:w.heap[b]?=some o) (ho:zag (mpw kvI cv E) o) (hok:∀x,x∈E->okI x.1=true) (hnd:(E.map (·.1)).Nodup) (hl:E.length<=1048576) :
  ∃D0:DataW Nat,w.ownsMap P kt (fun _=>some (.nil,[])) b E.length D0/\Maps.size D0=E.length/\(intKeys D0).Perm (E.map (·.1)):=by
 have hlen:(mpw kvI cv E).length=E.length:=List.length_map _
 have hsz:(zgn (mpw kvI cv E)).size=E.length:=by rw [←Array.length_toList,zbM,List.length_mapIdx,hlen]
 have hrd:∀x,x∈(zgn (mpw kvI cv E)).toList->∃n:Int,x.key=kvI n/\Go.WideElems.rd P kt (fun _=>some ((.nil:DataW Nat),[])) x=some (.int .i64 n,.nil):=fun x hx=>by
  rw [zbM] at hx
  obtain ⟨i,hi,rfl⟩:=List.mem_mapIdx.1 hx
  have hi':i<E.length:=by rw [←hlen];exact hi
  refine ⟨(E[i]).1,by simp [mpw],?_⟩
  have hw:=hok _ (List.getElem_mem hi')
  have hkey:keyOf P kt (kvI (E[i]).1)=some (.int .i64 (E[i]).1):=Go.Maps.keyOf_int_mk hk hw
  refine Go.WideElems.rd_mk (yv:=(.nil,[])) ?_ rfl
  simpa [mpw] using hkey
 have hnd':((mpw kvI cv E).map (·.1)).Nodup:=by
  have:(mpw kvI cv E).map (·.1)=(E.map (·.1)).map kvI:=by simp [mpw]
  rw [this]
  exact List.Pairwise.map _ (fun a b hab e=>hab (by injection e)) hnd
 refine ⟨_,⟨_,_,hb.trans (congrArg some ho),⟨by rw [hsz];unfold maxLen;omega,znz _ hnd',fun x hx=>by obtain ⟨n,_,h⟩:=hrd x hx;exact ⟨_,h⟩⟩,Nat.le_of_eq hsz,rfl⟩,?_,?_⟩
 ·rw [Go.Maps.size_eq,length_sorted]
  simp [hsz]
 ·show (List.map _ _).Perm _
  refine ((Go.WideShapes.sorted_perm _).map _).trans (List.Perm.of_eq ?_)
  apply List.ext_getElem (by simp [hsz])
  intro i h1 h2
  simp only [List.getElem_map]
  have h3:i<(zgn (mpw kvI cv E)).toList.length:=by simpa using h1
  obtain ⟨n,hn,hr⟩:=hrd _ (List.getElem_mem h3)
  rw [Go.WideElems.rg_of hr]
  simp only [zbM,List.getElem_mapIdx,mpw,List.getElem_map] at hn
  exact (by injection hn:_=n).symm
theorem zqI {P:Program} {f keys1:FuncId} {kt:TypeId} (h:zmA P f keys1 kt) (hk:P.underlying kt=some (.int .i64)) {H:zaa} {g j bx:Nat} {E:List (Int×ν)} (hfr:za2 H g) (hbx:H bx=some (.cells [.mp j])) (hj:H j=some (.obj none (zag (mpw kvI cv E))))
  (hok:∀x,x∈E->okI x.1=true) (hnd:(E.map (·.1)).Nodup) (hl:E.length<=1048576):Sat P f [.fn (.func keys1) [] [.ptr bx 0]] H g (.sl .no 1 ((zgp (E.map (·.1))).map cI)) H g:=by
 refine ⟨h.1,fun G w vs hp hv=>?_⟩
 obtain ⟨a,rfl,ha⟩:=zoj hv
 cases ha with
 | fn _ _ _ v1 v2 h1 h2 _ hc =>
  have e1:v1=#[]:=Array.eq_empty_of_size_eq_zero h1
  subst e1
  obtain ⟨l⟩:=v2
  match l,h2,hc with
  | [x],_,hc =>
  have hx:=hc 0 _ x rfl rfl
  cases hx
  obtain ⟨us,ty,hg,hs,_,hvs⟩:=hp.cells bx _ hbx
  have hu0:us[0]?=some (us[0]'(by have:=hs.1;simp at this;omega)):=Array.getElem?_eq_getElem _
  have hm:=hvs 0 _ _ rfl hu0
  generalize us[0]'(by have:=hs.1;simp at this;omega)=u at hu0 hm
  cases hm
  obtain ⟨o,ho,⟨hpo,_⟩,_⟩:=hp.objs j none _ hj
  obtain ⟨D0,hown,hsz,hperm⟩:=zr6 (P:=P) hk ho hpo hok hnd hl
  have hcell:w.cell? ⟨G.φ bx,0,none⟩=some (.map (some (G.φ j))):=by
   simp only [World.cell?,hg]
   simpa using hu0
  refine (h.2 w (G.φ bx) (G.φ j) _ D0 _ (zeP hcell) hcell hown (by omega)).mono fun en w' ⟨v,ss,he,hss,hrow,hb⟩=>?_
  have e2:ss.mergeSort (fun x y=>decide (x<=y))=zgp (E.map (·.1)):=by
   rw [zkJ]
   exact ziJ (hss.trans hperm)
  rw [e2] at hrow
  have e3:ss.length=(ziI (zgp (E.map (·.1)))).length:=by
   have:=(hss.trans hperm).length_eq
   rw [this]
   simp only [ziI,List.length_map]
   rw [(zd2 _).length_eq,List.length_map]
  rw [e3] at hrow
  have hown0:w'.ownsRow 0 kt 1 v (ziI (zgp (E.map (·.1)))).length ((zgp (E.map (·.1))).map (Value.int .i64)):=by
   refine ⟨hrow.1,hrow.2.imp id ?_⟩
   rintro ⟨q,cap,cur,a1,a2,a3⟩
   exact ⟨q,cap,cur,a1,Nat.zero_le _,a3⟩
  have hge:∀b,v.ownBlock=some b->w.heap.size<=b:=fun b hb'=>by
   rcases hrow.2 with ⟨rfl,_⟩ | ⟨q,cap,cur,rfl,a2,_⟩
   ·cases hb'
   ·injection hb' with hb'
    subst hb'
    exact a2
  obtain ⟨q1,q2,q3⟩:=zh9 (w':=w') (new:=g) (e:=kt) hp (hfr g (Nat.le_refl _)) (by omega:0<1) (fun b hlt=>hb.block b hlt) hb.size hb.os hb.tape hb.output hown0 hge (zr4 _)
  have hsub:∀i z,H i=some z->(H.set g (.row kt (ziI (zgp (E.map (·.1)))).length)) i=some z:=fun i z hi=>by
   rw [zaa.set_ne _ _ (fun hi'=>by subst hi';rw [hfr _ (Nat.le_refl _)] at hi;cases hi)]
   exact hi
  obtain ⟨p1,p2⟩:=zfD hp q1 q2 hsub (fun i hi=>hi) (fun i d m hi=>⟨m,hi⟩) (fun i q p hi=>⟨p,hi⟩) (fun i cs hi=>.inl hi)
  have q4:VR (G.atσ g v 1) H w' (.sl .no 1 (ziI (zgp (E.map (·.1))))) v:=(q3.le (.sl _ _ _)).back hsub (.sl _ _ _ (fun τ hτ=>by cases hτ) fun x hx c hc=>by
   obtain ⟨y,rfl⟩:=zoN _ x hx c hc
   exact .v _)
  exact ⟨v,_,he,p1,⟨hfr,Nat.le_refl _,fun i _ h=>h⟩,p2,q4⟩
end
section
variable {P:Program} {N:Nat} {l:List (Nat×AV)} {H:zaa} {g:Nat} {lim:Option Nat} {g0 i:Nat} {ops:Array Oper} {K:Fr->zaa->Nat->Prop} {r:List Oper} {d:Nat} {ty:TypeId} {pos:String} {after:Array Edge}
 {O:Nat->Prop} {H0:zaa} {L:BL} {b:Nat} {ν:Type} {cv:ν->Value}
theorem ztP {f:Operand} {args:Array Operand} {ts:Array TypeId} {k keys1:FuncId} {kt:TypeId} {j bx:Nat} {E:List (Int×ν)} (n m:Nat) (hl:lim=none\/zfe ops (Fr.of l) i=true) (hS:St O H0 L H b) (hd:d<N) (ht:tgt (evL N l f)=some (k,[],[])) (ha:args.toList.map (evL N l)=[.fn (.func keys1) [] [.ptr bx 0]])
  (hs:zmA P k keys1 kt) (hk:P.underlying kt=some (.int .i64)) (hn:L[n]?=some (bx,.cells [.mp j])) (hm:L[m]?=some (j,.obj none (zag (mpw kvI cv E)))) (hok:∀x,x∈E->okI x.1=true) (hnd:(E.map (·.1)).Nodup) (hlen:E.length<=1048576) (hb:b<=g)
  (h:zaL P N lim g0 ops K (i+1) r (Fr.of ((d,.sl .no 1 ((zgp (E.map (·.1))).map cI))::l)) H g) :
  zaL P N lim g0 ops K i (⟨some d,.call { callee:=.value f,args:=args,argTypes:=ts },ty,pos,after,none⟩::r) (Fr.of l) H g :=
 zie hd ht (by rw [ha];rfl) (zqI hs hk (fun j hj=>hS.fr j (Nat.le_trans hb hj)) (hS.get hn) (hS.get hm) hok hnd hlen) hl h
end
end Go.AM
