/-
  The abstract machine: an operation in a frame; the operations of a region in the text's order.
  Conditions: none; it speaks of any program.
-/
import Derived.Test.YtchhkifidbkjcaaAmH
import Derived.Test.YtchhkifidbkjcaaAmLn
import Derived.WalkSpells
import Derived.Lib.SliceRun
set_option linter.all false
namespace Go.AM
open Go Go.RowKit
def Marks (G:Gh) (H:zaa) (w0 w:World) (ds:List Deferred):Prop :=
 ∃Ds:List Nat,ds=Ds.map (fun D=>{ target:=.collected D,args:=#[] })/\Ds.Nodup/\∀D,D∈Ds->w0.heap.size<=D/\w.heap[D]?=some (.deferred (some []))/\¬Im G H D
theorem Marks.ext {G G':Gh} {H H':zaa} {w0 w w':World} {ds:List Deferred} (h:Marks G H w0 w ds) (hE:Ext G H w G' H' w'):Marks G' H' w0 w' ds:=by
 obtain ⟨Ds,h1,h2,h3⟩:=h
 refine ⟨Ds,h1,h2,fun D hD=>?_⟩
 obtain ⟨a,b,c⟩:=h3 D hD
 have hlt:D<w.heap.size:=(Array.getElem?_eq_some_iff.1 b).1
 exact ⟨a,by rw [hE.block D hlt c];exact b,fun hi=>(hE.im D hi).elim c (fun h=>by omega)⟩
theorem Marks.nil (G:Gh) (H:zaa) (w0 w:World):Marks G H w0 w []:=⟨[],rfl,List.nodup_nil,fun D h=>by simp at h⟩
def Sim (G0:Gh) (H0:zaa) (w0:World) (N:Nat) (fr:Fr) (H:zaa) (a:Act) (w:World):Prop :=
 ∃G,Hp G H w/\Ext G0 H0 w0 G H w/\Marks G H w0 w a.defers/\a.tmps.size=N/\∀t,t<N->VR G H w (fr t) (a.tmps.getD t undef)
theorem zot {G:Gh} {H:zaa} {w:World} {N:Nat} {fr:Fr} {a:Act} (h:∀t,t<N->VR G H w (fr t) (a.tmps.getD t undef)) (x:Operand):VR G H w (fr.ev N x) (a.eval x):=by
 cases x with
 | tmp t =>
  show VR G H w (if t<N then fr t else .any) _
  split
  ·exact h t ‹_›
  ·exact .any _
 | const v=>exact zuN v
 | global g=>exact .any _
 | func f=>exact .fn (.func f) [] [] #[] #[] rfl rfl (fun i c x h=>by simp at h) (fun i c x h=>by simp at h)
theorem zut {G:Gh} {H:zaa} {w:World} {N:Nat} {fr:Fr} {a:Act} (hs:a.tmps.size=N) (h:∀t,t<N->VR G H w (fr t) (a.tmps.getD t undef)) {r:AV} {v:Value} (hv:VR G H w r v) (dst:Option Tmp) :
  (a.put dst v).defers=a.defers/\(a.put dst v).tmps.size=N/\∀t,t<N->VR G H w (fr.put N dst r t) ((a.put dst v).tmps.getD t undef):=by
 cases dst with
 | none=>exact ⟨rfl,hs,h⟩
 | some d =>
  refine ⟨rfl,by simp [Act.put,hs],fun t ht=>?_⟩
  unfold Fr.put
  by_cases hd:d<N
  ·simp only [if_pos hd]
   by_cases htd:t=d
   ·subst htd
    simp only [if_true,Act.put,Array.getD_eq_getD_getElem?]
    rw [Array.getElem?_setIfInBounds_self_of_lt (by omega)]
    exact hv
   ·simp only [if_neg htd,Act.put,Array.getD_eq_getD_getElem?]
    rw [Array.getElem?_setIfInBounds_ne (by omega)]
    have:=h t ht
    rwa [Array.getD_eq_getD_getElem?] at this
  ·simp only [if_neg hd,Act.put,Array.getD_eq_getD_getElem?]
   rw [Array.getElem?_setIfInBounds_ne (show d≠t from fun e=>hd (e▸ht))]
   have:=h t ht
   rwa [Array.getD_eq_getD_getElem?] at this
theorem Sim.put {G0:Gh} {H0:zaa} {w0:World} {N:Nat} {fr:Fr} {H H':zaa} {a:Act} {w w':World} {G G':Gh} (hE0:Ext G0 H0 w0 G H w) (hd:Marks G H w0 w a.defers) (hs:a.tmps.size=N)
  (h:∀t,t<N->VR G H w (fr t) (a.tmps.getD t undef)) (hp':Hp G' H' w') (hE:Ext G H w G' H' w') {r:AV} {v:Value} (hv:VR G' H' w' r v) (dst:Option Tmp) :
  Sim G0 H0 w0 N (fr.put N dst r) H' (a.put dst v) w':=by
 obtain ⟨h1,h2,h3⟩:=zut hs (fun t ht=>(h t ht).evo hE.evo) hv dst
 exact ⟨G',hp',hE0.trans hE,by rw [h1];exact hd.ext hE,h2,h3⟩
theorem zqk {P:Program} {new:Nat} {t:TypeId} {H:zaa} {s x r:AV} {j:Nat} {b:Blk} (h:zh7 P t H s x=some (r,some (j,b))):j=new\/H j≠none:=by
 unfold zh7 at h
 split at h
 ·split at h
  ·rename_i cs hcs
   split at h
   ·obtain ⟨q,_,h⟩:=Option.bind_eq_some_iff.1 h
    split at h
    ·injection h with h;injection h with _ h;injection h with h;injection h with h
     subst h
     exact .inr (by rw [hcs];simp)
    ·cases h
   ·cases h
  ·cases h
 ·cases h
theorem zrl {P:Program} {new:Nat} {t:TypeId} {H:zaa} {s r:AV} {j:Nat} {b:Blk} (h:znc P t H s=some (r,some (j,b))):j=new\/H j≠none:=by
 unfold znc at h
 split at h
 ·split at h
  ·rename_i cs hcs
   split at h
   ·obtain ⟨_,_,h⟩:=Option.bind_eq_some_iff.1 h
    obtain ⟨_,_,h⟩:=Option.bind_eq_some_iff.1 h
    split at h
    ·injection h with h;injection h with _ h;injection h with h;injection h with h
     subst h
     exact .inr (by rw [hcs];simp)
    ·cases h
   ·cases h
  ·cases h
 ·cases h
theorem zpg {P:Program} {new:Nat} {op:Op} {ρ:Operand->AV} {H:zaa} {r:AV} {j:Nat} {b:Blk} (h:zat P new op ρ H=some (r,some (j,b))):j=new\/H j≠none:=by
 cases op<;>simp only [zat] at h<;>try (cases h;done)
 case pick=>split at h<;>simp at h
 case alloc=>obtain ⟨_,_,h⟩:=Option.map_eq_some_iff.1 h;injection h with _ h;injection h with h;injection h with h;exact .inl h.symm
 case box=>obtain ⟨_,_,h⟩:=Option.map_eq_some_iff.1 h;injection h with _ h;injection h with h;injection h with h;exact .inl h.symm
 case makeMap t r =>
  cases r with
  | some _=>simp at h
  | none=>obtain ⟨_,_,h⟩:=Option.map_eq_some_iff.1 h;injection h with _ h;injection h with h;injection h with h;exact .inl h.symm
 case makeSlice =>
  obtain ⟨_,_,h⟩:=Option.bind_eq_some_iff.1 h
  obtain ⟨_,_,h⟩:=Option.bind_eq_some_iff.1 h
  obtain ⟨_,_,h⟩:=Option.bind_eq_some_iff.1 h
  split at h
  ·split at h
   ·injection h with h;injection h with _ h;cases h
   ·injection h with h;injection h with _ h;injection h with h;injection h with h;exact .inl h.symm
  ·cases h
 case lookup=>obtain ⟨_,_,h⟩:=Option.map_eq_some_iff.1 h;injection h with _ h;cases h
 case mapUpdate =>
  obtain ⟨q,hq,h⟩:=Option.bind_eq_some_iff.1 h
  obtain ⟨_,_,h⟩:=Option.map_eq_some_iff.1 h
  injection h with _ h;injection h with h;injection h with h _
  exact .inr (by rw [←h];exact zix hq)
 case insert =>
  obtain ⟨q,hq,h⟩:=Option.bind_eq_some_iff.1 h
  obtain ⟨_,_,h⟩:=Option.map_eq_some_iff.1 h
  injection h with _ h;injection h with h;injection h with h _
  exact .inr (by rw [←h];exact zix hq)
 case mapEntry =>
  obtain ⟨q,hq,h⟩:=Option.map_eq_some_iff.1 h
  refine .inr ?_
  split at h
  ·injection h with _ h;injection h with h;injection h with h _
   rw [←h];exact zix hq
  ·injection h with _ h;injection h with h;injection h with h _
   rw [←h];exact zix hq
 case entryStore =>
  split at h
  ·split at h
   ·rename_i hi
    obtain ⟨_,_,h⟩:=Option.bind_eq_some_iff.1 h
    obtain ⟨_,_,h⟩:=Option.bind_eq_some_iff.1 h
    split at h
    ·injection h with h;injection h with _ h;injection h with h;injection h with h _
     refine .inr ?_
     rw [←h,hi]
     simp
    ·cases h
   ·cases h
  ·cases h
 case build =>
  obtain ⟨_,_,h⟩:=Option.bind_eq_some_iff.1 h
  obtain ⟨_,_,h⟩:=Option.bind_eq_some_iff.1 h
  obtain ⟨_,_,h⟩:=Option.map_eq_some_iff.1 h
  injection h with _ h
  cases h
 case buildSlice =>
  obtain ⟨_,_,h⟩:=Option.bind_eq_some_iff.1 h
  obtain ⟨_,_,h⟩:=Option.bind_eq_some_iff.1 h
  split at h
  ·obtain ⟨_,_,h⟩:=Option.bind_eq_some_iff.1 h
   injection h with h;injection h with _ h;injection h with h;injection h with h;exact .inl h.symm
  ·cases h
 case load =>
  split at h
  ·split at h
   ·obtain ⟨_,_,h⟩:=Option.map_eq_some_iff.1 h;injection h with _ h;cases h
   ·cases h
  ·obtain ⟨_,_,h⟩:=Option.map_eq_some_iff.1 h;injection h with _ h;cases h
  ·cases h
 case store =>
  split at h
  ·split at h
   ·rename_i cs hcs
    obtain ⟨_,_,h⟩:=Option.bind_eq_some_iff.1 h
    split at h
    ·injection h with h;injection h with _ h;injection h with h;injection h with h
     subst h
     exact .inr (by rw [hcs];simp)
    ·cases h
   ·cases h
  ·cases h
 case nilCheck=>split at h<;>simp at h
 case binOp=>obtain ⟨_,_,h⟩:=Option.map_eq_some_iff.1 h;injection h with _ h;cases h
 case unOp=>split at h<;>simp at h
 case convert=>split at h<;>simp at h
 case fieldAddr=>obtain ⟨_,_,h⟩:=Option.bind_eq_some_iff.1 h;split at h<;>simp at h
 case field =>
  obtain ⟨_,_,h⟩:=Option.bind_eq_some_iff.1 h
  split at h
  ·obtain ⟨_,_,h⟩:=Option.map_eq_some_iff.1 h;injection h with _ h;cases h
  ·cases h
 case indexAddr =>
  obtain ⟨_,_,h⟩:=Option.bind_eq_some_iff.1 h
  split at h
  ·split at h
   ·obtain ⟨_,_,h⟩:=Option.map_eq_some_iff.1 h;injection h with _ h;cases h
   ·cases h
  ·split at h<;>simp at h
  ·obtain ⟨_,_,h⟩:=Option.bind_eq_some_iff.1 h
   split at h<;>simp at h
  ·obtain ⟨_,_,h⟩:=Option.bind_eq_some_iff.1 h
   split at h<;>simp at h
  ·cases h
 case index =>
  obtain ⟨_,_,h⟩:=Option.bind_eq_some_iff.1 h
  obtain ⟨_,_,h⟩:=Option.bind_eq_some_iff.1 h
  split at h
  ·split at h
   ·obtain ⟨_,_,h⟩:=Option.map_eq_some_iff.1 h;injection h with _ h;cases h
   ·cases h
  ·cases h
 case extract =>
  split at h
  ·obtain ⟨_,_,h⟩:=Option.map_eq_some_iff.1 h;injection h with _ h;cases h
  ·cases h
 case slice=>obtain ⟨_,_,h⟩:=Option.map_eq_some_iff.1 h;injection h with _ h;cases h
 case call c =>
  obtain ⟨callee,args,argTypes⟩:=c
  cases callee with
  | value f=>cases h
  | invoke r m=>cases h
  | builtin b =>
   cases b<;>simp only at h<;>try (cases h;done)
   case len=>split at h<;>simp at h
   case min=>obtain ⟨_,_,h⟩:=Option.map_eq_some_iff.1 h;injection h with _ h;cases h
   case max=>obtain ⟨_,_,h⟩:=Option.map_eq_some_iff.1 h;injection h with _ h;cases h
   case clear =>
    split at h
    ·exact zrl h
    ·cases h
   case append =>
    split at h
    ·split at h
     ·rename_i s x t u _ _ _
      split at h
      ·exact zqk h
      unfold zeQ at h
      split at h
      case h_3=>cases h
      case h_2 =>
       split at h
       ·injection h with h;injection h with _ h;injection h with h;injection h with h;exact .inl h.symm
       ·cases h
      split at h
      ·split at h
       ·cases h
       ·cases h
       ·cases h
       ·obtain ⟨_,_,h⟩:=Option.bind_eq_some_iff.1 h
        obtain ⟨_,_,h⟩:=Option.bind_eq_some_iff.1 h
        injection h with h;injection h with _ h;injection h with h;injection h with h;exact .inl h.symm
       ·split at h
        ·obtain ⟨_,_,h⟩:=Option.bind_eq_some_iff.1 h
         injection h with h;injection h with _ h;injection h with h;injection h with h;exact .inl h.symm
        ·cases h
       ·split at h
        ·rename_i hτ
         split at h
         ·injection h with h;injection h with _ h;injection h with h;injection h with h
          subst h
          exact .inr (by rw [hτ];simp)
         ·cases h
        ·cases h
      ·cases h
     ·cases h
    ·cases h
theorem za2.patch {H:zaa} {g new:Nat} {wr:Option (Nat×Blk)} (hf:za2 H g) (hn:new<g) (hw:∀j b,wr=some (j,b)->j=new\/H j≠none):za2 (H.patch wr) g:=by
 intro i hi
 cases wr with
 | none=>exact hf i hi
 | some q =>
  obtain ⟨j,b⟩:=q
  show (H.set j b) i=none
  rw [zaa.set_ne _ _ (fun e=>?_)]
  ·exact hf i hi
  ·rcases hw j b rfl with h | h
   ·omega
   ·exact h (by rw [←e];exact hf i hi)
theorem zql {H:zaa} {new:Nat} {wr:Option (Nat×Blk)} (hw:∀j b,wr=some (j,b)->j=new\/H j≠none) {i:Nat} (hi:i≠new) (h:H i=none):(H.patch wr) i=none:=by
 cases wr with
 | none=>exact h
 | some q =>
  obtain ⟨j,b⟩:=q
  show (H.set j b) i=none
  rw [zaa.set_ne _ _ (fun e=>?_)]
  ·exact h
  ·rcases hw j b rfl with h' | h'
   ·exact hi (e.trans h')
   ·exact h' (by rw [←e];exact h)
def zye (H:zaa) (new g:Nat) (H':zaa) (g':Nat):Prop:=za2 H' g'/\g<=g'/\∀i,i≠new->i<g->H i=none->H' i=none
theorem zrm (first cap:List AV) (v1 v2:Array Value) {G:Gh} {H:zaa} {w:World} {as:List AV} {vs:Array Value}
  (h1:v1.size=first.length) (h2:v2.size=cap.length) (hf:∀(i:Nat) (c:AV) (x:Value),first[i]?=some c->v1[i]?=some x->VR G H w c x)
  (hc:∀(i:Nat) (c:AV) (x:Value),cap[i]?=some c->v2[i]?=some x->VR G H w c x) (ha:VRs G H w as vs):VRs G H w (first++as++cap) (v1++vs++v2):=by
 refine ⟨by simp [h1,h2,ha.1],fun i c x hi hx=>?_⟩
 by_cases q1:i<first.length
 ·rw [List.append_assoc,List.getElem?_append_left q1] at hi
  rw [Array.append_assoc,Array.getElem?_append_left (by omega)] at hx
  exact hf i c x hi hx
 ·by_cases q2:i<first.length+as.length
  ·rw [List.append_assoc,List.getElem?_append_right (by omega),List.getElem?_append_left (by omega)] at hi
   rw [Array.append_assoc,Array.getElem?_append_right (by omega),Array.getElem?_append_left (by have:=ha.1;omega),h1] at hx
   exact ha.2 _ c x hi hx
  ·rw [List.append_assoc,List.getElem?_append_right (by omega),List.getElem?_append_right (by omega)] at hi
   rw [Array.append_assoc,Array.getElem?_append_right (by omega),Array.getElem?_append_right (by have:=ha.1;omega),h1,ha.1] at hx
   exact hc _ c x hi hx
theorem zei (H:zaa) {L:BL} {i:Nat} (h:i∉ids L):(H.puts L) i=H i:=by
 induction L with
 | nil=>rfl
 | cons p L ih =>
  simp only [ids,List.map_cons,List.mem_cons,not_or] at h
  show ((H.puts L).set p.1 _) i=_
  rw [zaa.set_ne _ _ h.1]
  exact ih h.2
theorem zgU (H:zaa) {L:BL} (hn:(ids L).Nodup):Has (H.puts L) L:=by
 induction L with
 | nil=>intro p h;simp at h
 | cons q L ih =>
  intro p h
  simp only [ids,List.map_cons,List.nodup_cons] at hn
  show ((H.puts L).set q.1 _) p.1=_
  rcases List.mem_cons.1 h with rfl | h
  ·exact zaa.set_same _ _ _
  ·rw [zaa.set_ne _ _ (fun e=>hn.1 (by rw [←e];exact List.mem_map_of_mem (f:=(·.1)) h))]
   exact ih hn.2 p h
theorem zhL {H:zaa} {L:BL} {i:Nat} {x:Blk} (h:(H.puts L) i=some x):(i,x)∈L\/(i∉ids L/\H i=some x):=by
 induction L with
 | nil=>exact .inr ⟨by simp [ids],h⟩
 | cons p L ih =>
  rcases zaa.set_cases h with ⟨rfl,hx⟩ | ⟨hne,hx⟩
  ·subst hx;exact .inl (by simp)
  ·rcases ih hx with h1 | ⟨h1,h2⟩
   ·exact .inl (by simp [h1])
   ·exact .inr ⟨by simp [ids];exact ⟨hne,by simpa [ids] using h1⟩,h2⟩
theorem zfP {L:BL} {i:Nat} (h:i∈ids L):∃b,(i,b)∈L:=by
 obtain ⟨p,hp,rfl⟩:=List.mem_map.1 h
 exact ⟨p.2,hp⟩
theorem zg7.ids {L M:BL} (h:zg7 L M):ids L=ids M:=by
 induction L generalizing M with
 | nil=>cases M with
  | nil=>rfl
  | cons q M=>exact h.elim
 | cons p L ih=>cases M with
  | nil=>exact h.elim
  | cons q M=>simp only [AM.ids,List.map_cons,h.1];exact congrArg _ (ih h.2.2)
section
variable {P:Program} {G0:Gh} {H0:zaa} {w0:World} {N:Nat} {ro:Option Nat} {nn:Nat}
theorem zph {f:FuncId} {args:Array Value} {w:World} {R:Ending->World->Prop} (h:Calls P f args w R):CallsIn (FR ro) nn P f args w R:=by
 cases ro with
 | none=>exact callsIn_wide.2 h
 | some l=>exact (show CallsIn Fence.wide nn P f args w R from callsIn_wide.2 h)
theorem zts {l:Nat} {f:FuncId} {tmps:Array Value} {a b:Code} {w:World} {R:Ending->World->Prop} (h:RoundIn Fence.wide nn P l f tmps a b w R):RoundIn (FR ro) nn P l f tmps a b w R:=by
 cases ro with
 | none=>exact h
 | some l=>exact h
theorem zou {strict:Bool} {mu ta:Nat->Bool} {new f:Nat} {as:List AV} {K:AV->zaa->Nat->Prop} {H:zaa} {g:Nat} {G:Gh} {w:World} {vs:Array Value} (h:zeR P strict mu ta new f as K H g)
  (hp:Hp G H w) (hn:H new=none) (hf:za2 H g) (hng:new<g) (ha:VRs G H w as vs) :
  ztg P f/\Calls P f vs w fun e w'=>∃v G' r H' g',e=.returned v/\K r H' g'/\Hp G' H' w'/\Ext G H w G' H' w'/\VR G' H' w' r v/\zye H new g H' g':=by
 rcases h with ⟨r,hs,hk⟩ | ⟨r,b,hs,hk⟩ | ⟨_,hs⟩ | ⟨id,cs,r,ds,_,hid,hs,hk⟩ | ⟨id,d,cs,r,x,_,_,hid,hs,hk⟩
 ·refine ⟨(hs H g hf).1,((hs H g hf).2 G w vs hp ha).mono fun e w' ⟨v,G',he,h1,h2,h3,h4⟩=>⟨v,G',r,H,g,he,hk,h1,h3,h4,h2.1,h2.2.1,fun i _ _ h=>h⟩⟩
 ·refine ⟨hs.1,(hs.2 G H g new w vs hf hn hp ha).mono fun en w' ⟨v,G',he,h1,h2,h3⟩=>⟨v,G',_,_,g,he,hk,h1,h2,h3,?_,Nat.le_refl _,fun i hi _ h=>?_⟩⟩
  ·exact za2.patch hf hng (fun j c h=>.inl (by cases b with | none=>cases h | some x=>(injection h with h;injection h with h;exact h.symm)))
  ·cases b with
   | none=>exact h
   | some x=>exact (zaa.set_ne _ _ hi).trans h
 ·exact ⟨hs.1,(hs.2.2 G w vs hp ha).mono fun e w' ⟨v,G',r,H',g',hk,he,h1,h2,h3,h4⟩=>⟨v,G',r,H',g',he,hk,h1,h3,h4,h2.1,h2.2.1,fun i _ hi h=>h2.2.2 i hi h⟩⟩
 ·exact ⟨(hs H g hf hid).1,((hs H g hf hid).2 G w vs hp ha).mono fun e w' ⟨v,G',he,h1,h2,h3,h4⟩=>⟨v,G',r,_,g,he,hk,h1,h3,h4,h2.1,h2.2.1,fun i _ hi h=>h2.2.2 i hi h⟩⟩
 ·exact ⟨(hs H g hf hid).1,((hs H g hf hid).2 G w vs hp ha).mono fun e w' ⟨v,G',he,h1,h2,h3,h4⟩=>⟨v,G',r,_,g,he,hk,h1,h3,h4,h2.1,h2.2.1,fun i _ hi h=>h2.2.2 i hi h⟩⟩
theorem zrn {o:Oper} {a:Act} {w:World} {t:TypeId} {x:Operand} {b:Bool} (hno:zjS o.op=some (t,x,b)) {ad:Option Addr} {n c:Nat} {e:TypeId} (hun:P.underlying t=some (.slice e)) (hva:a.eval x=.slice ad n c) :
  (execOp a.eval o).run P w=.ok (.value (.bool (ad.isNone==b))) w:=by
 unfold zjS at hno
 split at hno
 ·rename_i t1 x1 t2 hop
  injection hno with hno
  injection hno with h1 hno
  injection hno with h2 h3
  subst h1 h2 h3
  have h1:=Lib.run_eql_slice_nil (P:=P) w t1 e ad n c 0 0 hun
  have h2:a.eval (.const (.slice none 0 0))=.slice none 0 0:=rfl
  have h3:∀op,(eqGuard op t1 x1 (.const (.slice none 0 0)) (.slice ad n c) (.slice none 0 0)).run P w=.ok () w:=fun op=>by cases op<;>simp [eqGuard]
  unfold execOp
  simp only [hop,hva,h2,Sem.run_bind,h3,h1,Result.andThen_ok,Sem.run_pure]
  cases ad<;>rfl
 ·rename_i t1 x1 t2 hop
  injection hno with hno
  injection hno with h1 hno
  injection hno with h2 h3
  subst h1 h2 h3
  have h1:=run_neq_slice_nil_any (P:=P) w t1 e ad n c 0 0 hun
  have h2:a.eval (.const (.slice none 0 0))=.slice none 0 0:=rfl
  have h3:∀op,(eqGuard op t1 x1 (.const (.slice none 0 0)) (.slice ad n c) (.slice none 0 0)).run P w=.ok () w:=fun op=>by cases op<;>simp [eqGuard]
  unfold execOp
  simp only [hop,hva,h2,Sem.run_bind,h3,h1,Result.andThen_ok,Sem.run_pure]
  cases ad<;>rfl
 ·cases hno
theorem zro {o:Oper} {a:Act} {w:World} {G:Gh} {H:zaa} {t:TypeId} {x:Operand} {b:Bool} {v:AV} {K:Bool->Prop} {R:Prop} (hno:zjS o.op=some (t,x,b)) (hsl:isSlice P t=true) (hq:zv1 v K) (hx:VR G H w v (a.eval x))
  (h:∀e:Bool,(execOp a.eval o).run P w=.ok (.value (.bool (e==b))) w->K e->R):R:=by
 obtain ⟨e0,hun⟩:=zic hsl
 unfold zv1 at hq
 split at hq
 ·rename_i tg k es
  generalize hva:a.eval x=vx at hx
  cases hx with
  | sl _ _ _ ad cap b' o' f hcap hs1 ha hc hvv ht =>
   have hr:=zrn (w:=w) hno hun hva
   cases had:ad with
   | none =>
    subst had
    by_cases hne:es=[]
    ·exact h true hr (hq.2 hne)
    ·obtain ⟨_,h1,_⟩:=ha hne
     cases h1
   | some q =>
    subst had
    refine h false hr (hq.1 fun e=>?_)
    subst e
    have ht:Value.slice (some q) es.length cap=.slice none 0 0:=ht
    injection ht with h1
    cases h1
 ·exact hq.elim
theorem zno {lim:Option Nat} {g0:Nat} {ops:Array Oper} {i:Nat} {o:Oper} {K:Fr->zaa->Nat->Prop} {fr:Fr} {H:zaa} {g:Nat} {a:Act} {w:World}
  {C:Act->World->Prop} {Q:Exit->Act->World->Prop} (h:opQ P N lim g0 ops i o K fr H g) (S:Sim G0 H0 w0 N fr H a w) (hn:H (g0+i)=none) (hf:za2 H g) (hng:g0+i<g)
  (hK:∀fr' H' g' a' w',K fr' H' g'->Sim G0 H0 w0 N fr' H' a' w'->zye H (g0+i) g H' g'->C a' w'):o.wpIn (FR ro) nn P a w C Q:=by
 obtain ⟨G,hp,hE,hd,hs,hv⟩:=S
 have hρ:=fun x=>zot hv x
 have plain':∀r wr,zre P G H w o a.eval r wr->(∀j b,wr=some (j,b)->j=g0+i\/H j≠none)->(∀c,o.op≠.defer c)->K (fr.put N o.dst r) (H.patch wr) g->o.wpIn (FR ro) nn P a w C Q:=fun r wr he hw hdf hk=>by
  obtain ⟨v,w',G',hr,hp',hE',hvr⟩:=he
  have S':=Sim.put hE hd hs hv hp' hE' hvr o.dst
  have hC:=hK _ _ _ _ _ hk S' ⟨za2.patch hf hng hw,Nat.le_refl _,fun k hk _ h=>zql hw hk h⟩
  refine ⟨fun _ _=>trivial,?_⟩
  rw [Oper.semAt_eq _ _ _ hdf]
  rcases hr with hr | ⟨hr,rfl⟩
  ·rw [hr];exact hC
  ·rw [hr];exact hC
 have plain:∀r wr,zat P (g0+i) o.op (fr.ev N) H=some (r,wr)->K (fr.put N o.dst r) (H.patch wr) g->o.wpIn (FR ro) nn P a w C Q:=fun r wr he hk =>
  plain' r wr (zkt (o:=o) hp hn hρ he) (fun j b (e:wr=some (j,b))=>zpg (e▸he)) (fun c hc=>by rw [hc] at he;cases he) hk
 have lin:(zpc P (g0+i) o.op (fr.ev N) H fun r H'=>K (fr.put N o.dst r) H' g)->o.wpIn (FR ro) nn P a w C Q:=fun h=>by
  obtain ⟨r,H',⟨v,w',G',hr,hp',hE',hvr⟩,hw,hdf,hk⟩:=zqj (o:=o) hp hn hρ h
  have hC:=hK _ _ _ _ _ hk (Sim.put hE hd hs hv hp' hE' hvr o.dst) ⟨fun j hj=>hw j (by omega) (hf j hj),Nat.le_refl _,fun j hne _ h0=>hw j hne h0⟩
  refine ⟨fun _ _=>trivial,?_⟩
  rw [Oper.semAt_eq _ _ _ hdf,hr]
  exact hC
 unfold opQ at h
 split at h
 ·rename_i f args hco
  obtain ⟨argTypes,hop⟩:∃ts,o.op=.call { callee:=.value f,args:=args,argTypes:=ts }:=by
   unfold zbz at hco
   split at hco
   ·rename_i f' args' ts hop
    injection hco with hco
    injection hco with h1 h2
    subst h1 h2
    exact ⟨ts,hop⟩
   ·cases hco
  split at h
  ·rename_i k first cap htgt
   have hfn:=hρ f
   generalize hfa:fr.ev N f=fa at htgt hfn
   generalize hfv:a.eval f=fv at hfn
   unfold tgt at htgt
   split at htgt
   ·rename_i kk ff cc
    injection htgt with htgt
    injection htgt with e1 htgt
    injection htgt with e2 e3
    subst e1 e2 e3
    cases hfn with
    | fn _ _ _ v1 v2 h1 h2 h3 h4 =>
     have hall:=zrm _ _ v1 v2 h1 h2 h3 h4 (VRs.mk hρ args)
     obtain ⟨⟨fn,code,hfun,hbody,hname⟩,hc⟩:=zou h hp hn hf hng hall
     refine ⟨fun _ _=>trivial,?_⟩
     rw [Oper.semAt_eq _ _ _ (fun c hc=>by rw [hop] at hc;cases hc)]
     have hrun:(execOp a.eval o).run P w=(callFunc kk (v1++args.map a.eval++v2)).run P w:=by
      simp only [execOp,hop,resolve,hfv,Deferred.ofValue,Sem.run_bind,Sem.run_pure,Result.andThen_ok,invoke]
     have hcall:(callFunc kk (v1++args.map a.eval++v2)).run P w=.ok (.enter kk (v1++args.map a.eval++v2)) w:=by
      simp [callFunc,hfun,hname,hbody]
     rw [hrun,hcall,Oper.uponIn_enter]
     refine ⟨fun h=>by simp [FR,Fence.wide] at h,zph (hc.mono fun e w' ⟨v,G',r,H',g',he,hk,hp',hE',hvr,hon⟩=>?_)⟩
     subst he
     exact hK _ _ _ _ _ hk (Sim.put hE hd hs hv hp' hE' hvr o.dst) hon
   ·cases htgt
  ·obtain ⟨hlim,q,M,r,M',hy,⟨hkin,hys⟩,hhas,hk⟩:=h
   have hfn:=hρ f
   generalize hfa:fr.ev N f=fa at hy hfn
   generalize hfv:a.eval f=fv at hfn
   cases fa with
   | yld i' ts cs =>
    injection hy with hy
    subst hy
    have hv0:VR G H w (.yld i' ts cs) (.func (.yield (G.φ i')) #[] #[])/\fv=.func (.yield (G.φ i')) #[] #[]:=by
     cases hfn with
     | yld _ _ _ q' p' h1 h2=>exact ⟨.yld i' ts cs q' p' h1 h2,rfl⟩
    obtain ⟨hv0,rfl⟩:=hv0
    ·obtain ⟨lp,hlp,hsz,hrd⟩:=hys (nn-1) G H g w (args.map a.eval) hf hhas hp hv0 (VRs.mk hρ args)
     refine ⟨fun _ _=>trivial,?_⟩
     rw [Oper.semAt_eq _ _ _ (fun c hc=>by rw [hop] at hc;cases hc)]
     have hrun:(execOp a.eval o).run P w=(Instr.yield (G.φ i') (args.map a.eval)).run P w:=by
      simp only [execOp,hop,resolve,hfv,Deferred.ofValue,Sem.run_bind,Sem.run_pure,Result.andThen_ok,invoke,Array.empty_append,Array.append_empty]
     rw [hrun,run_yield hlp hsz,Oper.uponIn_round]
     refine ⟨fun h=>by simp [FR,Fence.wide] at h,RoundIn.mono (zts hrd) fun e w' ⟨v,G',he,hp',hE',hvr⟩=>?_⟩
     subst he
     refine hK _ _ _ _ _ hk (Sim.put hE hd hs hv hp' hE' hvr o.dst) ⟨fun j hj=>?_,Nat.le_refl _,fun j _ _ hj=>?_⟩
     ·rw [zei]
      ·exact hf j hj
      ·intro hm
       obtain ⟨b,hb⟩:=zfP (by rw [hkin.ids];exact hm)
       have:=hhas _ hb
       rw [hf j hj] at this
       cases this
     ·rw [zei]
      ·exact hj
      ·intro hm
       obtain ⟨b,hb⟩:=zfP (by rw [hkin.ids];exact hm)
       have:=hhas _ hb
       rw [hj] at this
       cases this
   | _=>cases hy
 ·split at h
  ·split at h
   ·rename_i r wr he
    rcases h with h | ⟨_,⟨r',hle,h⟩ | h⟩
    ·exact plain r wr he h
    ·refine plain' r' wr ?_ (fun j b (e:wr=some (j,b))=>zpg (e▸he)) (fun c hc=>by rw [hc] at he;cases he) h
     obtain ⟨v,w',G',q1,q2,q3,q4⟩:=zkt (o:=o) hp hn hρ he
     exact ⟨v,w',G',q1,q2,q3,q4.le hle⟩
    ·exact lin h
   ·split at h
    ·split at h
     ·rename_i t x b hno
      exact zro hno h.1 h.2 (hρ x) fun e hr hk=>by
       have hC:=hK _ _ _ _ _ hk (Sim.put hE hd hs hv hp (.refl _ _ _) (.v (.bool (e==b))) o.dst) ⟨hf,Nat.le_refl _,fun _ _ _ h=>h⟩
       refine ⟨fun _ _=>trivial,?_⟩
       rw [Oper.semAt_eq _ _ _ (fun c hc=>by rw [hc] at hno;cases hno),hr]
       exact hC
     ·rcases h with h | h
      ·obtain ⟨r,wr,he,hw,hdf,hk⟩:=zrk (o:=o) hp hn hρ h
       exact plain' r wr he hw hdf hk
      ·exact lin h
    ·exact h.elim
  ·obtain ⟨_,r,wr,he,hk⟩:=h
   exact plain r wr he hk
theorem zrp {ops:Array Oper} {fr:Fr} {a:Act} {G:Gh} {H:zaa} {w:World} (hs:a.tmps.size=N) (hv:∀t,t<N->VR G H w (fr t) (a.tmps.getD t undef)) {j:Nat} {b:Option Bool} (h:gd ops N fr j=some b):yielded ops a.tmps j=b:=by
 unfold gd at h
 split at h
 ·rename_i d hd
  split at h
  ·rename_i b' hb
   injection h with h
   subst h
   have hx:=zot hv (.tmp d)
   rw [hb] at hx
   have hval:a.tmps.getD d undef=.bool b':=zmd hx
   have hdN:d<N:=by
    rcases Nat.lt_or_ge d N with h | h
    ·exact h
    ·rw [show fr.ev N (.tmp d)=.any from if_neg (Nat.not_lt.2 h)] at hb
     cases hb
   have:a.tmps[d]?=some (.bool b'):=by
    have hds:d<a.tmps.size:=by rw [hs];exact hdN
    rw [Array.getD_eq_getD_getElem?,Array.getElem?_eq_getElem hds] at hval
    rw [Array.getElem?_eq_getElem hds]
    simpa using hval
   simp [yielded,hd,this]
  ·rename_i hb
   injection h with h
   subst h
   have hx:=zot hv (.tmp d)
   rw [hb] at hx
   have hval:a.tmps.getD d undef=.tuple #[]:=by
    change VR G H w _ (a.tmps.getD d undef) at hx
    generalize a.tmps.getD d undef=x at hx
    cases hx with
    | tup _ vs hl _=>simp at hl;rw [hl]
   have hdN:d<N:=by
    rcases Nat.lt_or_ge d N with h | h
    ·exact h
    ·rw [show fr.ev N (.tmp d)=.any from if_neg (Nat.not_lt.2 h)] at hb
     cases hb
   have:a.tmps[d]?=some (.tuple #[]):=by
    have hds:d<a.tmps.size:=by rw [hs];exact hdN
    rw [Array.getD_eq_getD_getElem?,Array.getElem?_eq_getElem hds] at hval
    rw [Array.getElem?_eq_getElem hds]
    simpa using hval
   simp [yielded,hd,this]
  ·cases h
 ·cases h
theorem zkv {lim:Option Nat} {g0:Nat} {ops:Array Oper} {i:Nat} {o:Oper} (ho:ops[i]?=some o) {K:Fr->zaa->Nat->Prop} {fr:Fr} {H:zaa} {g:Nat} {a:Act} {w:World}
  {C:Act->World->Prop} {Q:Exit->Act->World->Prop} (h:zbs P N lim g0 ops i o K fr H g) (S:Sim G0 H0 w0 N fr H a w) (hn:H (g0+i)=none) (hf:za2 H g) (hng:g0+i<g)
  (hK:∀fr' H' g' a' w',K fr' H' g'->Sim G0 H0 w0 N fr' H' a' w'->zye H (g0+i) g H' g'->C a' w'):wpOpIn (FR ro) nn P ops Q i C a w:=by
 unfold wpOpIn
 simp only [ho]
 unfold zbs at h
 cases hg:o.guard with
 | none =>
  simp only [hg] at h
  rw [if_pos (by simp [Region.wanted,hg])]
  exact zno h S hn hf hng hK
 | some q =>
  obtain ⟨j,want⟩:=q
  simp only [hg] at h
  cases hb:gd ops N fr j with
  | none=>simp [hb] at h
  | some b =>
   simp only [hb] at h
   have hy:yielded ops a.tmps j=b:=by
    obtain ⟨G,hp,hE,hd,hs,hv⟩:=S
    exact zrp hs hv hb
   by_cases hbw:b=some want
   ·rw [if_pos (by simp [Region.wanted,hg,hy,hbw])]
    rw [if_pos hbw] at h
    exact zno h S hn hf hng hK
   ·rw [if_neg (by simp [Region.wanted,hg,hy,hbw])]
    rw [if_neg hbw] at h
    obtain ⟨G,hp,hE,hd,hs,hv⟩:=S
    exact ⟨fun _ _=>trivial,hK _ _ _ _ _ h (Sim.put hE hd hs hv hp (.refl _ _ _) (.tup [] #[] rfl fun i c x h=>by simp at h) o.dst) ⟨hf,Nat.le_refl _,fun _ _ _ h=>h⟩⟩
theorem zlM {g0:Nat} {ops:Array Oper} {K:Fr->zaa->Nat->Prop} {Q:Exit->Act->World->Prop}
  (hK:∀fr' H' g' a' w',K fr' H' g'->Sim G0 H0 w0 N fr' H' a' w'->za2 H' g'->Q .normal a' w') :
  ∀(n i:Nat) (fr:Fr) (H:zaa) (g:Nat) (a:Act) (w:World),ops.size=i+n->zaL P N none g0 ops K i (ops.toList.drop i) fr H g->Sim G0 H0 w0 N fr H a w->za2 H g->g0+ops.size<=g ->
   (∀j,i<=j->j<ops.size->H (g0+j)=none)->wpOpsIn (FR ro) nn P ops Q (List.range' i n) a w
 | 0,i,fr,H,g,a,w,hn,h,S,hf,hg,hj=>by
  rw [List.drop_eq_nil_of_le (by simp;omega)] at h
  exact hK _ _ _ _ _ h S hf
 | n+1,i,fr,H,g,a,w,hn,h,S,hf,hg,hj=>by
  have hi:i<ops.toList.length:=by simp;omega
  rw [List.drop_eq_getElem_cons hi] at h
  simp only [zaL] at h
  have ho:ops[i]?=some ops.toList[i]:=by simp at hi;simp [hi]
  rw [List.range'_succ,wpOpsIn_cons]
  refine zkv ho h S (hj i (Nat.le_refl _) (by omega)) hf (by omega) fun fr' H' g' a' w' hk S' hon=>?_
  exact zlM hK n (i+1) fr' H' g' a' w' (by omega) hk S' hon.1 (Nat.le_trans hg hon.2.1) fun j h1 h2=>hon.2.2 _ (by omega) (by omega) (hj j (by omega) h2)
end
end Go.AM
