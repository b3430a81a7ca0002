/-
  The rows: arguments of any shape, and the contract that a row asks for.
  Conditions: none; it speaks of any program.
-/
import Derived.Test.YtchhkifidbkjcaaAmT
import Derived.RowKit3
set_option linter.all false
namespace Go.AM
open Go Go.RowKit Go.WideShapes Go.ChangeShapes
section
variable {T:Type} {enc:TypeId×Value->T} {P:Program}
def zrL (enc:TypeId×Value->T) (P:Program) (t:TypeId) {α:Type} (g:α->AV) (wf:α->Prop):Prop :=
 ∀(G:Gh) (w:World) (base:Nat) (sp:Nat->Bool) (held:Bool) (b0:Nat) (v:Value) (d:DataW T) (p:List MemPlace),Value.okWide P w .any b0 t v->DataW.Trod enc P w base sp held t v d p->∃a,wf a/\VR G HE w (g a) v
theorem zlX {t:TypeId} {fl:List (Nat×TypeId)} {α:Type} {f:α->List AV} {wf:α->Prop} (ht:structOf P t=some fl) (hR:Reads enc P t f wf):zrL enc P t (fun a=>.agg (f a)) wf:=by
 intro G w base sp held b0 v d p hv hd
 obtain ⟨fs,hfs⟩:=zrK ht
 obtain ⟨cs,rfl,_⟩:=okWide_struct hfs hv
 exact zu3 hR G hd
theorem zrM {t e:TypeId} {k:Nat} {α:Type} {f:α->List AV} {wf:List α->Prop} (ht:P.underlying t=some (.slice e)) (hR:Reads enc P t (cL k f) wf):zrL enc P t (fun as=>.sl .no k (as.map f)) wf:=by
 intro G w base sp held b0 v d p hv hd
 obtain ⟨a,len,cap,rfl⟩:=okWide_slice ht hv
 obtain ⟨fuel,hf⟩:=hd
 obtain ⟨as,h1,h2,h3⟩:=hR G w base sp held fuel _ _ hf
 exact ⟨as,h1,(h3 0 _ _ rfl rfl).1⟩
def ztF (enc:TypeId×Value->T) (P:Program) (ts:List TypeId) {α:Type} (g:α->List AV) (wf:α->Prop):Prop :=
 ∀(G:Gh) (w:World) (base:Nat) (sp:Nat->Bool) (held:Bool) (b0:Nat) (vs:List Value) (ds:List (DataW T)) (p:List MemPlace),
  (∀(j:Nat) t v,ts[j]?=some t->vs[j]?=some v->Value.okWide P w .any b0 t v)->DataW.TrodAll enc P w base sp held ts vs ds p ->
  ∃a,wf a/\vs.length=(g a).length/\ds.length=ts.length/\∀(i:Nat) (c:AV) (v:Value),(g a)[i]?=some c->vs[i]?=some v->VR G HE w c v
theorem zrN:ztF enc P [] (fun _:Unit=>[]) (fun _=>True):=by
 intro G w base sp held b0 vs ds p _ h
 obtain ⟨rfl,rfl,_⟩:=trodAll_nil h
 exact ⟨(),trivial,rfl,rfl,fun i c v h=>by simp at h⟩
theorem zjh {t:TypeId} {ts:List TypeId} {α β:Type} {g:α->AV} {h:β->List AV} {wf:α->Prop} {wh:β->Prop} (h1:zrL enc P t g wf) (h2:ztF enc P ts h wh) :
  ztF enc P (t::ts) (fun q:α×β=>g q.1::h q.2) (fun q=>wf q.1/\wh q.2):=by
 intro G w base sp held b0 vs ds p hv hd
 obtain ⟨v,vs',d,ds',p,q,rfl,rfl,rfl,hd1,hd2⟩:=trodAll_cons hd
 obtain ⟨a,a1,a2⟩:=h1 G w base sp held b0 v d p (hv 0 t v rfl rfl) hd1
 obtain ⟨b,b1,b2,b3,b4⟩:=h2 G w base sp held b0 vs' ds' q (fun j t' v' hj hj'=>hv (j+1) t' v' hj hj') hd2
 refine ⟨(a,b),⟨a1,b1⟩,by simp [b2],by simp [b3],fun i c x hc hx=>?_⟩
 cases i with
 | zero=>simp at hc hx;subst hc hx;exact a2
 | succ i=>exact b4 i c x (by simpa using hc) (by simpa using hx)
theorem zrO {k:FuncId} {f:Func} {s:ChangeSpec} {α:Type} {g:α->List AV} {wf:α->Prop} {W:World} {base:Nat} {args:Array Value} {ds gs:List (DataW T)} {before:List MemPlace} {tb:TypeId} {apart fresh handsOn again:Bool}
  (hK:Kids P (·<P.types.size)) (hF:∀t e,t<P.types.size->P.underlying t=some (.slice e)->0<P.cellsOf e) (hts:∀t∈f.params.toList,t<P.types.size)
  (hr:f.resultTypes.toList=[tb]) (htb:P.underlying tb=some .bool) (hvars:s.vars=[])
  (hs:∀ds:List (DataW T),ds.length=f.params.toList.length->(s.fn T ds).results=[.lit (.bool true)]/\(s.fn T ds).args=ds/\(s.fn T ds).vars=[])
  (hA:ztF enc P f.params.toList g wf) (law:∀a,wf a->zaR P k (g a) (.v (.bool true)))
  (hval:∀(j:Nat) t v,f.params[j]?=some t->args[j]?=some v->Value.okWide P W .any base t v)
  (hW:DataW.Whole enc P f.params.toList s.vars apart W args.toList ds gs before) :
  Calls P k args W fun e W'=>∃v,e=.returned v/\s.post enc P f apart fresh handsOn again W args v W':=by
 have hW':=hW
 obtain ⟨p,q,hA0,hV,rfl,_,_⟩:=hW
 rw [hvars] at hV
 obtain ⟨rfl,rfl⟩:=trodVars_none hV
 let G:Gh:=⟨fun _=>0,fun _=>undef,fun _=>0,0⟩
 obtain ⟨a,a1,a2,a3,a4⟩:=hA G W 0 (fun _=>true) true base args.toList ds p (fun j t v h1 h2=>hval j t v (by simpa using h1) (by simpa using h2)) hA0
 have hcall:=zmr (law a a1) (G:=G) (w:=W) (vs:=args) ⟨by simpa using a2,fun i c x hc hx=>a4 i c x hc (by simpa using hx)⟩
 refine hcall.mono fun e W' ⟨he,hb⟩=>?_
 refine ⟨_,he,?_⟩
 obtain ⟨s1,s2,s3⟩:=hs ds a3
 have hlt:∀x∈p++[],x.block<W.heap.size:=fun x hx=>hW'.lt x hx
 have hsz:f.resultTypes.size=1:=by rw [←Array.length_toList,hr];rfl
 refine zms (pa:=p) (pv:=[]) hW' (fun _ _ _=>?_) (fun sp hsp=>?_) (fun sp _=>?_) rfl hb ?_
 ·rw [List.append_nil,s1,hr,hsz]
  exact trodAll_mk1 (shut_bool htb true)
 ·rw [List.append_nil,s2]
  exact DataW.TrodAll.respare hK hF hts (zmt hb hA0 fun x hx=>hlt x (by simpa using hx)) (fun x hx=>hsp x (by simpa using hx))
 ·rw [List.append_nil,s3,hvars]
  rfl
 ·intro j t r hj hv
  have hr':f.resultTypes=#[tb]:=by rw [←Array.toArray_toList (xs:=f.resultTypes),hr]
  rw [hr'] at hj hv
  match j with
  | 0 =>
   simp at hj
   subst hj
   have:r=.bool true:=by simpa [Value.resultList] using hv.symm
   subst this
   exact okWide_bool_mk htb true
  | j+1=>simp at hj
end
end Go.AM
