/-
  The abstract machine: what the operations compute: numbers, comparisons, slices, literals, append.
  Conditions: none; it speaks of any program.
-/
import Derived.Test.YtchhkifidbkjcaaAmD
set_option linter.all false
namespace Go.AM
open Go Go.RowKit
section
variable {P:Program} {G:Gh} {H:zaa} {w:World}
theorem zmd {x v:Value} (h:VR G H w (.v x) v):v=x:=by cases h;rfl
theorem zp7 {op:BinOp} {k:IntKind} {a b:Int} {r:AV} (t:TypeId) (h:ziu op k a b=some r):∃v,(binOp op t (.int k a) (.int k b)).run P w=.ok v w/\VR G H w r v:=by
 cases op<;>simp only [ziu] at h
 case quo =>
  split at h
  ·cases h
  ·rename_i hb
   injection h with h;subst h
   exact ⟨_,by simp [binOp,Op.intDiv,hb],.v _⟩
 case rem =>
  split at h
  ·cases h
  ·rename_i hb
   injection h with h;subst h
   exact ⟨_,by simp [binOp,Op.intDiv,hb],.v _⟩
 case and=>injection h with h;subst h;exact ⟨_,by simp [binOp,Op.intBits],.v _⟩
 case or=>injection h with h;subst h;exact ⟨_,by simp [binOp,Op.intBits],.v _⟩
 all_goals first
  | (injection h with h;subst h;exact ⟨_,by simp [binOp,Op.intArith,Op.intCmp],.v _⟩)
  | cases h
theorem zp8 {op:BinOp} {k k':IntKind} {a b:Int} {r:AV} (t:TypeId) (h:znb op k a b=some (some r)):∃v,(binOp op t (.int k a) (.int k' b)).run P w=.ok v w/\VR G H w r v:=by
 unfold znb at h
 split at h
 ·injection h with h
  split at h
  ·rename_i hb
   injection h with h
   subst h
   exact ⟨_,by simp [binOp,Op.shift,Int.not_lt.2 hb],.v _⟩
  ·cases h
 ·injection h with h
  split at h
  ·rename_i hb
   injection h with h
   subst h
   exact ⟨_,by simp [binOp,Op.shift,Int.not_lt.2 hb],.v _⟩
  ·cases h
 ·cases h
theorem zp9 {t:TypeId} (h:isBool P t=true):P.underlying t=some .bool:=by
 unfold isBool at h
 split at h
 ·assumption
 ·cases h
theorem zkl {t:TypeId} {k:IntKind} (h:intKind P t=some k):P.underlying t=some (.int k):=by
 unfold intKind at h
 split at h
 ·rename_i k' hk
  injection h with h
  subst h
  exact hk
 ·cases h
theorem zhf:∀(cs ds:List AV) (r:Bool),zbd cs ds=some r->cs.length=ds.length
 | [],[],_,_=>rfl
 | [],_::_,_,h=>by simp [zbd] at h
 | c::cs,[],_,h=>by cases c<;>simp [zbd] at h
 | c::cs,d::ds,r,h=>by
  cases c<;>try (simp [zbd] at h;done)
  rename_i cx
  cases cx<;>try (simp [zbd] at h;done)
  cases d<;>try (simp [zbd] at h;done)
  rename_i ex
  cases ex<;>try (simp [zbd] at h;done)
  simp only [zbd] at h
  split at h
  ·obtain ⟨r',hr',_⟩:=Option.map_eq_some_iff.1 h
   simp [zhf cs ds r' hr']
  ·cases h
theorem zgR:∀(k:Nat) (cs ds:List AV) (r:Bool),zbd cs ds=some r->k<=cs.length->∃r1 r2,zbd (cs.take k) (ds.take k)=some r1/\zbd (cs.drop k) (ds.drop k)=some r2/\r=(r1&&r2)
 | 0,cs,ds,r,h,_=>⟨true,r,by simp [zbd],by simpa using h,by simp⟩
 | k+1,[],_,_,_,hk=>by simp at hk
 | k+1,c::cs,[],r,h,_=>by cases c<;>simp [zbd] at h
 | k+1,c::cs,d::ds,r,h,hk=>by
  cases c<;>try (simp [zbd] at h;done)
  rename_i cx
  cases cx<;>try (simp [zbd] at h;done)
  cases d<;>try (simp [zbd] at h;done)
  rename_i ex
  cases ex<;>try (simp [zbd] at h;done)
  simp only [zbd] at h
  split at h
  ·rename_i hkk
   obtain ⟨r',hr',rfl⟩:=Option.map_eq_some_iff.1 h
   obtain ⟨r1,r2,h1,h2,rfl⟩:=zgR k cs ds r' hr' (by simpa using hk)
   exact ⟨_,r2,by simp only [List.take_succ_cons,zbd,if_pos hkk,h1];rfl,by simpa using h2,by simp [Bool.and_assoc]⟩
  ·cases h
theorem zjC {t:TypeId} {k:Nat} (h:zar P t=some k):∃i,P.info? t=some i/\P.cellsOf t=k:=by
 unfold zar at h
 obtain ⟨i,hi,rfl⟩:=Option.map_eq_some_iff.1 h
 exact ⟨i,hi,by simp [Program.cellsOf,hi]⟩
def Cl (P:Program) (G:Gh) (H:zaa) (w:World) (t:TypeId) (cs:List AV) (x:Value):Prop :=
 ((∃k,P.underlying t=some (.int k))/\∃c,cs=[c]/\VR G H w c x)\/((∀k,P.underlying t≠some (.int k))/\∃xs,x=.agg xs/\xs.size=cs.length/\∀(j:Nat) (c:AV) (v:Value),cs[j]?=some c->xs[j]?=some v->VR G H w c v)
theorem zqa {d:Nat} {t:TypeId} {n:Nat} (h:zdY P d t=some n):(∃k,P.underlying t=some (.int k)/\n=1)\/(∃m e,P.underlying t=some (.array m e))\/∃fs,P.underlying t=some (.struct fs):=by
 cases d with
 | zero=>simp [zdY] at h
 | succ d =>
  unfold zdY at h
  split at h
  ·rename_i k hu
   injection h with h
   exact .inl ⟨k,hu,h.symm⟩
  ·rename_i m e hu
   exact .inr (.inl ⟨m,e,hu⟩)
  ·rename_i fs hu
   exact .inr (.inr ⟨fs,hu⟩)
  ·cases h
theorem zgS {d:Nat} {t:TypeId} {k off:Nat} {cs:List AV} {xs:Array Value} (hd:zdY P d t=some k) (hv:zar P t=some k) (hl:xs.size=cs.length) (ho:off+k<=cs.length)
  (hc:∀(j:Nat) (c:AV) (v:Value),cs[j]?=some c->xs[j]?=some v->VR G H w c v):∃a,(part t xs off).run P w=.ok a w/\Cl P G H w t ((cs.drop off).take k) a:=by
 obtain ⟨i,hi,hk⟩:=zjC hv
 have agg:(∃m e,P.underlying t=some (.array m e))\/(∃fs,P.underlying t=some (.struct fs))->∃a,(part t xs off).run P w=.ok a w/\Cl P G H w t ((cs.drop off).take k) a:=fun hu=>by
  refine ⟨.agg (xs.extract off (off+k)),?_,.inr ⟨fun k' e=>?_,_,rfl,?_,fun j c v hc1 hv1=>?_⟩⟩
  ·rcases hu with ⟨m,e,hu⟩ | ⟨fs,hu⟩<;>simp [part,isAgg,run_underlying hu,run_sizeOf w hi,hk]
  ·rcases hu with ⟨m,e',hu⟩ | ⟨fs,hu⟩<;>rw [hu] at e<;>cases e
  ·simp;omega
  ·rw [List.getElem?_take] at hc1
   split at hc1
   ·rename_i hj
    rw [List.getElem?_drop] at hc1
    refine hc (off+j) c v hc1 ?_
    have:off+j<xs.size:=by omega
    rw [←hv1,Array.getElem?_extract]
    rw [if_pos (by omega)]
   ·cases hc1
 rcases zqa hd with ⟨q,hu,rfl⟩ | hu | hu
 ·have ho':off<cs.length:=by omega
  have hx:xs[off]?=some (xs[off]'(by omega)):=Array.getElem?_eq_getElem _
  refine ⟨_,?_,.inl ⟨⟨q,hu⟩,cs[off],?_,hc off _ _ (List.getElem?_eq_getElem ho') hx⟩⟩
  ·have hrow:TypeDesc.isRow (.int q)=false:=rfl
   unfold part
   rw [Sem.run_bind,ziv hu,hrow]
   simp [hx]
  ·rw [List.drop_eq_getElem_cons ho']
   rfl
 ·exact agg (.inl hu)
 ·exact agg (.inr hu)
theorem znh {P : Program} {d : Nat} : ∀ (fs : List Field) (off n : Nat), fs.foldlM (fun off f => (zdY P d f.type).bind fun k => if f.name != "_" && f.offset == off && zar P f.type == some k then some (off + k) else none) off = some n -> off <= n
 | [],off,n,h=>by simp at h;omega
 | f::fs,off,n,h=>by
  simp only [List.foldlM_cons,bind,Option.bind_eq_some_iff] at h
  obtain ⟨o,⟨k,hk,h1⟩,h2⟩:=h
  split at h1
  ·injection h1 with h1
   have:=znh fs o n h2
   omega
  ·cases h1
theorem zpd:∀(m:Nat) (t:TypeId) (n d:Nat) (x y:Value) (cs ds:List AV) (r:Bool),zdY P m t=some n->cs.length=n->Cl P G H w t cs x->Cl P G H w t ds y->zbd cs ds=some r->(Op.equalIn (d+m) t x y).run P w=.ok r w
 | 0,t,n,d,x,y,cs,ds,r,h,_,_,_,_=>by simp [zdY] at h
 | m+1,t,n,d,x,y,cs,ds,r,h,hl,hx,hy,he=>by
  have IH:=zpd m
  have hlen:=he
  unfold zdY at h
  split at h
  ·rename_i q hu
   rcases hx with ⟨_,c,rfl,hc⟩ | ⟨hn,_⟩
   ·rcases hy with ⟨_,e,rfl,he'⟩ | ⟨hn,_⟩
    ·cases c<;>try (simp [zbd] at he;done)
     rename_i cx
     cases cx<;>try (simp [zbd] at he;done)
     rename_i k1 a
     cases e<;>try (simp [zbd] at he;done)
     rename_i ex
     cases ex<;>try (simp [zbd] at he;done)
     rename_i k2 b
     simp only [zbd] at he
     split at he
     ·rename_i hkk
      subst hkk
      rw [zmd hc,zmd he']
      simp only [Option.map_some,Option.some.injEq] at he
      subst he
      rw [show d+(m+1)=(d+m)+1 by omega,run_equalIn_int w (d+m) t k1 q a b hu]
      simp
     ·cases he
    ·exact absurd hu (hn q)
   ·exact absurd hu (hn q)
  ·rename_i n' e hu
   rcases hx with ⟨⟨q,hq⟩,_⟩ | ⟨_,xs,rfl,hxs,hxc⟩
   ·rw [hu] at hq;cases hq
   rcases hy with ⟨⟨q,hq⟩,_⟩ | ⟨_,ys,rfl,hys,hyc⟩
   ·rw [hu] at hq;cases hq
   obtain ⟨k,hk,h⟩:=Option.bind_eq_some_iff.1 h
   split at h
   ·rename_i hv
    injection h with h
    subst h
    obtain ⟨i,hi,hck⟩:=zjC hv
    rw [show d+(m+1)=(d+m)+1 by omega,run_equalIn_array w (d+m) xs ys hu hi,hck]
    have key:∀(c j:Nat) (cs1 ds1:List AV) (r1:Bool),j+c=n'->cs1=cs.drop (j*k)->ds1=ds.drop (j*k)->zbd cs1 ds1=some r1->(Op.eqItems (d+m) e k xs ys (List.range' j c)).run P w=.ok r1 w:=by
     intro c
     induction c with
     | zero =>
      intro j cs1 ds1 r1 hj h1 h2 h3
      have hj':j=n':=by omega
      rw [hj',List.drop_eq_nil_of_le (by omega)] at h1
      subst h1
      cases ds1 with
      | nil=>simp only [zbd] at h3;injection h3 with h3;subst h3;simp [Op.eqItems]
      | cons=>simp [zbd] at h3
     | succ c ih =>
      intro j cs1 ds1 r1 hj h1 h2 h3
      have hdl:=hys
      have hjk:j*k+k<=n'*k:=by
       have:(j+1)*k<=n'*k:=Nat.mul_le_mul_right _ (by omega)
       rwa [Nat.add_mul,Nat.one_mul] at this
      have hcd:=zhf _ _ _ hlen
      obtain ⟨ra,rb,e1,e2,rfl⟩:=zgR k cs1 ds1 r1 h3 (by rw [h1,List.length_drop];omega)
      obtain ⟨a,p1,c1⟩:=zgS (w:=w) (off:=j*k) hk hv hxs (by omega) hxc
      obtain ⟨b,p2,c2⟩:=zgS (w:=w) (off:=j*k) hk hv hys (by omega) hyc
      rw [h1] at e1 e2
      rw [h2] at e1 e2
      have p3:=IH e k d a b _ _ ra hk (by rw [List.length_take,List.length_drop];omega) c1 c2 e1
      have p4:=ih (j+1) _ _ rb (by omega) rfl rfl (by
       rw [List.drop_drop,List.drop_drop] at e2
       rw [Nat.add_mul,Nat.one_mul]
       exact e2)
      simp only [List.range'_succ,Op.eqItems,Sem.run_bind,p1,p2,p3,Result.andThen_ok,Sem.run_ite,Sem.run_pure,p4]
      cases ra<;>simp
    rw [List.range_eq_range']
    exact key n' 0 cs ds r (by omega) (by simp) (by simp) he
   ·cases h
  ·rename_i fs hu
   rcases hx with ⟨⟨q,hq⟩,_⟩ | ⟨_,xs,rfl,hxs,hxc⟩
   ·rw [hu] at hq;cases hq
   rcases hy with ⟨⟨q,hq⟩,_⟩ | ⟨_,ys,rfl,hys,hyc⟩
   ·rw [hu] at hq;cases hq
   split at h
   ·cases h
   rename_i hst
   have hfo:P.underlying t=some (.struct (P.fieldsOf t)):=by simp [Program.fieldsOf,hu]
   have hfe:P.fieldsOf t=fs:=by simp [Program.fieldsOf,hu]
   rw [show d+(m+1)=(d+m)+1 by omega,run_equalIn_struct w (d+m) t xs ys hfo (by simpa using hst),hfe]
   have key : ∀ (fl : List Field) (off : Nat) (cs1 ds1 : List AV) (r1 : Bool), fl.foldlM (fun off f => (zdY P m f.type).bind fun k => if f.name != "_" && f.offset == off && zar P f.type == some k then some (off + k) else none) off = some n -> cs1 = cs.drop off -> ds1 = ds.drop off -> zbd cs1 ds1 = some r1 -> (Op.eqFields (d + m) xs ys fl).run P w = .ok r1 w := by
    intro fl
    induction fl with
    | nil =>
     intro off cs1 ds1 r1 h0 h1 h2 h3
     simp at h0
     rw [List.drop_eq_nil_of_le (by omega)] at h1
     subst h1
     cases ds1 with
     | nil=>simp only [zbd] at h3;injection h3 with h3;subst h3;simp [Op.eqFields]
     | cons=>simp [zbd] at h3
    | cons f fl ih =>
     intro off cs1 ds1 r1 h0 h1 h2 h3
     simp only [List.foldlM_cons,bind,Option.bind_eq_some_iff] at h0
     obtain ⟨o,⟨k,hk,h4⟩,h5⟩:=h0
     split at h4
     ·rename_i hc
      injection h4 with h4
      subst h4
      simp only [Bool.and_eq_true,bne_iff_ne,ne_eq,beq_iff_eq] at hc
      obtain ⟨⟨hn,ho⟩,hv⟩:=hc
      have hle:=znh fl _ _ h5
      have hcd:=zhf _ _ _ hlen
      obtain ⟨ra,rb,e1,e2,rfl⟩:=zgR k cs1 ds1 r1 h3 (by rw [h1,List.length_drop];omega)
      obtain ⟨a,p1,c1⟩:=zgS (w:=w) (off:=off) hk hv hxs (by omega) hxc
      obtain ⟨b,p2,c2⟩:=zgS (w:=w) (off:=off) hk hv hys (by omega) hyc
      rw [h1] at e1 e2
      rw [h2] at e1 e2
      have p3:=IH f.type k d a b _ _ ra hk (by rw [List.length_take,List.length_drop];omega) c1 c2 e1
      have p4:=ih (off+k) _ _ rb h5 rfl rfl (by
       rw [List.drop_drop,List.drop_drop] at e2
       exact e2)
      simp only [Op.eqFields,if_pos hn,ho,Sem.run_bind,p1,p2,p3,Result.andThen_ok,Sem.run_ite,Sem.run_pure,p4]
      cases ra<;>simp
     ·cases h4
   exact key fs.toList 0 cs ds r h (by simp) (by simp) he
  ·cases h
theorem zme {t:TypeId} {n:Nat} (h:zey P t=some n):P.eqGuardType P.depth t=false/\zdY P 9 t=some n/\∀k,P.underlying t≠some (.int k):=by
 unfold zey at h
 split at h<;>first | (cases h;done) | skip
 all_goals
  rename_i hu
  split at h
  ·cases h
  ·rename_i hg
   exact ⟨by simpa using hg,h,fun k e=>by rw [hu] at e;cases e⟩
theorem ztm {op:BinOp} {t:TypeId} {x y r:AV} {a b:Value} (ox oy:Operand) (h:zv0 P op t x y=some r) (hx:VR G H w x a) (hy:VR G H w y b) :
  ∃v,(do eqGuard op t ox oy a b;binOp op t a b:Sem Value).run P w=.ok v w/\VR G H w r v:=by
 unfold zv0 at h
 split at h
 ·rename_i k m k' n
  cases hx
  cases hy
  split at h
  ·rename_i r' hsh
   subst h
   obtain ⟨v,hv,hr⟩:=zp8 (P:=P) (G:=G) (H:=H) (w:=w) (k':=k') t hsh
   refine ⟨v,?_,hr⟩
   have hg:(eqGuard op t ox oy (.int k m) (.int k' n)).run P w=.ok () w:=by cases op<;>simp [eqGuard]
   rw [Sem.run_bind,hg]
   exact hv
  ·split at h
   ·rename_i hk
    subst hk
    obtain ⟨v,hv,hr⟩:=zp7 (P:=P) (G:=G) (H:=H) (w:=w) t h
    refine ⟨v,?_,hr⟩
    have hg:(eqGuard op t ox oy (.int k m) (.int k n)).run P w=.ok () w:=by cases op<;>simp [eqGuard]
    rw [Sem.run_bind,hg]
    exact hv
   ·cases h
 ·rename_i m n
  cases hx
  cases hy
  split at h
  ·rename_i hb
   have hu:=zp9 hb
   split at h<;>(try cases h)
   ·exact ⟨_,by simp [eqGuard,binOp,Op.equal,Op.maxDepth,run_equalIn_bool' w 9999 t m n hu],.v _⟩
   ·exact ⟨_,by simp [eqGuard,binOp,Op.equal,Op.maxDepth,run_equalIn_bool' w 9999 t m n hu],.v _⟩
  ·cases h
 ·rename_i cs ds
  split at h
  ·rename_i hfl
   obtain ⟨h2,hdp,hni⟩:=zme hfl
   cases hx with
   | agg _ xs hlx _ hvx =>
    cases hy with
    | agg _ ys hly _ hvy =>
     have hg:(eqGuard op t ox oy (.agg xs) (.agg ys)).run P w=.ok () w:=run_eqGuard_agg w op t ox oy xs ys h2
     have key:∀r',zbd cs ds=some r'->(Op.equalIn 10000 t (.agg xs) (.agg ys)).run P w=.ok r' w:=fun r' hr' =>
      zpd 9 t cs.length 9991 (.agg xs) (.agg ys) cs ds r' hdp rfl (.inr ⟨hni,xs,rfl,hlx,hvx⟩) (.inr ⟨hni,ys,rfl,hly,hvy⟩) hr'
     split at h
     ·obtain ⟨r',hr',rfl⟩:=Option.map_eq_some_iff.1 h
      refine ⟨.bool r',?_,.v _⟩
      rw [Sem.run_bind,hg,Result.andThen_ok,run_eql_struct,key r' hr']
      rfl
     ·obtain ⟨r',hr',rfl⟩:=Option.map_eq_some_iff.1 h
      refine ⟨.bool (!r'),?_,.v _⟩
      rw [Sem.run_bind,hg,Result.andThen_ok,run_neq_struct,key r' hr']
      rfl
     ·cases h
  ·cases h
 ·cases h
theorem zv2 (a b:Int):(if b<a then b else a)=min a b:=by omega
theorem ztn (a b:Int):(if b>a then b else a)=max a b:=by omega
theorem zoj {vs:Array Value} {x:AV} (h:VRs G H w [x] vs):∃a,vs=#[a]/\VR G H w x a:=by
 obtain ⟨hs,hv⟩:=h
 obtain ⟨l⟩:=vs
 match l,hs with
 | [a],_=>exact ⟨a,rfl,hv 0 x a rfl rfl⟩
theorem zuP {vs:Array Value} {x y:AV} (h:VRs G H w [x,y] vs):∃a b,vs=#[a,b]/\VR G H w x a/\VR G H w y b:=by
 obtain ⟨hs,hv⟩:=h
 obtain ⟨l⟩:=vs
 match l,hs with
 | [a,b],_=>exact ⟨a,b,rfl,hv 0 x a rfl rfl,hv 1 y b rfl rfl⟩
theorem zv3 {vs:Array Value} {x y z:AV} (h:VRs G H w [x,y,z] vs):∃a b c,vs=#[a,b,c]/\VR G H w x a/\VR G H w y b/\VR G H w z c:=by
 obtain ⟨hs,hv⟩:=h
 obtain ⟨l⟩:=vs
 match l,hs with
 | [a,b,c],_=>exact ⟨a,b,c,rfl,hv 0 x a rfl rfl,hv 1 y b rfl rfl,hv 2 z c rfl rfl⟩
theorem zyb {vs:Array Value} {x y z u:AV} (h:VRs G H w [x,y,z,u] vs):∃a b c d,vs=#[a,b,c,d]/\VR G H w x a/\VR G H w y b/\VR G H w z c/\VR G H w u d:=by
 obtain ⟨hs,hv⟩:=h
 obtain ⟨l⟩:=vs
 match l,hs with
 | [a,b,c,d],_=>exact ⟨a,b,c,d,rfl,hv 0 x a rfl rfl,hv 1 y b rfl rfl,hv 2 z c rfl rfl,hv 3 u d rfl rfl⟩
theorem zyc {vs:Array Value} {x y z u t:AV} (h:VRs G H w [x,y,z,u,t] vs):∃a b c d e,vs=#[a,b,c,d,e]/\VR G H w x a/\VR G H w y b/\VR G H w z c/\VR G H w u d/\VR G H w t e:=by
 obtain ⟨hs,hv⟩:=h
 obtain ⟨l⟩:=vs
 match l,hs with
 | [a,b,c,d,e],_=>exact ⟨a,b,c,d,e,rfl,hv 0 x a rfl rfl,hv 1 y b rfl rfl,hv 2 z c rfl rfl,hv 3 u d rfl rfl,hv 4 t e rfl rfl⟩
theorem zto {xs:List AV} {vs:Array Value} {r:AV} (ts:Array TypeId) (t:TypeId) (h:zxl xs=some r) (hv:VRs G H w xs vs):∃v,(Builtin.min_ ts t vs).run P w=.ok v w/\VR G H w r v:=by
 unfold zxl at h
 split at h
 ·obtain ⟨a,rfl,ha⟩:=zoj hv
  cases ha
  injection h with h;subst h
  exact ⟨_,by simp [Builtin.min_],.v _⟩
 ·obtain ⟨a,b,rfl,ha,hb⟩:=zuP hv
  cases ha;cases hb
  injection h with h;subst h
  exact ⟨_,by simp [Builtin.min_,Builtin.min2,zv2],.v _⟩
 ·obtain ⟨a,b,c,rfl,ha,hb,hc⟩:=zv3 hv
  cases ha;cases hb;cases hc
  injection h with h;subst h
  exact ⟨_,by simp [Builtin.min_,Builtin.min2,zv2],.v _⟩
 ·cases h
theorem ztp {xs:List AV} {vs:Array Value} {r:AV} (ts:Array TypeId) (t:TypeId) (h:zxm xs=some r) (hv:VRs G H w xs vs):∃v,(Builtin.max_ ts t vs).run P w=.ok v w/\VR G H w r v:=by
 unfold zxm at h
 split at h
 ·obtain ⟨a,rfl,ha⟩:=zoj hv
  cases ha
  injection h with h;subst h
  exact ⟨_,by simp [Builtin.max_],.v _⟩
 ·obtain ⟨a,b,rfl,ha,hb⟩:=zuP hv
  cases ha;cases hb
  injection h with h;subst h
  exact ⟨_,by simp only [Builtin.max_,Builtin.max2,ztn,List.foldlM,Sem.run_bind,Sem.run_pure,Result.andThen_ok],.v _⟩
 ·obtain ⟨a,b,c,rfl,ha,hb,hc⟩:=zv3 hv
  cases ha;cases hb;cases hc
  injection h with h;subst h
  exact ⟨_,by simp only [Builtin.max_,Builtin.max2,ztn,List.foldlM,Sem.run_bind,Sem.run_pure,Result.andThen_ok],.v _⟩
 ·obtain ⟨a,b,c,d,rfl,ha,hb,hc,hd⟩:=zyb hv
  cases ha;cases hb;cases hc;cases hd
  injection h with h;subst h
  exact ⟨_,by simp only [Builtin.max_,Builtin.max2,ztn,List.foldlM,Sem.run_bind,Sem.run_pure,Result.andThen_ok],.v _⟩
 ·obtain ⟨a,b,c,d,e,rfl,ha,hb,hc,hd,he⟩:=zyc hv
  cases ha;cases hb;cases hc;cases hd;cases he
  injection h with h;subst h
  exact ⟨_,by simp only [Builtin.max_,Builtin.max2,ztn,List.foldlM,Sem.run_bind,Sem.run_pure,Result.andThen_ok],.v _⟩
 ·cases h
theorem zff {x:AV} {v:Value} {n y:Nat} {code:BoundsCode} (h:zfM x=some n) (hv:VR G H w x v) (hy:n<=y):(Instr.sliceBound v y code).run P w=.ok n w:=by
 obtain ⟨k,rfl⟩:=ziw h hv
 have h1:(n:Int)<=(y:Int):=by omega
 simp [Instr.sliceBound,asIntOf,h1]
theorem zus {t t':Tag} {k l h m cap:Nat} {es:List (List AV)} {a:Option Addr} (hx:VR G H w (.sl t k es) (.slice a es.length cap)) (hl:l<=h) (hh:h<=es.length) (hm:h<=m)
  (ht:t'=.no\/t'=.clip/\m=h) :
  VR G H w (.sl t' k ((es.drop l).take (h-l))) (.slice (if m=l then a else a.map (·.add (l*k))) (h-l) (m-l)):=by
 have hlen:((es.drop l).take (h-l)).length=h-l:=by simp;omega
 cases hx with
 | sl _ _ _ _ _ b o f hcap hs ha hc hv htag =>
  have hget:∀(i:Nat) (e:List AV),((es.drop l).take (h-l))[i]?=some e->es[l+i]?=some e/\i<h-l:=fun i e hi=>by
   rw [List.getElem?_take] at hi
   split at hi
   ·rw [List.getElem?_drop] at hi
    exact ⟨hi,by assumption⟩
   ·cases hi
  have key:=VR.sl (G:=G) (H:=H) (w:=w) t' k ((es.drop l).take (h-l)) (if m=l then a else a.map (·.add (l*k))) (m-l) b (o+l*k) (fun i j=>f (l+i) j)
   (by rw [hlen];omega) (fun e he=>hs e (List.mem_of_mem_drop (List.mem_of_mem_take he))) (fun hne=>?_)
   (fun i j e c hi hj=>?_) (fun i j e c hi hj=>hv (l+i) j e c (hget i e hi).1 hj) ?_
  ·rwa [hlen] at key
  ·have hlt:l<h:=by
    rcases Nat.lt_or_ge l h with h1 | h1
    ·exact h1
    ·exact absurd (List.eq_nil_of_length_eq_zero (by rw [hlen];omega)) hne
   have hes:es≠[]:=fun e=>by subst e;simp at hh;omega
   obtain ⟨hpos,rfl,hfr⟩:=ha hes
   refine ⟨hpos,?_,hfr.le ?_⟩
   ·rw [if_neg (by omega)]
    simp [Addr.add_mid]
   ·rw [hlen]
    have h3:h*k<=es.length*k:=Nat.mul_le_mul_right _ hh
    have h4:(h-l)*k=h*k-l*k:=Nat.sub_mul _ _ _
    have h5:l*k<=h*k:=Nat.mul_le_mul_right _ hl
    omega
  ·have:=hc (l+i) j e c (hget i e hi).1 hj
   rwa [Nat.add_mul,←Nat.add_assoc] at this
  ·rcases ht with rfl | ⟨rfl,h1⟩
   ·trivial
   ·show m-l=_
    rw [hlen,h1]
def zok (G:Gh) (H:zaa) (w:World):Option AV->Option Value->Prop
 | none,none=>True
 | some y,some v=>VR G H w y v
 | _,_=>False
theorem zqb {t:TypeId} {r:AV} {a:Value} {i off k n c:Nat} {lo hi mx:Option AV} {clo chi cmx:Option Value} (h:(if zaF P t=some k then (loN lo).bind fun l=>(hiN mx.isSome n hi).bind fun h=>zvR i off k c l h mx else none)=some r) (hx:VR G H w (.ms i off k n c) a)
  (hlo:zok G H w lo clo) (hhi:zok G H w hi chi) (hmx:zok G H w mx cmx) :
  ∃v,(Instr.sliceAt t a clo chi cmx).run P w=.ok v w/\VR G H w r v:=by
 by_cases hty:zaF P t=some k
 case neg=>rw [if_neg hty] at h;cases h
 rw [if_pos hty] at h
 obtain ⟨e,it,he,hi',hsz,_⟩:=zdN hty
 obtain ⟨l,hl,h⟩:=Option.bind_eq_some_iff.1 h
 obtain ⟨hN,hh,h⟩:=Option.bind_eq_some_iff.1 h
 cases hx with
 | ms _ _ _ _ _ ad cap hcel had hn hcap hcz =>
  have hlow:∀y code,l<=y->(match clo with | some v=>Instr.sliceBound v y code | none=>(pure 0:Sem Nat)).run P w=.ok l w:=fun y code hy=>by
   cases lo with
   | none =>
    cases clo with
    | none=>simp [loN] at hl;subst hl;rfl
    | some v=>exact hlo.elim
   | some z =>
    cases clo with
    | none=>exact hlo.elim
    | some v=>exact zff hl hlo hy
  have mk:∀m c',l<=hN->hN<=c'->c'<=c->c'<=m->m<=cap->VR G H w (.ms i (off+l*k) k (hN-l) (c'-l)) (.slice (if m=l then ad else ad.map (·.add (l*k))) (hN-l) (m-l)):=fun m c' h1 h2 h3 h4 h5=>by
   refine .ms _ _ _ _ _ _ _ hcel (fun h0=>?_) (by omega) (by omega) (fun h0=>?_)
   ·rw [if_neg (by omega),had (by omega)]
    simp [Addr.add_mid]
   ·have e1:=hcz (by omega)
    have e2:(m-l)*k=m*k-l*k:=Nat.sub_mul _ _ _
    have e3:l*k<=m*k:=Nat.mul_le_mul_right _ (by omega)
    have e4:m*k<=cap*k:=Nat.mul_le_mul_right _ h5
    omega
  cases mx with
  | none =>
   cases cmx with
   | some v=>exact hmx.elim
   | none =>
    simp only [zvR] at h
    split at h
    case isFalse=>cases h
    rename_i hle
    injection h with h
    subst h
    refine ⟨_,?_,mk cap c hle.1 hle.2 (Nat.le_refl _) hcap (Nat.le_refl _)⟩
    have hhigh:(match chi with | some v=>Instr.sliceBound v cap .sliceAcap | none=>(pure n:Sem Nat)).run P w=.ok hN w:=by
     cases hi with
     | none =>
      cases chi with
      | none=>simp [hiN] at hh;subst hh;rfl
      | some v=>exact hhi.elim
     | some z =>
      cases chi with
      | none=>exact hhi.elim
      | some v=>exact zff hh hhi (by omega)
    have hb:(Instr.sliceBounds true n cap clo chi none).run P w=.ok (l,hN,cap) w:=by
     have:=hlow hN .sliceB hle.1
     cases clo<;>cases chi<;>simp_all [Instr.sliceBounds]
    simp [Instr.sliceAt,run_underlying he,Instr.slice,hb,sizeOf,typeInfo,hi',hsz]
  | some m =>
   cases cmx with
   | none=>exact hmx.elim
   | some vm =>
    simp only [zvR] at h
    obtain ⟨mN,hm,h⟩:=Option.bind_eq_some_iff.1 h
    split at h
    case isFalse=>cases h
    rename_i hle
    injection h with h
    subst h
    refine ⟨_,?_,mk mN mN hle.1 hle.2.1 hle.2.2 (Nat.le_refl _) (by omega)⟩
    have hmm:∀code,(Instr.sliceBound vm cap code).run P w=.ok mN w:=fun code=>zff hm hmx (by omega)
    cases hi with
    | none=>simp [hiN] at hh
    | some z =>
     cases chi with
     | none=>exact hhi.elim
     | some vh =>
      have hhh:∀code,(Instr.sliceBound vh mN code).run P w=.ok hN w:=fun code=>zff hh hhi hle.2.1
      have hb:(Instr.sliceBounds true n cap clo (some vh) (some vm)).run P w=.ok (l,hN,mN) w:=by
       have:=hlow hN .slice3C hle.1
       cases clo<;>simp_all [Instr.sliceBounds]
      simp [Instr.sliceAt,run_underlying he,Instr.slice,hb,sizeOf,typeInfo,hi',hsz]
theorem zqc {t:TypeId} {x r:AV} {a:Value} {lo hi mx:Option AV} {clo chi cmx:Option Value} (h:zpa P t x lo hi mx=some r) (hx:VR G H w x a)
  (hlo:zok G H w lo clo)
  (hhi:zok G H w hi chi)
  (hmx:zok G H w mx cmx) :
  ∃v,(Instr.sliceAt t a clo chi cmx).run P w=.ok v w/\VR G H w r v:=by
 unfold zpa at h
 cases x<;>try (cases h;done)
 case ms im om km nm cm=>exact zqb h hx hlo hhi hmx
 rename_i tg k es
 by_cases hty:zaF P t=some k
 case neg=>simp only [if_neg hty] at h;cases h
 simp only [if_pos hty] at h
 obtain ⟨e,i,he,hi',hsz,_⟩:=zdN hty
 obtain ⟨l,hl,h⟩:=Option.bind_eq_some_iff.1 h
 obtain ⟨hN,hh,h⟩:=Option.bind_eq_some_iff.1 h
 have hshape:∃ad cap,a=.slice ad es.length cap/\es.length<=cap:=by
  cases hx with
  | sl _ _ _ a cap b o f hcap=>exact ⟨a,cap,rfl,hcap⟩
 obtain ⟨ad,cap,rfl,hcap⟩:=hshape
 have hlow:∀y code,l<=y->(match clo with | some v=>Instr.sliceBound v y code | none=>(pure 0:Sem Nat)).run P w=.ok l w:=fun y code hy=>by
  cases lo with
  | none =>
   cases clo with
   | none=>simp [loN] at hl;subst hl;rfl
   | some v=>exact hlo.elim
  | some z =>
   cases clo with
   | none=>exact hlo.elim
   | some v=>exact zff hl hlo hy
 cases mx with
 | none =>
  cases cmx with
  | some v=>exact hmx.elim
  | none =>
   simp only [zya] at h
   split at h
   case isFalse=>cases h
   rename_i hle
   injection h with h
   subst h
   refine ⟨_,?_,zus (t':=.no) (m:=cap) hx hle.1 hle.2 (by omega) (.inl rfl)⟩
   have hhigh:(match chi with | some v=>Instr.sliceBound v cap .sliceAcap | none=>(pure es.length:Sem Nat)).run P w=.ok hN w:=by
    cases hi with
    | none =>
     cases chi with
     | none=>simp [hiN] at hh;subst hh;rfl
     | some v=>exact hhi.elim
    | some z =>
     cases chi with
     | none=>exact hhi.elim
     | some v=>exact zff hh hhi (by omega)
   have hb:(Instr.sliceBounds true es.length cap clo chi none).run P w=.ok (l,hN,cap) w:=by
    have:=hlow hN .sliceB hle.1
    cases clo<;>cases chi<;>simp_all [Instr.sliceBounds]
   simp [Instr.sliceAt,run_underlying he,Instr.slice,hb,sizeOf,typeInfo,hi',hsz]
 | some m =>
  cases cmx with
  | none=>exact hmx.elim
  | some vm =>
   simp only [zya] at h
   obtain ⟨mN,hm,h⟩:=Option.bind_eq_some_iff.1 h
   split at h
   case isFalse=>cases h
   rename_i hle
   injection h with h
   subst h
   refine ⟨_,?_,zus (m:=mN) hx hle.1 (by omega) hle.2.1 ?_⟩
   ·have hmm:∀code,(Instr.sliceBound vm cap code).run P w=.ok mN w:=fun code=>zff hm hmx (by omega)
    cases hi with
    | none=>simp [hiN] at hh
    | some z =>
     cases chi with
     | none=>exact hhi.elim
     | some vh =>
      have hhh:∀code,(Instr.sliceBound vh mN code).run P w=.ok hN w:=fun code=>zff hh hhi hle.2.1
      have hb:(Instr.sliceBounds true es.length cap clo (some vh) (some vm)).run P w=.ok (l,hN,mN) w:=by
       have:=hlow hN .slice3C hle.1
       cases clo<;>simp_all [Instr.sliceBounds]
      simp [Instr.sliceAt,run_underlying he,Instr.slice,hb,sizeOf,typeInfo,hi',hsz]
   ·by_cases h1:mN=hN
    ·exact .inr ⟨by rw [if_pos h1],h1⟩
    ·exact .inl (by rw [if_neg h1])
end
end Go.AM
