/-
  The abstract machine: given functions and their states, functions that return a new function, ranges over functions.
  Conditions: none; it speaks of any program.
-/
import Derived.Test.YtenogpmlhpcibaaAmP
set_option linter.all false
namespace Go.AM
open Go Go.RowKit
theorem zpZ.le {P:Program} {f:AV} {as bs:List AV} {L L':BL} {r:AV} (h:zpZ P f as L r L') (hl:LeL as bs):zpZ P f bs L r L':=by
 cases f with
 | fn fk u w =>
  cases fk with
  | func k=>exact zjZ.le h (zuE u w hl)
  | _=>exact h.elim
 | yld j ts cs=>exact ⟨h.1,fun n G H g w vs hf hh hp hy hv=>h.2 n G H g w vs hf hh hp hy (hv.le hl)⟩
 | _=>exact h.elim
theorem zh9:zls [] []:=trivial
theorem zfO {i:Nat} {cs ds:List AV} {L M:BL} (h:zls L M):zls ((i,.cells cs)::L) ((i,.cells ds)::M):=⟨rfl,trivial,h⟩
theorem At.mem {L M M':BL} {ns:List Nat} (hA:At L ns M M') {i:Nat} (hi:i∈ids M):∃n,n∈ns/\∃x,L[n]?=some (i,x):=by
 induction ns generalizing M M' with
 | nil=>cases M with
  | nil=>simp [ids] at hi
  | cons p M=>cases M'<;>exact hA.elim
 | cons n ns ih=>cases M with
  | nil=>cases M'<;>exact hA.elim
  | cons p M=>cases M' with
   | nil=>exact hA.elim
   | cons q M' =>
    simp only [ids,List.map_cons,List.mem_cons] at hi
    rcases hi with rfl | hi
    ·exact ⟨n,by simp,p.2,hA.1⟩
    ·obtain ⟨m,hm,h⟩:=ih hA.2.2 hi
     exact ⟨m,by simp [hm],h⟩
theorem zv9 {L:BL} (hnd:(L.map (·.1)).Nodup) {m n i:Nat} {x y:Blk} (hm:L[m]?=some (i,x)) (hn:L[n]?=some (i,y)):m=n:=by
 have hm':(L.map (·.1))[m]?=some i:=by rw [List.getElem?_map,hm];rfl
 have hn':(L.map (·.1))[n]?=some i:=by rw [List.getElem?_map,hn];rfl
 exact (List.getElem?_inj (List.getElem?_eq_some_iff.1 hm').1 hnd).1 (hm'.trans hn'.symm)
theorem zwa {L M M':BL} (hnd:(L.map (·.1)).Nodup) {ns:List Nat} (hA:At L ns M M') (hns:ns.Nodup):(ids M).Nodup:=by
 induction ns generalizing M M' with
 | nil=>cases M with
  | nil=>exact List.nodup_nil
  | cons p M=>cases M'<;>exact hA.elim
 | cons n ns ih=>cases M with
  | nil=>cases M'<;>exact hA.elim
  | cons p M=>cases M' with
   | nil=>exact hA.elim
   | cons q M' =>
    obtain ⟨h1,_,h3⟩:=hA
    obtain ⟨hn,hns⟩:=List.nodup_cons.1 hns
    refine List.nodup_cons.2 ⟨fun hm=>?_,ih h3 hns⟩
    obtain ⟨m,hm1,x,hm2⟩:=h3.mem hm
    have:=zv9 hnd (show L[n]?=some (p.1,p.2) from h1) hm2
    exact hn (this▸hm1)
theorem St.nd_at {O:Nat->Prop} {H0 H:zac} {L:BL} {b:Nat} (hS:St O H0 L H b) {M M':BL} {ns:List Nat} (hA:At L ns M M') (hns:ns.Nodup):(ids M).Nodup:=zwa hS.nd hA hns
theorem zd3 {H:zac}:∀c,c∈([]:List AV)->In H c:=fun _ h=>by simp at h
theorem zbU {H:zac} {a:AV} {cs:List AV} (h:In H a) (t:∀c,c∈cs->In H c):∀c,c∈a::cs->In H c:=fun c hc=>by
 rcases List.mem_cons.1 hc with rfl | hc
 ·exact h
 ·exact t c hc
theorem znl {H:zac} {M:BL} {i o:Nat} {cs:List AV} (hH:Has H M) (n:Nat) (hn:M[n]?=some (i,.cells cs)):In H (.ptr i o):=.ptr _ _ (.inl ⟨_,hH _ (List.mem_of_getElem? hn)⟩)
theorem zkN {B:Type} {o:Option B} {r:B×Unit} (h:o.map (fun y=>(y,()))=some r):o=some r.1:=by
 cases o with
 | none=>cases h
 | some y=>injection h with h;rw [←h]
def zrN (P:Program) (f:FuncId) (as:List AV) (r:Nat->AV) (X Y:List AV):Prop:=∀H g,zba H g->Sat P f as H g (r g) (H.puts [(g+1,.cells X),(g,.cells Y)]) (g+2)
theorem zrN.le {P:Program} {k:FuncId} {as bs:List AV} {r:Nat->AV} {X Y:List AV} (h:zrN P k as r X Y) (hl:LeL as bs):zrN P k bs r X Y:=fun H g hf =>
 ⟨(h H g hf).1,fun G w vs hp hv=>(h H g hf).2 G w vs hp (hv.le hl)⟩
section
variable {P:Program} {N:Nat} {l:List (Nat×AV)} {H:zac} {g:Nat} {lim:Option Nat} {g0 i:Nat} {ops:Array Oper} {K:Fr->zac->Nat->Prop} {r:List Oper} {d:Nat} {ty:TypeId} {pos:String} {after:Array Edge}
 {O:Nat->Prop} {H0:zac} {L L':List (Nat×Blk)} {b:Nat}
end
theorem St.congr {O:Nat->Prop} {H0 H H1:zac} {L:BL} {b g:Nat} (hS:St O H0 L H1 b) (hb:b<=g) (h:∀i,i<g->H i=H1 i) (hf:zba H (g+1)) (hg:H g=none\/True):(∀i,i<b->H i=H1 i):=fun i hi=>h i (Nat.lt_of_lt_of_le hi hb)
theorem zjO {P:Program} {k:FuncId} {as:List AV} {r:AV} (h:zjZ P k as [] r []):zaH P k as r:=fun H g hf=>h H g hf fun p hp=>by simp at hp
section
variable {P:Program} {N:Nat} {l:List (Nat×AV)} {H:zac} {g:Nat} {lim:Option Nat} {g0 i:Nat} {ops:Array Oper} {K:Fr->zac->Nat->Prop} {r:List Oper} {d:Nat} {ty:TypeId} {pos:String} {after:Array Edge}
end
end Go.AM
