/-
  The abstract machine: given functions and their states, functions that return a new function, ranges over functions.
  Conditions: none; it speaks of any program.
-/
import Derived.Test.YtclaalcoefcljaaAmP
set_option linter.all false
namespace Go.AM
open Go Go.RowKit
theorem zmi.le {P:Program} {f:AV} {as bs:List AV} {L L':BL} {r:AV} (h:zmi P f as L r L') (hl:LeL as bs):zmi P f bs L r L':=by
 cases f with
 | fn fk u w =>
  cases fk with
  | func k=>exact ziI.le h (zo6 u w hl)
  | _=>exact h.elim
 | yld j ts cs=>exact ⟨h.1,fun n G H g w vs hf hh hp hy hv=>h.2 n G H g w vs hf hh hp hy (hv.le hl)⟩
 | _=>exact h.elim
theorem zfG:zhG [] []:=trivial
theorem zdA {i:Nat} {cs ds:List AV} {L M:BL} (h:zhG L M):zhG ((i,.cells cs)::L) ((i,.cells ds)::M):=⟨rfl,trivial,h⟩
theorem zhK {i m n:Nat} {e:TypeId} {L M:BL} (h:zhG L M):zhG ((i,.row e m)::L) ((i,.row e n)::M):=⟨rfl,rfl,h⟩
theorem zhw {A B M M':BL} (h:zhG A B) (t:zhG M M'):zhG (A++M) (B++M'):=by
 induction A generalizing B with
 | nil=>cases B with
  | nil=>exact t
  | cons q B=>exact h.elim
 | cons p A ih=>cases B with
  | nil=>exact h.elim
  | cons q B=>exact ⟨h.1,h.2.1,ih h.2.2⟩
theorem At.mem {L M M':BL} {ns:List Nat} (hA:At L ns M M') {i:Nat} (hi:i∈ids M):∃n,n∈ns/\∃x,L[n]?=some (i,x):=by
 induction ns generalizing M M' with
 | nil=>cases M with
  | nil=>simp [ids] at hi
  | cons p M=>cases M'<;>exact hA.elim
 | cons n ns ih=>cases M with
  | nil=>cases M'<;>exact hA.elim
  | cons p M=>cases M' with
   | nil=>exact hA.elim
   | cons q M' =>
    simp only [ids,List.map_cons,List.mem_cons] at hi
    rcases hi with rfl | hi
    ·exact ⟨n,by simp,p.2,hA.1⟩
    ·obtain ⟨m,hm,h⟩:=ih hA.2.2 hi
     exact ⟨m,by simp [hm],h⟩
theorem zqg {L:BL} (hnd:(L.map (·.1)).Nodup) {m n i:Nat} {x y:Blk} (hm:L[m]?=some (i,x)) (hn:L[n]?=some (i,y)):m=n:=by
 have hm':(L.map (·.1))[m]?=some i:=by rw [List.getElem?_map,hm];rfl
 have hn':(L.map (·.1))[n]?=some i:=by rw [List.getElem?_map,hn];rfl
 exact (List.getElem?_inj (List.getElem?_eq_some_iff.1 hm').1 hnd).1 (hm'.trans hn'.symm)
theorem zoH {L M M':BL} (hnd:(L.map (·.1)).Nodup) {ns:List Nat} (hA:At L ns M M') (hns:ns.Nodup):(ids M).Nodup:=by
 induction ns generalizing M M' with
 | nil=>cases M with
  | nil=>exact List.nodup_nil
  | cons p M=>cases M'<;>exact hA.elim
 | cons n ns ih=>cases M with
  | nil=>cases M'<;>exact hA.elim
  | cons p M=>cases M' with
   | nil=>exact hA.elim
   | cons q M' =>
    obtain ⟨h1,_,h3⟩:=hA
    obtain ⟨hn,hns⟩:=List.nodup_cons.1 hns
    refine List.nodup_cons.2 ⟨fun hm=>?_,ih h3 hns⟩
    obtain ⟨m,hm1,x,hm2⟩:=h3.mem hm
    have:=zqg hnd (show L[n]?=some (p.1,p.2) from h1) hm2
    exact hn (this▸hm1)
theorem St.nd_at {O:Nat->Prop} {H0 H:zaa} {L:BL} {b:Nat} (hS:St O H0 L H b) {M M':BL} {ns:List Nat} (hA:At L ns M M') (hns:ns.Nodup):(ids M).Nodup:=zoH hS.nd hA hns
theorem St.nd_atS {O:Nat->Prop} {H0 H:zaa} {L T:BL} {b:Nat} (hS:St O H0 (L++T) H b) {A A':BL} {ns:List Nat} (hA:At L ns A A') (hns:ns.Nodup):(ids A++ids T).Nodup:=by
 have hnd:=hS.nd
 rw [List.map_append,List.nodup_append] at hnd
 refine List.nodup_append.2 ⟨zoH hnd.1 hA hns,hnd.2.1,fun a ha c hc e=>?_⟩
 obtain ⟨n,_,x,hx⟩:=hA.mem ha
 exact hnd.2.2 a (List.mem_map_of_mem (f:=(·.1)) (List.mem_of_getElem? hx)) c hc e
theorem zhx {A:List Nat} {T T':BL} (h:zhG T T') (hnd:(A++ids T).Nodup):(A++ids T').Nodup:=h.ids▸hnd
theorem ziY {H:zaa}:∀c,c∈([]:List AV)->In H c:=fun _ h=>by simp at h
theorem zim {H:zaa} {a:AV} {cs:List AV} (h:In H a) (t:∀c,c∈cs->In H c):∀c,c∈a::cs->In H c:=fun c hc=>by
 rcases List.mem_cons.1 hc with rfl | hc
 ·exact h
 ·exact t c hc
theorem zj3 {B:Type} {o:Option B} {r:B×Unit} (h:o.map (fun y=>(y,()))=some r):o=some r.1:=by
 cases o with
 | none=>cases h
 | some y=>injection h with h;rw [←h]
def zm4 (P:Program) (f:FuncId) (as:List AV) (r:Nat->AV) (X Y:List AV):Prop:=∀H g,zcl H g->Sat P f as H g (r g) (H.puts [(g+1,.cells X),(g,.cells Y)]) (g+2)
theorem zm4.le {P:Program} {k:FuncId} {as bs:List AV} {r:Nat->AV} {X Y:List AV} (h:zm4 P k as r X Y) (hl:LeL as bs):zm4 P k bs r X Y:=fun H g hf =>
 ⟨(h H g hf).1,fun G w vs hp hv=>(h H g hf).2 G w vs hp (hv.le hl)⟩
section
variable {P:Program} {N:Nat} {l:List (Nat×AV)} {H:zaa} {g:Nat} {lim:Option Nat} {g0 i:Nat} {ops:Array Oper} {K:Fr->zaa->Nat->Prop} {r:List Oper} {d:Nat} {ty:TypeId} {pos:String} {after:Array Edge}
 {O:Nat->Prop} {H0:zaa} {L L':List (Nat×Blk)} {b:Nat}
end
theorem St.congr {O:Nat->Prop} {H0 H H1:zaa} {L:BL} {b g:Nat} (hS:St O H0 L H1 b) (hb:b<=g) (h:∀i,i<g->H i=H1 i) (hf:zcl H (g+1)) (hg:H g=none\/True):(∀i,i<b->H i=H1 i):=fun i hi=>h i (Nat.lt_of_lt_of_le hi hb)
section
variable {P:Program} {N:Nat} {l:List (Nat×AV)} {H:zaa} {g:Nat} {lim:Option Nat} {g0 i:Nat} {ops:Array Oper} {K:Fr->zaa->Nat->Prop} {r:List Oper} {d:Nat} {ty:TypeId} {pos:String} {after:Array Edge}
end
theorem ziZ {A M:BL} (h:(ids A++ids M).Nodup):(ids (A++M)).Nodup:=by
 rw [show ids (A++M)=ids A++ids M by simp [ids]]
 exact h
end Go.AM
