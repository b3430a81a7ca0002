/-
  The code returns what the functions say (printed by gen.py).
  Conditions: none.
-/
import Derived.Test.YtchhkifidbkjcaaWkTopTurns3
import Derived.Test.YtchhkifidbkjcaaAmPh
import Derived.Test.YtchhkifidbkjcaaSh
import Derived.Test.YtchhkifidbkjcaaKs
import Derived.Test.YtchhkifidbkjcaaEn
set_option linter.all false
namespace Go.Proofs.Ytchhkifidbkjcaa
open Go Go.AM Go.Law
set_option linter.unusedVariables false
set_option maxRecDepth 4000
set_option maxHeartbeats 4000000
theorem zlz {a0:BoxW_} {a2:List WearWeek} {rc:WearRecord} (hrc:a0.Wear.Records=[rc]) {p:Nat} {H0:zaa} {g:Nat} (hf_:za2 H0 g) (hp:H0 p=some (.cells [.v (.slice none 0 0),.i 0,.i 0])):Sat Try.prog 22 [.agg (BoxW_.cells a0),.ptr p 0,.sl .no 2 (a2.map WearWeek.cells)] H0 g (.fn (.func 34) [] [.ep [.sl .no 2 (a2.map WearWeek.cells)],.ep [.ptr p 0],.ep (BoxW_.cells a0)]) ((H0.set p (.cells [.ms (g+4+7+5+1+4+8) 0 1 1 1,.i (a0.Wear.Age),.i 0])).set (g+4+7+5+1+4+8) (.cells [.i (rc.Worn)])) ((g+4+7+5+1+4+8)+1):=by
 obtain ⟨⟨wk,pr,ag,sp,rg,recs⟩⟩:=a0
 simp only at hrc
 subst hrc
 change Sat Try.prog 22 [.agg (BoxW_.cells ⟨⟨wk,pr,ag,sp,rg,[rc]⟩⟩),.ptr p 0,.sl .no 2 (a2.map WearWeek.cells)] H0 g (.fn (.func 34) [] [.ep [.sl .no 2 (a2.map WearWeek.cells)],.ep [.ptr p 0],.ep (BoxW_.cells ⟨⟨wk,pr,ag,sp,rg,[rc]⟩⟩)]) ((H0.set p (.cells [.ms (g+4+7+5+1+4+8) 0 1 1 1,.i ag,.i 0])).set (g+4+7+5+1+4+8) (.cells [.i (rc.Worn)])) ((g+4+7+5+1+4+8)+1)
 refine zvh mixed Try.func22 rfl (by decide) Try.ntmps22 (by simp) hf_ hp (by omega) (fun H1 h1 h2=>⟨?_,?_,?_⟩) ?_
 ·exact .fn _ _ _ zb2 (za0 (show Go.AM.Pure _ from .ep _ (zab (.sl _ _ (zaA (fun x=>(zab (.v _) (zab (.sl _ _ (zaA (fun x=>(zab (.v _) zaJ)))) zaJ))))) zaJ)).inH (za0 (.ep _ (za0 (.ptr _ _ (.inl ⟨_,h1⟩)) zb2)) (za0 (show Go.AM.Pure _ from .ep _ (zab (.v _) (zab (.v _) (zab (.v _) (zab (.v _) (zab (.sl _ _ (zaA (fun x=>(zab (.v _) zaJ)))) (zab (.sl _ _ (zaA (fun x=>(zab (.v _) (zab (.v _) (zab (.v _) (zab (.sl _ _ (zaA (fun x=>(zab (.v _) zaJ)))) zaJ)))))))  zaJ))))))).inH zb2)))
 ·exact za0 (.ms _ _ _ _ _ (.inl ⟨_,h2⟩)) (za0 (.v _) (za0 (.v _) zb2))
 ·exact za0 (.v _) zb2
 rw [zah]
 change wpA _ _ _ _ (Fr.of [(0,.agg (BoxW_.cells ⟨⟨wk,pr,ag,sp,rg,[rc]⟩⟩)),(1,.ptr p 0),(2,.sl .no 2 (a2.map WearWeek.cells))]) H0 g
 have hS:=St.startP hf_ hp
 generalize hO:(fun i=>i<g/\i≠p)=O at hS ⊢
 refine Sq ?_
 refine Rg 4 ?_
 refine zcg (v:=.agg (BoxW_.cells ⟨⟨wk,pr,ag,sp,rg,[rc]⟩⟩)) (cs:=(BoxW_.cells ⟨⟨wk,pr,ag,sp,rg,[rc]⟩⟩)) hS (by decide) rfl rfl (by omega) fun H hS=>?_
 refine zcg (v:=.ptr p 0) (cs:=[.ptr p 0]) hS (by decide) rfl rfl (by omega) fun H hS=>?_
 refine zcg (v:=.sl .no 2 (a2.map WearWeek.cells)) (cs:=[.sl .no 2 (a2.map WearWeek.cells)]) hS (by decide) rfl rfl (by omega) fun H hS=>?_
 refine Oa (.v .nilFunc) ?_
 refine Ni ?_
 refine zaW (L':=(g+1,.cells [.ptr p 0])::(g+0,.cells (BoxW_.cells ⟨⟨wk,pr,ag,sp,rg,[rc]⟩⟩))::[(p,.cells [.v (.slice none 0 0),.i 0,.i 0])]) 0 5 hS rfl rfl rfl fun H hS=>?_
 refine zaW (L':=(g+0,.cells (BoxW_.cells ⟨⟨wk,pr,ag,sp,rg,[rc]⟩⟩))::[(p,.cells [.v (.slice none 0 0),.i 0,.i 0])]) 0 4 hS rfl rfl rfl fun H hS=>?_
 refine zaW (L':=[(p,.cells [.v (.slice none 0 0),.i 0,.i 0])]) 0 3 hS rfl rfl rfl fun H hS=>?_
 refine Ws ?_
 refine Sq ?_
 refine Rg 7 ?_
 refine Olp (.ptr p 0) zgj zhy ?_
 refine Of ((BoxW_.cells ⟨⟨wk,pr,ag,sp,rg,[rc]⟩⟩)) zfo ?_
 refine Of ((BoxW_.cells ⟨⟨wk,pr,ag,sp,rg,[rc]⟩⟩)) znL ?_
 refine Olp (.i ag) zaf zal ?_
 refine zhr (by decide) rfl ?_
 refine zap (by decide) zi2 rfl ?_
 refine zaC (v:=.i ag) (ns:=[.i ag]) (L':=[(p,.cells [.v (.slice none 0 0),.i ag,.i 0])]) 0 hS rfl rfl .no rfl rfl zmM nlb rfl fun H hS=>?_
 refine Ni ?_
 refine Ws ?_
 refine Sq ?_
 refine Sq ?_
 refine Rg 5 ?_
 refine Of ((BoxW_.cells ⟨⟨wk,pr,ag,sp,rg,[rc]⟩⟩)) zfo ?_
 refine Of ((BoxW_.cells ⟨⟨wk,pr,ag,sp,rg,[rc]⟩⟩)) zhB ?_
 refine Olp (.sl .no 4 ([rc].map WearRecord.cells)) ziQ zkP ?_
 refine zb9 (n:=1) (by decide) rfl rfl ziR ?_
 refine Om (.i 0) ?_
 refine Ni ?_
 refine Ws ?_
 refine zaB ?_
 refine zco (V:=Bool) (fun v=>[(3,.ep (BoxW_.cells ⟨⟨wk,pr,ag,sp,rg,[rc]⟩⟩)),(4,.ep [.ptr p 0]),(5,.ep [.sl .no 2 (a2.map WearWeek.cells)]),(17,.sl .no 4 ([rc].map WearRecord.cells)),(18,.i 1),(19,.i (cond v 1 0))]) (fun v m H' g'=>m=cond v 0 1/\(v=false->g'=g+4+7+5)/\St O H0 (cond v [((g+4+7+5+1+4+8),.cells [.i (rc.Worn)]),(p,.cells [.ms (g+4+7+5+1+4+8) 0 1 1 1,.i ag,.i 0])] [(p,.cells [.v (.slice none 0 0),.i ag,.i 0])]) H' g') (n:=1) false (.k (.k (.k (.k (.k (.k .nil)))))) ⟨rfl,fun _=>rfl,hS.up (by omega)⟩ ?_
 rintro (_ | _) m H g1 ⟨hm,hg1,hS⟩
 ·obtain rfl:m=1:=hm
  obtain rfl:=hg1 rfl
  replace hS:St O H0 [(p,.cells [.v (.slice none 0 0),.i ag,.i 0])] H (g+4+7+5):=hS
  change wpA _ _ _ _ (Fr.of [(3,.ep (BoxW_.cells ⟨⟨wk,pr,ag,sp,rg,[rc]⟩⟩)),(4,.ep [.ptr p 0]),(5,.ep [.sl .no 2 (a2.map WearWeek.cells)]),(17,.sl .no 4 ([rc].map WearRecord.cells)),(18,.i 1),(19,.i 0)]) _ _
  refine Sq ?_
  refine Rg 1 ?_
  refine Oi (.b true) ?_
  refine Ni ?_
  refine Ws ?_
  refine Sq ?_
  refine zhq (e:=true) rfl rfl ?_
  refine zay ?_
  refine Ws ?_
  refine Sq ?_
  refine zaB ?_
  refine Sq ?_
  refine Rg 4 ?_
  refine za8 (xs:=[rc]) (f:=WearRecord.cells) (z:=0) (u:=rc) (by decide) rfl rfl zmH rfl ?_
  refine Olg (.agg (WearRecord.cells rc)) zmF ?_
  refine za4 hS (by decide) ziP (by omega) fun H hS=>?_
  refine zaC (v:=.agg (WearRecord.cells rc)) (ns:=(WearRecord.cells rc)) (L':=(g+4+7+5+1+2,.cells (WearRecord.cells rc))::[(p,.cells [.v (.slice none 0 0),.i ag,.i 0])]) 0 hS rfl rfl .no rfl rfl zmG nlb rfl fun H hS=>?_
  refine Ni ?_
  refine zaW (L':=[(p,.cells [.v (.slice none 0 0),.i ag,.i 0])]) 0 8 hS rfl rfl rfl fun H hS=>?_
  refine Ws ?_
  have hS0:=hS
  refine zc4 (n:=12) rfl (by kernel_rfl) ?_
  refine Olp (.ptr p 0) zgj zhy ?_
  refine Olp (.ptr p 0) zgj zhy ?_
  refine zhr (by decide) rfl ?_
  refine zap (by decide) zi1 rfl ?_
  refine zaK (v:=.v (.slice none 0 0)) 0 hS (by decide) rfl rfl (.st hS0 0 rfl (by omega)) (po zaI zaU) ?_
  refine Of ((WearRecord.cells rc)) znJ ?_
  refine Olp (.i (rc.Worn)) zaf zal ?_
  refine zbg (es:=[[.i (rc.Worn)]]) hS (by decide) zaP zdp rfl zcZ rfl (by decide) (by omega) fun H hS=>?_
  refine zsc (k:=1) (xs:=[[.i (rc.Worn)]]) hS (by decide) rfl rfl zaP zcZ (by simp) (by simp) (by omega) fun H hS=>?_
  refine zhr (by decide) rfl ?_
  refine zap (by decide) zi1 rfl ?_
  refine zaC (v:=.ms (g+4+7+5+1+4+8) 0 1 1 1) (ns:=[.ms (g+4+7+5+1+4+8) 0 1 1 1]) (L':=[((g+4+7+5+1+4+8),.cells [.i (rc.Worn)]),(g+4+7+5+1+4+7,.row 3 1),(p,.cells [.ms (g+4+7+5+1+4+8) 0 1 1 1,.i ag,.i 0])]) 2 hS rfl rfl (.st hS0 0 rfl (by omega)) rfl rfl ztV nlb rfl fun H hS=>?_
  refine Ni ?_
  replace hS:=hS.keep (L':=[((g+4+7+5+1+4+8),.cells [.i (rc.Worn)]),(p,.cells [.ms (g+4+7+5+1+4+8) 0 1 1 1,.i ag,.i 0])]) [true,false,true] rfl
  refine zas ?_
  refine zg8 [(3,.ep (BoxW_.cells ⟨⟨wk,pr,ag,sp,rg,[rc]⟩⟩)),(4,.ep [.ptr p 0]),(5,.ep [.sl .no 2 (a2.map WearWeek.cells)]),(17,.sl .no 4 ([rc].map WearRecord.cells)),(18,.i 1),(19,.i 0)] (.k (.k (.k (.k (.k (.k .nil)))))) ?_
  refine Rg 2 ?_
  refine Oi (.i 1) ?_
  refine Om (.i 1) ?_
  refine Ni ?_
  exact zbo (m:=0) true (by omega) (.k (.k (.k (.k (.k (.k .nil)))))) ⟨rfl,fun h=>(by cases h),hS.up (by omega)⟩
 ·replace hS:St O H0 [((g+4+7+5+1+4+8),.cells [.i (rc.Worn)]),(p,.cells [.ms (g+4+7+5+1+4+8) 0 1 1 1,.i ag,.i 0])] H g1:=hS
  change wpA _ _ _ _ (Fr.of [(3,.ep (BoxW_.cells ⟨⟨wk,pr,ag,sp,rg,[rc]⟩⟩)),(4,.ep [.ptr p 0]),(5,.ep [.sl .no 2 (a2.map WearWeek.cells)]),(17,.sl .no 4 ([rc].map WearRecord.cells)),(18,.i 1),(19,.i 1)]) _ _
  refine Sq ?_
  refine Rg 1 ?_
  refine Oi (.b false) ?_
  refine Ni ?_
  refine Ws ?_
  refine Sq ?_
  refine zeV (e:=false) rfl rfl ?_
  refine zb1 ?_
  refine zav ?_
  refine zau ?_
  refine zaD ?_
  refine Ws ?_
  refine Sq ?_
  refine Rg 2 ?_
  refine zcL (first:=[]) (cap:=[.ep [.sl .no 2 (a2.map WearWeek.cells)],.ep [.ptr p 0],.ep (BoxW_.cells ⟨⟨wk,pr,ag,sp,rg,[rc]⟩⟩)]) (by decide) rfl rfl ?_
  refine Oa (.fn (.func 34) [] [.ep [.sl .no 2 (a2.map WearWeek.cells)],.ep [.ptr p 0],.ep (BoxW_.cells ⟨⟨wk,pr,ag,sp,rg,[rc]⟩⟩)]) ?_
  refine Ni ?_
  refine Ws ?_
  refine zaS ?_
  exact ⟨.inr rfl,⟨_,zaw (zae (x:=.fn (.func 34) [] [.ep [.sl .no 2 (a2.map WearWeek.cells)],.ep [.ptr p 0],.ep (BoxW_.cells ⟨⟨wk,pr,ag,sp,rg,[rc]⟩⟩)]) rfl),.refl _⟩,_,hS⟩
theorem zmV {n:Nat} {a1:List WearWeek} {b:BoxW_} {r:List Int×Int×Int×Int} (hM:zhw n a1 b=some r):∃rc,b.Wear.Records=[rc]/\∃t,zcD n (fun _ (_:Unit)=>some (true,())) a1 b ((rc.Worn,b.Wear.Age,0),())=some t/\some ([t.1.1],t.1.2.1,t.1.2.2,0)=some r:=by
 unfold zhw at hM
 split at hM
 ·rename_i rc h
  obtain ⟨t,h1,hM⟩:=zaj hM
  exact ⟨rc,h,t,h1,hM⟩
 ·cases hM
theorem zl7 {n:Nat} {a0:Wear} {a1:List WearWeek} {r:List Int×Int×Int×Int} (hM:zg3 n a0 a1=some r):zaR Try.prog 10 [.agg (Wear.cells a0),.sl .no 2 (a1.map WearWeek.cells)] (.tup [.sl .no 1 (r.1.map cI),.i r.2.1,.i r.2.2.1,.i r.2.2.2]):=by
 refine zaz mixed Try.func10 rfl (by decide) Try.ntmps10 (by simp) ?pure fun H0 g hf=>?_
 case pure=>exact .tup _ (zab (.sl _ _ (zaA (fun x=>(zab (.v _) zaJ)))) (zab (.v _) (zab (.v _) (zab (.v _) zaJ))))
 rw [zah]
 change wpA _ _ _ _ (Fr.of [(0,.agg (Wear.cells a0)),(1,.sl .no 2 (a1.map WearWeek.cells))]) H0 g
 have hS:=St.start hf
 refine Sq ?_
 refine Rg 5 ?_
 refine zcg (v:=.agg (Wear.cells a0)) (cs:=(Wear.cells a0)) hS (by decide) rfl rfl (by omega) fun H hS=>?_
 refine Oa (.sl .nil 0 []) ?_
 refine Oa (.i 0) ?_
 refine Oa (.i 0) ?_
 refine Oa (.i 0) ?_
 refine Ni ?_
 refine zaW (L':=[]) 0 2 hS rfl rfl rfl fun H hS=>?_
 refine Ws ?_
 refine Sq ?_
 refine Rg 9 ?_
 refine Olg (.agg (Wear.cells a0)) zhS ?_
 refine Om (.sl .no 2 (a1.map WearWeek.cells)) ?_
 obtain ⟨r1,hr1,hM⟩:=zaj hM
 refine zaO (bs:=[.agg (Wear.cells a0),.sl .no 2 (a1.map WearWeek.cells)]) (by decide) rfl rfl (znU hr1) ?_
 refine Om (.tup [.agg (BoxW_.cells r1.1),.i r1.2]) ?_
 refine Ox (.agg (BoxW_.cells r1.1)) ?_
 refine Ox (.i (r1.2)) ?_
 refine za4 hS (by decide) zgF (by omega) fun H hS=>?_
 refine zaC (v:=.agg (BoxW_.cells r1.1)) (ns:=(BoxW_.cells r1.1)) (L':=[(g+5+6,.cells (BoxW_.cells r1.1))]) 0 hS rfl rfl .no rfl rfl ziT nlb rfl fun H hS=>?_
 refine Oa (.i (r1.2)) ?_
 refine Ni ?_
 refine zaW (L':=[]) 0 8 hS rfl rfl rfl fun H hS=>?_
 refine Ws ?_
 refine Sq ?_
 refine Sq ?_
 refine Rg 2 ?_
 refine Om (.i (r1.2)) ?_
 refine Oi (.b (r1.2 != 0)) ?_
 refine Ni ?_
 refine Ws ?_
 rcases bft (r1.2 != 0) with hb | hb
 ·replace hM:=ifT hM hb
  refine Ct hb ?_
  refine Sq ?_
  refine Rg 5 ?_
  refine Om (.i (r1.2)) ?_
  refine Oa (.sl .nil 0 []) ?_
  refine Oa (.i 0) ?_
  refine Oa (.i 0) ?_
  refine Oa (.i (r1.2)) ?_
  refine Ni ?_
  refine Ws ?_
  refine zaS ?_
  refine zao ?_
  refine zbe (u:=(([]:List Int),(0:Int),(0:Int),r1.2)) (x:=.tup [.sl .nil 0 [],.i 0,.i 0,.i (r1.2)]) (f:=fun r:List Int×Int×Int×Int=>.tup [.sl .no 1 (r.1.map cI),.i r.2.1,.i r.2.2.1,.i r.2.2.2]) (.inr rfl) ?_ (.tupL (.cons (.sl0 .nil 1 0) (.k (.k (.k .nil))))) (Option.some.inj hM) hS
  exact zpm (zae rfl) (zae rfl) (zae rfl) (zae rfl)
 ·replace hM:=ifF hM hb
  obtain ⟨rc,hrc,t,ht,hM⟩:=zmV hM
  refine Cf hb ?_
  refine zay ?_
  refine Ws ?_
  refine Sq ?_
  refine Rg 1 ?_
  refine za4 hS (by decide) zsk (by omega) fun H hS=>?_
  refine Ni ?_
  refine zoH (cs':=[.v (.slice none 0 0),.i 0,.i 0]) (L':=[((g+5+9+2+0),.cells [.v (.slice none 0 0),.i 0,.i 0])]) 0 hS rfl (.cons (.nv 0 []) (.k (.k .nil))) rfl fun H hS=>?_
  refine Ws ?_
  refine Sq ?_
  refine Sq ?_
  refine Rg 3 ?_
  refine Olg (.agg (BoxW_.cells r1.1)) zgi ?_
  refine Om (.sl .no 2 (a1.map WearWeek.cells)) ?_
  refine zie (v:=.fn (.func 34) [] [.ep [.sl .no 2 (a1.map WearWeek.cells)],.ep [.ptr (g+5+9+2+0) 0],.ep (BoxW_.cells r1.1)]) (by decide) rfl rfl (zlz hrc (fun j hj=>hS.fr j (by omega)) (hS.get (n:=0) rfl)) (.inl rfl) ?_
  refine Ni ?_
  replace hS:St (·<g) H0 [((g+5+9+2+1+3+4+7+5+1+4+8),.cells [.i (rc.Worn)]),((g+5+9+2+0),.cells [.ms (g+5+9+2+1+3+4+7+5+1+4+8) 0 1 1 1,.i (r1.1.Wear.Age),.i 0])] _ ((g+5+9+2+1+3+4+7+5+1+4+8)+1):=(hS.put (n:=0) rfl (.cells [.ms (g+5+9+2+1+3+4+7+5+1+4+8) 0 1 1 1,.i (r1.1.Wear.Age),.i 0])).add (i:=(g+5+9+2+1+3+4+7+5+1+4+8)) (.cells [.i (rc.Worn)]) (by omega)
  refine Ws ?_
  refine zaB ?_
  refine ztH (Lo:=fun _:Unit=>[]) (R:=fun x s b s'=>∃y:Int,x=.i y/\b=true) (s0:=()) (sF:=()) (A:=[((g+5+9+2+0),.cells [.ms (g+5+9+2+1+3+4+7+5+1+4+8) 0 1 1 1,.i (r1.1.Wear.Age),.i 0]),((g+5+9+2+1+3+4+7+5+1+4+8),.cells [.i (rc.Worn)])]) (A':=[((g+5+9+2+0),.cells [.ms (g+5+9+2+1+3+4+7+5+1+4+8) 0 1 1 1,.i (t.1.2.1),.i (t.1.2.2)]),((g+5+9+2+1+3+4+7+5+1+4+8),.cells [.i (t.1.1)])]) (L':=[((g+5+9+2+1+3+4+7+5+1+4+8),.cells [.i (t.1.1)]),((g+5+9+2+0),.cells [.ms (g+5+9+2+1+3+4+7+5+1+4+8) 0 1 1 1,.i (t.1.2.1),.i (t.1.2.2)])]) [] [1,0] hS (by omega) rfl rfl rfl (.cons rfl (.cons rfl .nil)) (by decide) rfl (zd1 (zd1 zfS)) (fun _ _=>zfS) (fun _=>zeW) (fun s H hH=>zb2) .nil rfl (by decide) rfl ?_ (fun F Lx hk1 hnd1 hin1 hF1 h01 hf1=>zjt (Lo:=Lx) hk1 hnd1 hin1 (aF:=fun _ (_:Unit)=>some (true,())) (fun {x0 s r} h=>by obtain rfl:=Option.some.inj h;exact hf1 _ _ _ _ ⟨x0,rfl,rfl⟩) ht) fun H hS=>?_
  ·rintro x s b s' ⟨y,rfl,rfl⟩
   refine ⟨rfl,fun H' g1 hf' hh'=>?_⟩
   have hS:=St.start hf'
   change wpA _ _ _ _ (Fr.of [(22,.i y)]) _ _
   refine zay ?_
   refine zwj (l3:=[]) .nil hS (by omega) fun Hb H hS=>?_
   replace hS:St (fun i=>i<g1/\i∉ids []) Hb [] H _:=hS
   refine zaB ?_
   refine zay ?_
   refine zas ?_
   exact zwi (hS.keep [] rfl)
  refine zas ?_
  refine Ws ?_
  refine Sq ?_
  have hS0:=hS
  refine zc4 (n:=10) rfl (by kernel_rfl) ?_
  refine zap (by decide) zi1 rfl ?_
  refine zaK (v:=.ms (g+5+9+2+1+3+4+7+5+1+4+8) 0 1 1 1) 1 hS (by decide) rfl rfl (.st hS0 1 rfl (by omega)) (po zaI zaU) ?_
  refine zap (by decide) zi2 rfl ?_
  refine zaK (v:=.i (t.1.2.1)) 1 hS (by decide) rfl rfl (.st hS0 1 rfl (by omega)) (po zmL zoR) ?_
  refine zap (by decide) zk1 rfl ?_
  refine zaK (v:=.i (t.1.2.2)) 1 hS (by decide) rfl rfl (.st hS0 1 rfl (by omega)) (po zaf zal) ?_
  refine Oa (.ms (g+5+9+2+1+3+4+7+5+1+4+8) 0 1 1 1) ?_
  refine Oa (.i (t.1.2.1)) ?_
  refine Oa (.i (t.1.2.2)) ?_
  refine Oa (.i 0) ?_
  refine Ni ?_
  refine zwz (t:=4) (k:=1) (es:=[[.i (t.1.1)]]) (L':=[((g+5+9+2+0),.cells [.ms (g+5+9+2+1+3+4+7+5+1+4+8) 0 1 1 1,.i (t.1.2.1),.i (t.1.2.2)])]) 0 hS rfl rfl rfl (by decide) (by decide) (fun e he=>by simp at he;subst he;rfl) (fun e he c hc=>by simp at he;subst he;simp at hc;subst hc;exact ⟨_,rfl⟩) rfl fun H hS=>?_
  refine zg8 [(4,.sl .no 1 [[.i (t.1.1)]]),(5,.i (t.1.2.1)),(6,.i (t.1.2.2)),(7,.i 0)] (.k (.k (.k (.k .nil)))) ?_
  refine zaS ?_
  refine zbe (u:=([t.1.1],t.1.2.1,t.1.2.2,(0:Int))) (x:=.tup [.sl .no 1 [[.i (t.1.1)]],.i (t.1.2.1),.i (t.1.2.2),.i 0]) (f:=fun r:List Int×Int×Int×Int=>.tup [.sl .no 1 (r.1.map cI),.i r.2.1,.i r.2.2.1,.i r.2.2.2]) (.inr rfl) ?_ (.refl _) (Option.some.inj hM) (hS.keep [false] rfl)
  exact zpm (zae rfl) (zae rfl) (zae rfl) (zae rfl)
theorem zg9 {n:Nat} {a0:List Int} {a1:List Int} {r:Bool} (hM:zee n a0 a1=some r):zaR Try.prog 11 [.sl .no 1 (a0.map cI),.sl .no 1 (a1.map cI)] (.b r):=by
 refine zaz mixed Try.func11 rfl (by decide) Try.ntmps11 (by simp) ?pure fun H0 g hf=>?_
 case pure=>exact .v _
 rw [zah]
 change wpA _ _ _ _ (Fr.of [(0,.sl .no 1 (a0.map cI)),(1,.sl .no 1 (a1.map cI))]) H0 g
 have hS:=St.start hf
 refine Sq ?_
 refine Rg 1 ?_
 refine Oa (.b false) ?_
 refine Ni ?_
 refine Ws ?_
 refine Sq ?_
 refine Sq ?_
 refine Rg 5 ?_
 refine Om (.sl .no 1 (a0.map cI)) ?_
 refine zb9 (n:=a0.length) (by decide) rfl (List.length_map _) zaQ ?_
 refine Om (.sl .no 1 (a1.map cI)) ?_
 refine zb9 (n:=a1.length) (by decide) rfl (List.length_map _) zaQ ?_
 refine Oi (.b ((a0.length:Int) != (a1.length:Int))) ?_
 refine Ni ?_
 refine Ws ?_
 rcases bft ((a0.length:Int) != (a1.length:Int)) with hb1 | hb1
 ·replace hM:=ifT hM hb1
  refine Ct hb1 ?_
  refine Sq ?_
  refine Rg 1 ?_
  refine Oa (.b false) ?_
  refine Ni ?_
  refine Ws ?_
  refine zaS ?_
  refine zao ?_
  refine zbe (x:=.b false) (f:=fun r=>.b r) (.inr rfl) ?_ (.refl _) (Option.some.inj hM) hS
  exact (zaw (zae (x:=.b false) rfl))
 ·replace hM:=ifF hM hb1
  refine Cf hb1 ?_
  refine zay ?_
  refine Ws ?_
  refine zaY (J:=Unit) (fun j=>[]) (fun j H' g'=>St (·<g) H0 [] H' g'/\zd6=some r) ?_ ?_
  ·rintro _ H g1 ⟨hS,hM⟩
   change wpA _ _ _ _ (Fr.of []) _ _
   replace hS:St (·<g) H0 [] H g1:=hS
   replace hM:zd6=some r:=hM
   refine Sq ?_
   refine Rg 1 ?_
   refine Oa (.b true) ?_
   refine Ni ?_
   refine Ws ?_
   refine zaS ?_
   refine zbe (x:=.b true) (f:=fun r=>.b r) (.inr rfl) ?_ (.refl _) (Option.some.inj hM) hS
   exact (zaw (zae (x:=.b true) rfl))
  ·refine Sq ?_
   refine Rg 1 ?_
   refine Oa (.i 0) ?_
   refine Ni ?_
   refine Ws ?_
   refine zaB ?_
   refine zco (V:=Int) (fun v=>[(0,.sl .no 1 (a0.map cI)),(1,.sl .no 1 (a1.map cI)),(5,.i v)]) (fun v m2 H' g'=>St (·<g) H0 [] H' g'/\zbJ a0 a1 m2 v=some r) (n:=n) 0 (.k (.k (.k .nil))) ⟨(hS.keep [] rfl).up (by omega),hM⟩ ?_
   rintro v2 m2 H g2 ⟨hS,hM⟩
   obtain _ | m2:=m2
   ·exact nomatch (show none=some _ from hM)
   change wpA _ _ _ _ (Fr.of [(0,.sl .no 1 (a0.map cI)),(1,.sl .no 1 (a1.map cI)),(5,.i v2)]) _ _
   replace hS:St (·<g) H0 [] H g2:=hS
   replace hM:zdo a0 a1 (zbJ a0 a1 m2) v2=some r:=hM
   refine Sq ?_
   refine Sq ?_
   refine Rg 4 ?_
   refine Om (.i v2) ?_
   refine Om (.sl .no 1 (a0.map cI)) ?_
   refine zb9 (n:=a0.length) (by decide) rfl (List.length_map _) zaQ ?_
   refine Oi (.b (decide (v2<(a0.length:Int)))) ?_
   refine Ni ?_
   refine Ws ?_
   rcases bft (decide (v2<(a0.length:Int))) with hb3 | hb3
   ·replace hM:=ifT hM hb3
    refine Ct hb3 ?_
    refine zay ?_
    refine Ws ?_
    refine Sq ?_
    refine zaB ?_
    refine Sq ?_
    have hS0:=hS
    refine zc4 (n:=9) rfl (by kernel_rfl) ?_
    refine Om (.sl .no 1 (a0.map cI)) ?_
    refine Om (.i v2) ?_
    obtain ⟨x4,hx4,hM⟩:=zaj hM
    refine za8 (xs:=a0) (f:=cI) (z:=v2) (u:=x4) (by decide) rfl rfl zaP hx4 ?_
    refine Olp (.i x4) zaf zal ?_
    refine Om (.sl .no 1 (a1.map cI)) ?_
    refine Om (.i v2) ?_
    obtain ⟨x5,hx5,hM⟩:=zaj hM
    refine za8 (xs:=a1) (f:=cI) (z:=v2) (u:=x5) (by decide) rfl rfl zaP hx5 ?_
    refine Olp (.i x5) zaf zal ?_
    refine Oi (.b (x4 != x5)) ?_
    refine Ni ?_
    refine Ws ?_
    rcases bft (x4 != x5) with hb6 | hb6
    ·replace hM:=ifT hM hb6
     refine Ct hb6 ?_
     refine Sq ?_
     refine Rg 1 ?_
     refine Oa (.b false) ?_
     refine Ni ?_
     refine Ws ?_
     refine zaS ?_
     refine zaV ?_
     refine zao ?_
     refine zbA ?_
     refine zaV ?_
     refine zcn ?_
     refine zbe (x:=.b false) (f:=fun r=>.b r) (.inr rfl) ?_ (.refl _) (Option.some.inj hM) hS
     exact (zaw (zae (x:=.b false) rfl))
    ·replace hM:=ifF hM hb6
     refine Cf hb6 ?_
     refine zay ?_
     refine zas ?_
     refine Ws ?_
     refine Rg 3 ?_
     refine Om (.i v2) ?_
     refine Oi (.i (w64 (v2+1))) ?_
     refine Oa (.i (w64 (v2+1))) ?_
     refine Ni ?_
     exact zbo (w64 (v2+1)) (Nat.lt_succ_self _) (.k (.k (.k .nil))) ⟨(hS.keep [] rfl).up (by omega),hM⟩
   ·replace hM:=ifF hM hb3
    refine Cf hb3 ?_
    refine zb1 ?_
    refine zav ?_
    refine zau ?_
    refine zaD ?_
    exact zai () .nil ⟨(hS.keep [] rfl).up (by omega),hM⟩
theorem zlA {n:Nat} {a0:Wheel} {a1:List Int} {a2:Turning} {r:Bool} (hM:zhx n a0 a1 a2=some r):zaR Try.prog 3 [.agg (Wheel.cells a0),.sl .no 1 (a1.map cI),.agg (Turning.cells a2)] (.b r):=by
 refine zaz mixed Try.func3 rfl (by decide) Try.ntmps3 (by simp) ?pure fun H0 g hf=>?_
 case pure=>exact .v _
 rw [zah]
 change wpA _ _ _ _ (Fr.of [(0,.agg (Wheel.cells a0)),(1,.sl .no 1 (a1.map cI)),(2,.agg (Turning.cells a2))]) H0 g
 have hS:=St.start hf
 refine Sq ?_
 refine Rg 3 ?_
 refine zcg (v:=.agg (Wheel.cells a0)) (cs:=(Wheel.cells a0)) hS (by decide) rfl rfl (by omega) fun H hS=>?_
 refine zcg (v:=.agg (Turning.cells a2)) (cs:=(Turning.cells a2)) hS (by decide) rfl rfl (by omega) fun H hS=>?_
 refine Oa (.b false) ?_
 refine Ni ?_
 refine zaW (L':=[(g+1,.cells (Turning.cells a2))]) 1 3 hS rfl rfl rfl fun H hS=>?_
 refine zaW (L':=[]) 0 5 hS rfl rfl rfl fun H hS=>?_
 refine Ws ?_
 refine Sq ?_
 refine zaY (J:=Bool) (fun j=>[(1,.sl .no 1 (a1.map cI)),(3,.ep (Wheel.cells a0)),(5,.ep (Turning.cells a2)),(43,.b j)]) (fun j H' g'=>St (·<g) H0 [] H' g'/\zbX n a0 a1 a2 j=some r) ?_ ?_
 ·rintro v1 H g1 ⟨hS,hM⟩
  change wpA _ _ _ _ (Fr.of [(1,.sl .no 1 (a1.map cI)),(3,.ep (Wheel.cells a0)),(5,.ep (Turning.cells a2)),(43,.b v1)]) _ _
  replace hS:St (·<g) H0 [] H g1:=hS
  replace hM:zbX n a0 a1 a2 v1=some r:=hM
  rcases bft v1 with hb2 | hb2
  ·replace hM:=ifT hM hb2
   refine Ct hb2 ?_
   refine Sq ?_
   refine Rg 2 ?_
   obtain ⟨r3,hr3,hM⟩:=zaj hM
   refine zaO (bs:=[]) (by decide) rfl rfl ((zfA hr3).le .nil) ?_
   refine Oa (.b r3) ?_
   refine Ni ?_
   refine Ws ?_
   refine zaS ?_
   refine zao ?_
   refine zbe (x:=.b r3) (f:=fun r=>.b r) (.inr rfl) ?_ (.refl _) (Option.some.inj hM) hS
   exact (zaw (zae (x:=.b r3) rfl))
  ·replace hM:=ifF hM hb2
   refine Cf hb2 ?_
   refine zay ?_
   refine Ws ?_
   refine Sq ?_
   have hS0:=hS
   refine zc4 (n:=10) rfl (by kernel_rfl) ?_
   refine Olg (.agg (Wheel.cells a0)) zdq ?_
   refine zbg (es:=[]) hS (by decide) zaP zdp rfl zcZ rfl (by decide) (by omega) fun H hS=>?_
   refine Om (.sl .no 1 (a1.map cI)) ?_
   obtain ⟨l4,hl4,hM⟩:=zaj hM
   refine zj2 (xs:=([]:List Int)) (ys:=a1) (zs:=l4) (f:=cI) (L':=[(g1+1,.row 3 l4.length)]) 0 hS (by decide) rfl rfl rfl rfl (.behind (by kernel_rfl)) zaP zdp zcZ hl4 rfl fun H hS=>?_
   obtain ⟨r5,hr5,hM⟩:=zaj hM
   refine zaO (bs:=[.agg (Wheel.cells a0),.sl (.id (g1+1)) 1 (l4.map cI)]) (by decide) rfl rfl ((zjJ hr5).le (.k (.cons (.sl _ _ _) .nil))) ?_
   refine Om (.tup [.i r5.1,.i r5.2]) ?_
   refine Ox (.i r5.1) ?_
   refine Ox (.i r5.2) ?_
   refine Oa (.i r5.1) ?_
   refine Oa (.i r5.2) ?_
   refine Ni ?_
   replace hS:=hS.keep (L':=[]) [false] rfl
   refine Ws ?_
   refine Sq ?_
   refine zaY (J:=Bool) (fun j=>[(5,.ep (Turning.cells a2)),(7,.i r5.1),(58,.b j)]) (fun j H' g'=>St (·<g) H0 [] H' g'/\zdU n a2 r5 j=some r) ?_ ?_
   ·rintro v6 H g2 ⟨hS,hM⟩
    change wpA _ _ _ _ (Fr.of [(5,.ep (Turning.cells a2)),(7,.i r5.1),(58,.b v6)]) _ _
    replace hS:St (·<g) H0 [] H g2:=hS
    replace hM:zdU n a2 r5 v6=some r:=hM
    rcases bft v6 with hb7 | hb7
    ·replace hM:=ifT hM hb7
     refine Ct hb7 ?_
     refine Sq ?_
     refine Rg 1 ?_
     refine Oa (.b false) ?_
     refine Ni ?_
     refine Ws ?_
     refine zaS ?_
     refine zao ?_
     refine zbe (x:=.b false) (f:=fun r=>.b r) (.inr rfl) ?_ (.refl _) (Option.some.inj hM) hS
     exact (zaw (zae (x:=.b false) rfl))
    ·replace hM:=ifF hM hb7
     refine Cf hb7 ?_
     refine zay ?_
     refine Ws ?_
     refine Sq ?_
     refine Rg 14 ?_
     refine Of ((Turning.cells a2)) znI ?_
     refine Olp (.i a2.Age) zaf zal ?_
     refine Of ((Turning.cells a2)) zsv ?_
     refine Olp (.i a2.Step) zaf zal ?_
     refine Of ((Turning.cells a2)) znH ?_
     refine Olp (.i a2.Rough) zaf zal ?_
     refine zbg (es:=[[.i a2.Rough]]) hS (by decide) zaP zdp rfl zcZ rfl (by decide) (by omega) fun H hS=>?_
     refine Om (.i r5.1) ?_
     refine zbg (es:=[[.i r5.1]]) hS (by decide) zaP zdp rfl zcZ rfl (by decide) (by omega) fun H hS=>?_
     refine zbf (cs:=[.i 0,.i 99999,.i 0,.sl (.id (g2+8)) 1 (([r5.1]:List Int).map cI)]) (by decide) ziP zvk rfl ?_
     refine zgX (es:=[[.i 0,.i 99999,.i 0,.sl (.id (g2+8)) 1 (([r5.1]:List Int).map cI)]]) (es':=[[.i 0,.i 99999,.i 0,.sl .no 1 (([r5.1]:List Int).map cI)]]) hS (by decide) zmH zvl rfl zvm rfl (by decide) (by omega) (zmy (zkN (.k (.k (.k (.cons (.sl _ _ _) .nil)))) zmE)) fun H hS=>?_
     refine zbf (cs:=[.i 1,.i 0,.i a2.Age,.i a2.Step,.sl (.id (g2+6)) 1 (([a2.Rough]:List Int).map cI),.sl (.id (g2+10)) 4 (([(⟨0,99999,0,([r5.1]:List Int)⟩:WearRecord)]:List WearRecord).map WearRecord.cells)]) (by decide) znE zvn rfl ?_
     refine za4 hS (by decide) znE (by omega) fun H hS=>?_
     refine zaC (v:=.agg [.i 1,.i 0,.i a2.Age,.i a2.Step,.sl (.id (g2+6)) 1 (([a2.Rough]:List Int).map cI),.sl (.id (g2+10)) 4 (([(⟨0,99999,0,([r5.1]:List Int)⟩:WearRecord)]:List WearRecord).map WearRecord.cells)]) (ns:=[.i 1,.i 0,.i a2.Age,.i a2.Step,.sl (.id (g2+6)) 1 (([a2.Rough]:List Int).map cI),.sl (.id (g2+10)) 4 (([(⟨0,99999,0,([r5.1]:List Int)⟩:WearRecord)]:List WearRecord).map WearRecord.cells)]) (L':=[(g2+12,.cells [.i 1,.i 0,.i a2.Age,.i a2.Step,.sl (.id (g2+6)) 1 (([a2.Rough]:List Int).map cI),.sl (.id (g2+10)) 4 (([(⟨0,99999,0,([r5.1]:List Int)⟩:WearRecord)]:List WearRecord).map WearRecord.cells)]),(g2+10,.row 35 1),(g2+8,.row 3 1),(g2+6,.row 3 1)]) 0 hS rfl rfl .no rfl rfl ztX nlb rfl fun H hS=>?_
     refine Ni ?_
     refine zoH (cs':=[.i 1,.i 0,.i a2.Age,.i a2.Step,.sl .no 1 (([a2.Rough]:List Int).map cI),.sl .no 4 (([(⟨0,99999,0,([r5.1]:List Int)⟩:WearRecord)]:List WearRecord).map WearRecord.cells)]) (L':=[(g2+12,.cells [.i 1,.i 0,.i a2.Age,.i a2.Step,.sl .no 1 (([a2.Rough]:List Int).map cI),.sl .no 4 (([(⟨0,99999,0,([r5.1]:List Int)⟩:WearRecord)]:List WearRecord).map WearRecord.cells)]),(g2+10,.row 35 1),(g2+8,.row 3 1),(g2+6,.row 3 1)]) 0 hS rfl (.k (.k (.k (.k (.cons (.sl _ _ _) (.cons (.sl _ _ _) .nil)))))) rfl fun H hS=>?_
     refine zaW (L':=[(g2+10,.row 35 1),(g2+8,.row 3 1),(g2+6,.row 3 1)]) 0 9 hS rfl rfl rfl fun H hS=>?_
     replace hS:=hS.keep (L':=[]) [false,false,false] rfl
     refine Ws ?_
     refine Sq ?_
     refine zaY (J:=Bool) (fun j=>[(5,.ep (Turning.cells a2)),(7,.i r5.1),(9,.ep [.i 1,.i 0,.i a2.Age,.i a2.Step,.sl .no 1 (([a2.Rough]:List Int).map cI),.sl .no 4 (([(⟨0,99999,0,([r5.1]:List Int)⟩:WearRecord)]:List WearRecord).map WearRecord.cells)]),(77,.b j)]) (fun j H' g'=>St (·<g) H0 [] H' g'/\zcm n a2 r5 j=some r) ?_ ?_
     ·rintro v8 H g3 ⟨hS,hM⟩
      change wpA _ _ _ _ (Fr.of [(5,.ep (Turning.cells a2)),(7,.i r5.1),(9,.ep [.i 1,.i 0,.i a2.Age,.i a2.Step,.sl .no 1 (([a2.Rough]:List Int).map cI),.sl .no 4 (([(⟨0,99999,0,([r5.1]:List Int)⟩:WearRecord)]:List WearRecord).map WearRecord.cells)]),(77,.b v8)]) _ _
      replace hS:St (·<g) H0 [] H g3:=hS
      replace hM:zcm n a2 r5 v8=some r:=hM
      rcases bft v8 with hb9 | hb9
      ·replace hM:=ifT hM hb9
       refine Ct hb9 ?_
       refine Sq ?_
       refine Rg 2 ?_
       obtain ⟨r10,hr10,hM⟩:=zaj hM
       refine zaO (bs:=[]) (by decide) rfl rfl ((zfA hr10).le .nil) ?_
       refine Oa (.b r10) ?_
       refine Ni ?_
       refine Ws ?_
       refine zaS ?_
       refine zao ?_
       refine zbe (x:=.b r10) (f:=fun r=>.b r) (.inr rfl) ?_ (.refl _) (Option.some.inj hM) hS
       exact (zaw (zae (x:=.b r10) rfl))
      ·replace hM:=ifF hM hb9
       refine Cf hb9 ?_
       refine zay ?_
       refine Ws ?_
       refine Sq ?_
       refine Rg 13 ?_
       refine Olg (.agg [.i 1,.i 0,.i a2.Age,.i a2.Step,.sl .no 1 (([a2.Rough]:List Int).map cI),.sl .no 4 (([(⟨0,99999,0,([r5.1]:List Int)⟩:WearRecord)]:List WearRecord).map WearRecord.cells)]) zhS ?_
       refine zbf (cs:=[.i 0,.sl .nil 0 []]) (by decide) zkQ zse rfl ?_
       refine zgX (es:=[[.i 0,.sl .nil 0 []]]) (es':=[[.i 0,.sl .no 1 (([]:List Int).map cI)]]) hS (by decide) zmK zsf rfl zsg rfl (by decide) (by omega) (zmy (zkN (.k (.cons (.sl0 .nil 1 0) .nil)) zmE)) fun H hS=>?_
       obtain ⟨r11,hr11,hM⟩:=zaj hM
       refine zaO (bs:=[.agg [.i 1,.i 0,.i a2.Age,.i a2.Step,.sl .no 1 (([a2.Rough]:List Int).map cI),.sl .no 4 (([(⟨0,99999,0,([r5.1]:List Int)⟩:WearRecord)]:List WearRecord).map WearRecord.cells)],.sl (.id (g3+2)) 2 (([(⟨0,([]:List Int)⟩:WearWeek)]:List WearWeek).map WearWeek.cells)]) (by decide) rfl rfl ((zl7 hr11).le (.k (.cons (.sl _ _ _) .nil))) ?_
       refine Om (.tup [.sl .no 1 (r11.1.map cI),.i r11.2.1,.i r11.2.2.1,.i r11.2.2.2]) ?_
       refine Ox (.sl .no 1 (r11.1.map cI)) ?_
       refine Ox (.i r11.2.1) ?_
       refine Ox (.i r11.2.2.1) ?_
       refine Ox (.i r11.2.2.2) ?_
       refine Oa (.sl .no 1 (r11.1.map cI)) ?_
       refine Oa (.i r11.2.1) ?_
       refine Oa (.i r11.2.2.1) ?_
       refine Oa (.i r11.2.2.2) ?_
       refine Ni ?_
       replace hS:=hS.keep (L':=[]) [false] rfl
       refine Ws ?_
       refine Sq ?_
       refine Rg 13 ?_
       refine Olg (.agg [.i 1,.i 0,.i a2.Age,.i a2.Step,.sl .no 1 (([a2.Rough]:List Int).map cI),.sl .no 4 (([(⟨0,99999,0,([r5.1]:List Int)⟩:WearRecord)]:List WearRecord).map WearRecord.cells)]) zhS ?_
       refine zbf (cs:=[.i 1,.sl .nil 0 []]) (by decide) zkQ zse rfl ?_
       refine zgX (es:=[[.i 1,.sl .nil 0 []]]) (es':=[[.i 1,.sl .no 1 (([]:List Int).map cI)]]) hS (by decide) zmK zsf rfl zsg rfl (by decide) (by omega) (zmy (zkN (.k (.cons (.sl0 .nil 1 0) .nil)) zmE)) fun H hS=>?_
       obtain ⟨r12,hr12,hM⟩:=zaj hM
       refine zaO (bs:=[.agg [.i 1,.i 0,.i a2.Age,.i a2.Step,.sl .no 1 (([a2.Rough]:List Int).map cI),.sl .no 4 (([(⟨0,99999,0,([r5.1]:List Int)⟩:WearRecord)]:List WearRecord).map WearRecord.cells)],.sl (.id (g3+13+2)) 2 (([(⟨1,([]:List Int)⟩:WearWeek)]:List WearWeek).map WearWeek.cells)]) (by decide) rfl rfl ((zl7 hr12).le (.k (.cons (.sl _ _ _) .nil))) ?_
       refine Om (.tup [.sl .no 1 (r12.1.map cI),.i r12.2.1,.i r12.2.2.1,.i r12.2.2.2]) ?_
       refine Ox (.sl .no 1 (r12.1.map cI)) ?_
       refine Ox (.i r12.2.1) ?_
       refine Ox (.i r12.2.2.1) ?_
       refine Ox (.i r12.2.2.2) ?_
       refine Oa (.sl .no 1 (r12.1.map cI)) ?_
       refine Oa (.i r12.2.1) ?_
       refine Oa (.i r12.2.2.1) ?_
       refine Oa (.i r12.2.2.2) ?_
       refine Ni ?_
       replace hS:=hS.keep (L':=[]) [false] rfl
       refine Ws ?_
       refine Sq ?_
       refine Rg 6 ?_
       refine Om (.i r5.1) ?_
       refine Of ((Turning.cells a2)) znH ?_
       refine Olp (.i a2.Rough) zaf zal ?_
       refine Oi (.i (w64 (r5.1*a2.Rough))) ?_
       refine zbg (es:=[[.i (w64 (r5.1*a2.Rough))]]) hS (by decide) zaP zdp rfl zcZ rfl (by decide) (by omega) fun H hS=>?_
       refine Oa (.sl (.id (g3+13+13+4)) 1 (([w64 (r5.1*a2.Rough)]:List Int).map cI)) ?_
       refine Ni ?_
       refine Ws ?_
       refine zaY (J:=Bool) (fun j=>[(6,.b j)]) (fun j H' g'=>St (·<g) H0 [] H' g'/\zbW j=some r) ?_ ?_
       ·rintro v13 H g4 ⟨hS,hM⟩
        change wpA _ _ _ _ (Fr.of [(6,.b v13)]) _ _
        replace hS:St (·<g) H0 [] H g4:=hS
        replace hM:zbW v13=some r:=hM
        refine zaS ?_
        refine zbe (x:=.b v13) (f:=fun r=>.b r) (.inr rfl) ?_ (.refl _) (Option.some.inj hM) hS
        exact (zaw (zae (x:=.b v13) rfl))
       ·refine Rg 33 ?_
        refine Om (.i r11.2.2.2) ?_
        refine Oi (.b (r11.2.2.2==0)) ?_
        refine Om (.b (r11.2.2.2==0)) ?_
        rcases bft (r11.2.2.2==0) with hb14 | hb14
        ·replace hM:=ifT hM hb14
         refine Oy (want:=true) hb14 ?_
         refine Om (.i r12.2.2.2) ?_
         refine Oy (want:=true) hb14 ?_
         refine Oi (.b (r12.2.2.2==0)) ?_
         refine Pt (.b (r12.2.2.2==0)) hb14 ?_
         refine Om (.b (r12.2.2.2==0)) ?_
         rcases bft (r12.2.2.2==0) with hb15 | hb15
         ·replace hM:=ifT hM hb15
          refine Oy (want:=true) hb15 ?_
          refine Om (.i r11.2.1) ?_
          refine Oy (want:=true) hb15 ?_
          refine Of ((Turning.cells a2)) znI ?_
          refine Oy (want:=true) hb15 ?_
          refine Olp (.i a2.Age) zaf zal ?_
          refine Oy (want:=true) hb15 ?_
          refine Om (.i r5.1) ?_
          refine Oy (want:=true) hb15 ?_
          refine Oi (.i (w64 (a2.Age+r5.1))) ?_
          refine Oy (want:=true) hb15 ?_
          refine Oi (.b (r11.2.1==(w64 (a2.Age+r5.1)))) ?_
          refine Pt (.b (r11.2.1==(w64 (a2.Age+r5.1)))) hb15 ?_
          refine Om (.b (r11.2.1==(w64 (a2.Age+r5.1)))) ?_
          rcases bft (r11.2.1==(w64 (a2.Age+r5.1))) with hb16 | hb16
          ·replace hM:=ifT hM hb16
           refine Oy (want:=true) hb16 ?_
           refine Om (.i r12.2.1) ?_
           refine Oy (want:=true) hb16 ?_
           refine Om (.i r5.1) ?_
           refine Oy (want:=true) hb16 ?_
           refine Oi (.b (r12.2.1==r5.1)) ?_
           refine Pt (.b (r12.2.1==r5.1)) hb16 ?_
           refine Om (.b (r12.2.1==r5.1)) ?_
           rcases bft (r12.2.1==r5.1) with hb17 | hb17
           ·replace hM:=ifT hM hb17
            refine Oy (want:=true) hb17 ?_
            refine Om (.sl .no 1 (r11.1.map cI)) ?_
            refine Oy (want:=true) hb17 ?_
            refine Om (.sl (.id (g3+13+13+4)) 1 (([w64 (r5.1*a2.Rough)]:List Int).map cI)) ?_
            refine Oy (want:=true) hb17 ?_
            obtain ⟨r18,hr18,hM⟩:=zaj hM
            refine zaO (bs:=[.sl .no 1 (r11.1.map cI),.sl (.id (g3+13+13+4)) 1 (([w64 (r5.1*a2.Rough)]:List Int).map cI)]) (by decide) rfl rfl ((zg9 hr18).le (.k (.cons (.sl _ _ _) .nil))) ?_
            refine Pt (.b r18) hb17 ?_
            refine Om (.b r18) ?_
            rcases bft r18 with hb19 | hb19
            ·replace hM:=ifT hM hb19
             refine Oy (want:=true) hb19 ?_
             refine Om (.sl .no 1 (r12.1.map cI)) ?_
             refine Oy (want:=true) hb19 ?_
             refine Om (.sl (.id (g3+13+13+4)) 1 (([w64 (r5.1*a2.Rough)]:List Int).map cI)) ?_
             refine Oy (want:=true) hb19 ?_
             obtain ⟨r20,hr20,hM⟩:=zaj hM
             refine zaO (bs:=[.sl .no 1 (r12.1.map cI),.sl (.id (g3+13+13+4)) 1 (([w64 (r5.1*a2.Rough)]:List Int).map cI)]) (by decide) rfl rfl ((zg9 hr20).le (.k (.cons (.sl _ _ _) .nil))) ?_
             refine Pt (.b r20) hb19 ?_
             refine Om (.b r20) ?_
             rcases bft r20 with hb21 | hb21
             ·replace hM:=ifT hM hb21
              refine Oy (want:=true) hb21 ?_
              obtain ⟨r22,hr22,hM⟩:=zaj hM
              refine zaO (bs:=[]) (by decide) rfl rfl ((zfA hr22).le .nil) ?_
              refine Pt (.b r22) hb21 ?_
              refine Oa (.b r22) ?_
              refine Ni ?_
              exact zai r22 (.k .nil) ⟨(hS.keep [false] rfl).up (by omega),hM⟩
             ·replace hM:=ifF hM hb21
              refine On (want:=true) hb21 ?_
              refine Pf (.b false) hb21 ?_
              refine Oa (.b false) ?_
              refine Ni ?_
              exact zai false (.k .nil) ⟨(hS.keep [false] rfl).up (by omega),hM⟩
            ·replace hM:=ifF hM hb19
             refine On (want:=true) hb19 ?_
             refine On (want:=true) hb19 ?_
             refine On (want:=true) hb19 ?_
             refine Pf (.b false) hb19 ?_
             refine Om (.b false) ?_
             refine Og ?_
             refine zcJ (v:=.b false) (e:=false) (by decide) rfl rfl rfl ?_
             refine Oa (.b false) ?_
             refine Ni ?_
             exact zai false (.k .nil) ⟨(hS.keep [false] rfl).up (by omega),hM⟩
           ·replace hM:=ifF hM hb17
            refine On (want:=true) hb17 ?_
            refine On (want:=true) hb17 ?_
            refine On (want:=true) hb17 ?_
            refine Pf (.b false) hb17 ?_
            refine Om (.b false) ?_
            refine Og ?_
            refine Og ?_
            refine Og ?_
            refine zcJ (v:=.b false) (e:=false) (by decide) rfl rfl rfl ?_
            refine Om (.b false) ?_
            refine Og ?_
            refine zcJ (v:=.b false) (e:=false) (by decide) rfl rfl rfl ?_
            refine Oa (.b false) ?_
            refine Ni ?_
            exact zai false (.k .nil) ⟨(hS.keep [false] rfl).up (by omega),hM⟩
          ·replace hM:=ifF hM hb16
           refine On (want:=true) hb16 ?_
           refine On (want:=true) hb16 ?_
           refine On (want:=true) hb16 ?_
           refine Pf (.b false) hb16 ?_
           refine Om (.b false) ?_
           refine Og ?_
           refine Og ?_
           refine Og ?_
           refine zcJ (v:=.b false) (e:=false) (by decide) rfl rfl rfl ?_
           refine Om (.b false) ?_
           refine Og ?_
           refine Og ?_
           refine Og ?_
           refine zcJ (v:=.b false) (e:=false) (by decide) rfl rfl rfl ?_
           refine Om (.b false) ?_
           refine Og ?_
           refine zcJ (v:=.b false) (e:=false) (by decide) rfl rfl rfl ?_
           refine Oa (.b false) ?_
           refine Ni ?_
           exact zai false (.k .nil) ⟨(hS.keep [false] rfl).up (by omega),hM⟩
         ·replace hM:=ifF hM hb15
          refine On (want:=true) hb15 ?_
          refine On (want:=true) hb15 ?_
          refine On (want:=true) hb15 ?_
          refine On (want:=true) hb15 ?_
          refine On (want:=true) hb15 ?_
          refine On (want:=true) hb15 ?_
          refine Pf (.b false) hb15 ?_
          refine Om (.b false) ?_
          refine Og ?_
          refine Og ?_
          refine Og ?_
          refine zcJ (v:=.b false) (e:=false) (by decide) rfl rfl rfl ?_
          refine Om (.b false) ?_
          refine Og ?_
          refine Og ?_
          refine Og ?_
          refine zcJ (v:=.b false) (e:=false) (by decide) rfl rfl rfl ?_
          refine Om (.b false) ?_
          refine Og ?_
          refine Og ?_
          refine Og ?_
          refine zcJ (v:=.b false) (e:=false) (by decide) rfl rfl rfl ?_
          refine Om (.b false) ?_
          refine Og ?_
          refine zcJ (v:=.b false) (e:=false) (by decide) rfl rfl rfl ?_
          refine Oa (.b false) ?_
          refine Ni ?_
          exact zai false (.k .nil) ⟨(hS.keep [false] rfl).up (by omega),hM⟩
        ·replace hM:=ifF hM hb14
         refine On (want:=true) hb14 ?_
         refine On (want:=true) hb14 ?_
         refine Pf (.b false) hb14 ?_
         refine Om (.b false) ?_
         refine Og ?_
         refine Og ?_
         refine Og ?_
         refine Og ?_
         refine Og ?_
         refine Og ?_
         refine zcJ (v:=.b false) (e:=false) (by decide) rfl rfl rfl ?_
         refine Om (.b false) ?_
         refine Og ?_
         refine Og ?_
         refine Og ?_
         refine zcJ (v:=.b false) (e:=false) (by decide) rfl rfl rfl ?_
         refine Om (.b false) ?_
         refine Og ?_
         refine Og ?_
         refine Og ?_
         refine zcJ (v:=.b false) (e:=false) (by decide) rfl rfl rfl ?_
         refine Om (.b false) ?_
         refine Og ?_
         refine Og ?_
         refine Og ?_
         refine zcJ (v:=.b false) (e:=false) (by decide) rfl rfl rfl ?_
         refine Om (.b false) ?_
         refine Og ?_
         refine zcJ (v:=.b false) (e:=false) (by decide) rfl rfl rfl ?_
         refine Oa (.b false) ?_
         refine Ni ?_
         exact zai false (.k .nil) ⟨(hS.keep [false] rfl).up (by omega),hM⟩
     ·refine Rg 7 ?_
      refine Om (.i r5.1) ?_
      refine Oi (.b (decide (r5.1>99))) ?_
      refine Om (.b (decide (r5.1>99))) ?_
      rcases bft (decide (r5.1>99)) with hb23 | hb23
      ·replace hM:=ifT hM hb23
       refine On (want:=false) hb23 ?_
       refine On (want:=false) hb23 ?_
       refine On (want:=false) hb23 ?_
       refine Pt (.b true) hb23 ?_
       refine Ni ?_
       exact zai true (.k (.k (.k (.k .nil)))) ⟨(hS.keep [] rfl).up (by omega),hM⟩
      ·replace hM:=ifF hM hb23
       refine Oy (want:=false) hb23 ?_
       refine Olg (.agg [.i 1,.i 0,.i a2.Age,.i a2.Step,.sl .no 1 (([a2.Rough]:List Int).map cI),.sl .no 4 (([(⟨0,99999,0,([r5.1]:List Int)⟩:WearRecord)]:List WearRecord).map WearRecord.cells)]) zhS ?_
       refine Oy (want:=false) hb23 ?_
       obtain ⟨r24,hr24,hM⟩:=zaj hM
       refine zaO (bs:=[.agg [.i 1,.i 0,.i a2.Age,.i a2.Step,.sl .no 1 (([a2.Rough]:List Int).map cI),.sl .no 4 (([(⟨0,99999,0,([r5.1]:List Int)⟩:WearRecord)]:List WearRecord).map WearRecord.cells)]]) (by decide) rfl rfl ((zjK hr24).le (.k .nil)) ?_
       refine Oy (want:=false) hb23 ?_
       refine Oi (.b (r24 != 0)) ?_
       refine Pf (.b (r24 != 0)) hb23 ?_
       refine Ni ?_
       exact zai (r24 != 0) (.k (.k (.k (.k .nil)))) ⟨(hS.keep [] rfl).up (by omega),hM⟩
   ·refine Rg 6 ?_
    refine Om (.i r5.2) ?_
    refine Oi (.b (r5.2 != 0)) ?_
    refine Om (.b (r5.2 != 0)) ?_
    rcases bft (r5.2 != 0) with hb25 | hb25
    ·replace hM:=ifT hM hb25
     refine On (want:=false) hb25 ?_
     refine On (want:=false) hb25 ?_
     refine Pt (.b true) hb25 ?_
     refine Ni ?_
     exact zai true (.k (.k (.k .nil))) ⟨(hS.keep [] rfl).up (by omega),hM⟩
    ·replace hM:=ifF hM hb25
     refine Oy (want:=false) hb25 ?_
     refine Om (.i r5.1) ?_
     refine Oy (want:=false) hb25 ?_
     refine Oi (.b (decide (r5.1<0))) ?_
     refine Pf (.b (decide (r5.1<0))) hb25 ?_
     refine Ni ?_
     exact zai (decide (r5.1<0)) (.k (.k (.k .nil))) ⟨(hS.keep [] rfl).up (by omega),hM⟩
 ·refine Rg 26 ?_
  refine Of ((Wheel.cells a0)) zhz ?_
  refine Olp (.sl .no 1 (a0.Notches.map cI)) zaI zaU ?_
  refine zb9 (n:=a0.Notches.length) (by decide) rfl (List.length_map _) zaQ ?_
  refine Of ((Wheel.cells a0)) zcE ?_
  refine Olp (.sl .no 1 (a0.Coins.map cI)) zaI zaU ?_
  refine zb9 (n:=a0.Coins.length) (by decide) rfl (List.length_map _) zaQ ?_
  refine Om (.sl .no 1 (a1.map cI)) ?_
  refine zb9 (n:=a1.length) (by decide) rfl (List.length_map _) zaQ ?_
  refine zyh (v:=.i (max (max (a0.Notches.length:Int) (a0.Coins.length:Int)) (a1.length:Int))) (by decide) rfl ?_
  refine Oi (.b (decide ((max (max (a0.Notches.length:Int) (a0.Coins.length:Int)) (a1.length:Int))>40))) ?_
  refine Om (.b (decide ((max (max (a0.Notches.length:Int) (a0.Coins.length:Int)) (a1.length:Int))>40))) ?_
  rcases bft (decide ((max (max (a0.Notches.length:Int) (a0.Coins.length:Int)) (a1.length:Int))>40)) with hb26 | hb26
  ·replace hM:=ifT hM hb26
   refine On (want:=false) hb26 ?_
   refine On (want:=false) hb26 ?_
   refine On (want:=false) hb26 ?_
   refine Pt (.b true) hb26 ?_
   refine Om (.b true) ?_
   refine Og ?_
   refine Og ?_
   refine Og ?_
   refine Og ?_
   refine zbN (v:=.b true) (e:=true) (by decide) rfl rfl rfl ?_
   refine Om (.b true) ?_
   refine Og ?_
   refine Og ?_
   refine Og ?_
   refine zbN (v:=.b true) (e:=true) (by decide) rfl rfl rfl ?_
   refine Ni ?_
   exact zai true (.k (.k (.k (.k .nil)))) ⟨(hS.keep [] rfl).up (by omega),hM⟩
  ·replace hM:=ifF hM hb26
   refine Oy (want:=false) hb26 ?_
   refine Olg (.agg (Wheel.cells a0)) zdq ?_
   refine Oy (want:=false) hb26 ?_
   obtain ⟨r27,hr27,hM⟩:=zaj hM
   refine zaO (bs:=[.agg (Wheel.cells a0)]) (by decide) rfl rfl ((zmS hr27).le (.k .nil)) ?_
   refine Oy (want:=false) hb26 ?_
   refine Oi (.b (r27 != 0)) ?_
   refine Pf (.b (r27 != 0)) hb26 ?_
   refine Om (.b (r27 != 0)) ?_
   rcases bft (r27 != 0) with hb28 | hb28
   ·replace hM:=ifT hM hb28
    refine On (want:=false) hb28 ?_
    refine On (want:=false) hb28 ?_
    refine On (want:=false) hb28 ?_
    refine On (want:=false) hb28 ?_
    refine Pt (.b true) hb28 ?_
    refine Om (.b true) ?_
    refine Og ?_
    refine Og ?_
    refine Og ?_
    refine zbN (v:=.b true) (e:=true) (by decide) rfl rfl rfl ?_
    refine Ni ?_
    exact zai true (.k (.k (.k (.k .nil)))) ⟨(hS.keep [] rfl).up (by omega),hM⟩
   ·replace hM:=ifF hM hb28
    refine Oy (want:=false) hb28 ?_
    refine Olg (.agg (Wheel.cells a0)) zdq ?_
    refine Oy (want:=false) hb28 ?_
    refine Om (.sl .no 1 (a1.map cI)) ?_
    refine Oy (want:=false) hb28 ?_
    obtain ⟨r29,hr29,hM⟩:=zaj hM
    refine zaO (bs:=[.agg (Wheel.cells a0),.sl .no 1 (a1.map cI)]) (by decide) rfl rfl ((zk6 hr29).le (.k (.k .nil))) ?_
    refine Oy (want:=false) hb28 ?_
    refine zc5 (e:=r29) (by decide) rfl ?_
    refine Pf (.b (!r29)) hb28 ?_
    refine Om (.b (!r29)) ?_
    rcases bft (!r29) with hb30 | hb30
    ·replace hM:=ifT hM hb30
     refine On (want:=false) hb30 ?_
     refine On (want:=false) hb30 ?_
     refine On (want:=false) hb30 ?_
     refine Pt (.b true) hb30 ?_
     refine Ni ?_
     exact zai true (.k (.k (.k (.k .nil)))) ⟨(hS.keep [] rfl).up (by omega),hM⟩
    ·replace hM:=ifF hM hb30
     refine Oy (want:=false) hb30 ?_
     refine Om (.sl .no 1 (a1.map cI)) ?_
     refine Oy (want:=false) hb30 ?_
     obtain ⟨r31,hr31,hM⟩:=zaj hM
     refine zaO (bs:=[.sl .no 1 (a1.map cI)]) (by decide) rfl rfl ((zmT hr31).le (.k .nil)) ?_
     refine Oy (want:=false) hb30 ?_
     refine Oi (.b (decide (r31>5))) ?_
     refine Pf (.b (decide (r31>5))) hb30 ?_
     refine Ni ?_
     exact zai (decide (r31>5)) (.k (.k (.k (.k .nil)))) ⟨(hS.keep [] rfl).up (by omega),hM⟩
end Go.Proofs.Ytchhkifidbkjcaa
