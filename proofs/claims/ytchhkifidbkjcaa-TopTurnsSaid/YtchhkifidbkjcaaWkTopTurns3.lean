/-
  The code returns what the functions say (printed by gen.py).
  Conditions: none.
-/
import Derived.Test.YtchhkifidbkjcaaWkTopTurns2
import Derived.Test.YtchhkifidbkjcaaAmPh
import Derived.Test.YtchhkifidbkjcaaSh
import Derived.Test.YtchhkifidbkjcaaKs
import Derived.Test.YtchhkifidbkjcaaEn
set_option linter.all false
namespace Go.Proofs.Ytchhkifidbkjcaa
open Go Go.AM Go.Law
set_option linter.unusedVariables false
set_option maxRecDepth 4000
set_option maxHeartbeats 4000000
theorem zfq {n:Nat} {a0:Option Box_} {purse:List Int} {r:List Int×Bool} (hM:zcd n a0 purse=some r):zaR Try.prog 47 [pA Box_.cells a0,.sl .no 1 (purse.map cI)] (.tup [.sl .no 1 (r.1.map cI),.b r.2]):=by
 refine zaz mixed Try.func47 rfl (by decide) Try.ntmps47 (by simp) ?pure fun H0 g hf=>?_
 case pure=>exact .tup _ (zab (.sl _ _ (zaA (fun x=>(zab (.v _) zaJ)))) (zab (.v _) zaJ))
 rw [zah]
 change wpA _ _ _ _ (Fr.of [(0,pA Box_.cells a0),(1,.sl .no 1 (purse.map cI))]) H0 g
 have hS:=St.start hf
 unfold zcd at hM
 obtain ⟨b,hb0,hM⟩:=zaj hM
 obtain ⟨r1,hr1,hM⟩:=zaj hM
 obtain ⟨al,hal,hM⟩:=zaj hM
 obtain ⟨M,hMM,hM⟩:=zaj hM
 have hok:zl4 M=true:=by
  cases h:zl4 M with
  | true=>rfl
  | false=>rw [if_neg (by rw [h];simp)] at hM;cases hM
 rw [if_pos hok] at hM
 refine Sq ?_
 refine Rg 2 ?_
 refine Oa (.sl .nil 0 []) ?_
 refine Oa (.b false) ?_
 refine Ni ?_
 refine Ws ?_
 refine Sq ?_
 refine Rg 4 ?_
 refine Om (pA Box_.cells a0) ?_
 refine zaO (bs:=[pA Box_.cells a0]) (by decide) rfl rfl ((zjo hr1).le (.k .nil)) ?_
 refine za4 hS (by decide) zjl (by omega) fun H hS=>?_
 refine zaC (v:=.agg (Bag_.cells r1)) (ns:=(Bag_.cells r1)) (L':=[(g+2+2,.cells (Bag_.cells r1))]) 0 hS rfl rfl .no rfl rfl znG nlb rfl fun H hS=>?_
 refine Ni ?_
 refine Ws ?_
 refine Sq ?_
 refine Sq ?_
 refine Rg 3 ?_
 refine Om (.sl .no 1 (purse.map cI)) ?_
 refine zb9 (n:=purse.length) (by decide) rfl (List.length_map _) zaQ ?_
 refine Om (.i 0) ?_
 refine Ni ?_
 refine Ws ?_
 refine zaB ?_
 refine zco (V:=Int×Bag_) (fun v=>[(0,pA Box_.cells a0),(6,.ptr (g+2+2) 0),(17,.sl .no 1 (purse.map cI)),(18,.i (purse.length:Int)),(19,.i v.1)]) (fun v k H' g'=>St (·<g) H0 [(g+2+2,.cells (Bag_.cells v.2))] H' g'/\zbH purse k v.1 v.2=some al) (n:=n) (0,r1) (.k (.k (.k (.k (.k .nil))))) ⟨hS.up (by omega),hal⟩ ?_
 rintro ⟨k,ar⟩ m H g1 ⟨hS,hal⟩
 obtain _ | m:=m
 ·exact nomatch (show none=some _ from hal)
 change wpA _ _ _ _ (Fr.of [(0,pA Box_.cells a0),(6,.ptr (g+2+2) 0),(17,.sl .no 1 (purse.map cI)),(18,.i (purse.length:Int)),(19,.i k)]) _ _
 replace hS:St (·<g) H0 [(g+2+2,.cells (Bag_.cells ar))] H g1:=hS
 unfold zbH at hal
 refine Sq ?_
 refine Rg 1 ?_
 refine Oi (.b (decide (k<(purse.length:Int)))) ?_
 refine Ni ?_
 refine Ws ?_
 refine Sq ?_
 rcases bft (decide (k<(purse.length:Int))) with hk1 | hk1
 ·replace hal:=ifT hal hk1
  refine Ct hk1 ?_
  refine zay ?_
  refine Ws ?_
  obtain ⟨x,hx,hal⟩:=zaj hal
  obtain ⟨e,he,hal⟩:=zaj hal
  obtain ⟨u,hu,hal⟩:=zaj hal
  refine Sq ?_
  refine zaB ?_
  refine Sq ?_
  refine Rg 5 ?_
  refine Om (.i k) ?_
  refine za8 (xs:=purse) (f:=cI) (z:=k) (u:=x) (by decide) rfl rfl zaP hx ?_
  refine Olp (.i x) zaf zal ?_
  refine Oa (.i k) ?_
  refine Oa (.i x) ?_
  refine Ni ?_
  refine Ws ?_
  refine Rg 7 ?_
  refine Om (.i k) ?_
  refine ze5 (z:=k) (by decide) rfl rfl zfW (zeO he) ?_
  refine zkE (xs:=([ar.c0,ar.c1,ar.c2,ar.c3]:List Int)) (z:=k) (u:=e) (off:=0) 0 hS (by decide) rfl rfl .no rfl he zaf zal ?_
  refine Om (.i x) ?_
  refine Oi (.i (w64 (e+x))) ?_
  refine ze5 (z:=k) (by decide) rfl rfl zfW (zeO he) ?_
  refine ziF (xs:=([ar.c0,ar.c1,ar.c2,ar.c3]:List Int)) (u:=u) (z:=k) (v:=(w64 (e+x))) (off:=0) (cs':=[.i (u.getD 0 0),.i (u.getD 1 0),.i (u.getD 2 0),.i (u.getD 3 0)]) (L':=[(g+2+2,.cells [.i (u.getD 0 0),.i (u.getD 1 0),.i (u.getD 2 0),.i (u.getD 3 0)])]) 0 hS rfl rfl .no rfl rfl hu zdV rfl rfl fun H hS=>?_
  refine Ni ?_
  refine zas ?_
  refine Ws ?_
  refine Rg 2 ?_
  refine Oi (.i (w64 (k+1))) ?_
  refine Om (.i (w64 (k+1))) ?_
  refine Ni ?_
  exact zbo (w64 (k+1),⟨u.getD 0 0,u.getD 1 0,u.getD 2 0,u.getD 3 0⟩) (Nat.lt_succ_self _) (.k (.k (.k (.k (.k .nil))))) ⟨hS.up (by omega),hal⟩
 replace hal:=ifF hal hk1
 obtain rfl:=Option.some.inj hal
 refine Cf hk1 ?_
 refine zb1 ?_
 refine zav ?_
 refine zau ?_
 refine zaD ?_
 refine Ws ?_
 refine Sq ?_
 refine Rg 4 ?_
 refine Om (pA Box_.cells a0) ?_
 refine zaK (v:=.agg (Bag_.cells ar)) 0 hS (by decide) rfl rfl .no (pg zdX) ?_
 refine ztK (bs:=[pA Box_.cells a0,.agg (Bag_.cells ar)]) (p:=zag (mpw zad zan M)) hS (by decide) rfl rfl ((zi7 hMM).le (.k (.k .nil))) (zab (zt8 _) (zab (.agg _ (zab (.v _) (zab (.v _) (zab (.v _) (zab (.v _) zaJ))))) zaJ)) (by omega) fun H hS=>?_
 refine Oa (.mp (g1+1+2)) ?_
 refine Ni ?_
 refine Ws ?_
 refine Sq ?_
 refine Rg 4 ?_
 refine Om (.mp (g1+1+2)) ?_
 refine zaK (v:=.agg (Bag_.cells ar)) 1 hS (by decide) rfl rfl .no (pg zdX) ?_
 refine zpy (M:=[((g1+1+2),.obj none (zag (mpw zad zan M)))]) (L:=[(g+2+2,.cells (Bag_.cells ar))]) (.inl rfl) hS (by decide) rfl rfl (zlx hok) (by omega) ?_
 rintro v M' H gE ⟨l,jn,hlp,hjn,rfl,rfl⟩ hgE hS
 have hEp:(l.foldl (zbr ar) []).Perm (zgg ar M):=zsz hlp
 have hEn:((l.foldl (zbr ar) []).map (·.1)).Nodup:=(zmQ ar l).nd
 have hEk:∀x,x∈l.foldl (zbr ar) []->okI x.1=true:=(zk4 l [] (fun b=>okI b=true) (fun p hp=>by obtain ⟨x,hx,rfl⟩:=List.mem_map.1 (hlp.mem_iff.1 hp);exact List.all_eq_true.1 (Bool.and_eq_true_iff.1 hok).1 x hx) (fun p hp=>by simp at hp) (by simp)).1
 have hEl:(l.foldl (zbr ar) []).length<=1048576:=by have h1:=zmR (al:=ar) l [];have h2:=hlp.length_eq;have h3:=of_decide_eq_true (Bool.and_eq_true_iff.1 hok).2;simp only [List.length_map,List.length_nil] at h1 h2;omega
 have hlk:∀x,zgz okI zaG (l.foldl (zbr ar) []) x=zgz okI zaG (zgg ar M) x:=zqU hEp
 refine Oa (.mp jn) ?_
 refine Ni ?_
 replace hS:St (·<g) H0 [(jn,.obj none (zag (mpw kvI zad (l.foldl (zbr ar) [])))),((g1+1+2),.obj none (zag (mpw zad zan M))),(g+2+2,.cells (Bag_.cells ar))] H gE:=hS
 replace hS:=hS.keep (L':=[(jn,.obj none (zag (mpw kvI zad (l.foldl (zbr ar) [])))),((g1+1+2),.obj none (zag (mpw zad zan M)))]) [true,true,false] rfl
 refine Ws ?_
 refine Sq ?_
 refine Sq ?_
 refine Rg 5 ?_
 refine Om (.mp jn) ?_
 refine zvg (.inl rfl) hS (by decide) rfl rfl zxb (by omega) fun H hS=>?_
 refine ztP (E:=l.foldl (zbr ar) []) (cv:=zad) 0 1 (.inl rfl) hS (by decide) rfl rfl zt5 (by kernel_rfl) rfl rfl hEk hEn hEl (by omega) ?_
 rw [show zgp ((l.foldl (zbr ar) []).map (·.1))=zgp ((zgg ar M).map (·.1)) from ziJ (hEp.map _)]
 generalize zgp ((zgg ar M).map (·.1))=bs at hM ⊢
 generalize l.foldl (zbr ar) []=E at hS hlk
 generalize zgg ar M=E2 at hM hlk
 refine zb9 (n:=bs.length) (by decide) rfl (List.length_map _) zaQ ?_
 refine Om (.i 0) ?_
 refine Ni ?_
 replace hS:=hS.keep (L':=[(jn,.obj none (zag (mpw kvI zad E))),((g1+1+2),.obj none (zag (mpw zad zan M)))]) [false,true,true] rfl
 refine Ws ?_
 refine zaB ?_
 refine zco (V:=Int) (fun v=>[(0,pA Box_.cells a0),(9,.mp (g1+1+2)),(10,.mp jn),(39,.sl .no 1 (bs.map cI)),(40,.i (bs.length:Int)),(41,.i v)]) (fun v k H' g'=>St (·<g) H0 [(jn,.obj none (zag (mpw kvI zad E))),((g1+1+2),.obj none (zag (mpw zad zan M)))] H' g'/\zbI n b M E2 bs k v=some r) (n:=n) 0 (.k (.k (.k (.k (.k (.k .nil)))))) ⟨hS.up (by omega),hM⟩ ?_
 rintro k m3 H g3 ⟨hS,hM⟩
 obtain _ | m3:=m3
 ·exact nomatch (show none=some _ from hM)
 change wpA _ _ _ _ (Fr.of [(0,pA Box_.cells a0),(9,.mp (g1+1+2)),(10,.mp jn),(39,.sl .no 1 (bs.map cI)),(40,.i (bs.length:Int)),(41,.i k)]) _ _
 unfold zbI at hM
 refine Sq ?_
 refine Rg 1 ?_
 refine Oi (.b (decide (k<(bs.length:Int)))) ?_
 refine Ni ?_
 refine Ws ?_
 refine Sq ?_
 rcases bft (decide (k<(bs.length:Int))) with hk2 | hk2
 rotate_left
 ·replace hM:=ifF hM hk2
  refine Cf hk2 ?_
  refine zb1 ?_
  refine zav ?_
  refine zau ?_
  refine zaD ?_
  refine Ws ?_
  refine Sq ?_
  refine Rg 2 ?_
  refine Oa (.sl .nil 0 []) ?_
  refine Oa (.b false) ?_
  refine Ni ?_
  refine Ws ?_
  refine zaS ?_
  obtain rfl:=Option.some.inj hM
  refine zbe (x:=.tup [.sl .nil 0 [],.b false]) (f:=fun (r:List Int×Bool)=>.tup [.sl .no 1 (r.1.map cI),.b r.2]) (u:=([],false)) (.inr rfl) ?_ (.tupL (.cons (.sl0 _ _ _) (.k .nil))) rfl hS
  exact zdC (zae (x:=.sl .nil 0 []) rfl) (zae (x:=.b false) rfl)
 replace hM:=ifT hM hk2
 refine Ct hk2 ?_
 refine zay ?_
 refine Ws ?_
 obtain ⟨x,hx,hM⟩:=zaj hM
 obtain ⟨wi,hwi,hM⟩:=zaj hM
 have hXt:(!wi)=false->∃p s acts,zgz okI zaG E2 x=some p/\zgz zbF za9 M p=some s/\zdS M n s []=some acts/\r=(acts.reverse,true):=fun h=>by
  replace hM:=ifF hM h
  obtain ⟨p,hp,hM⟩:=zaj hM
  obtain ⟨s,hs,hM⟩:=zaj hM
  obtain ⟨acts,hacts,hM⟩:=zaj hM
  exact ⟨p,s,acts,hp,hs,hacts,(Option.some.inj hM).symm⟩
 refine zaY (J:=Unit) (fun _=>[(0,pA Box_.cells a0),(9,.mp (g1+1+2)),(10,.mp jn),(39,.sl .no 1 (bs.map cI)),(40,.i (bs.length:Int)),(41,.i k)]) (fun _ H' g'=>St (·<g) H0 [(jn,.obj none (zag (mpw kvI zad E))),((g1+1+2),.obj none (zag (mpw zad zan M)))] H' g'/\zbI n b M E2 bs m3 (w64 (k+1))=some r) ?_ ?_
 ·rintro _ H g4 ⟨hS,hM⟩
  change wpA _ _ _ _ (Fr.of [(0,pA Box_.cells a0),(9,.mp (g1+1+2)),(10,.mp jn),(39,.sl .no 1 (bs.map cI)),(40,.i (bs.length:Int)),(41,.i k)]) _ _
  refine Rg 2 ?_
  refine Oi (.i (w64 (k+1))) ?_
  refine Om (.i (w64 (k+1))) ?_
  refine Ni ?_
  exact zbo (w64 (k+1)) (Nat.lt_succ_self _) (.k (.k (.k (.k (.k (.k .nil)))))) ⟨hS.up (by omega),hM⟩
 refine zaB ?_
 refine Sq ?_
 refine Rg 3 ?_
 refine za8 (xs:=bs) (f:=cI) (z:=k) (u:=x) (by decide) rfl rfl zaP hx ?_
 refine Olp (.i x) zaf zal ?_
 refine Oa (.i x) ?_
 refine Ni ?_
 refine Ws ?_
 refine Sq ?_
 refine Sq ?_
 have hS0:=hS
 refine zc4 (n:=19) rfl (by kernel_rfl) ?_
 refine Om (.i x) ?_
 refine Om (pA Box_.cells a0) ?_
 refine zh2 (f:=Box_.cells) (p:=a0) (u:=b) (by decide) rfl hb0 ?_
 refine Of ((Box.cells b.Box)) zeg ?_
 refine Of ((Box.cells b.Box)) zk0 ?_
 refine Olp (.i b.Box.Plays) zaf zal ?_
 refine Om (pA Box_.cells a0) ?_
 refine zh2 (f:=Box_.cells) (p:=a0) (u:=b) (by decide) rfl hb0 ?_
 refine Of ((Box.cells b.Box)) zeg ?_
 refine Of ((Box.cells b.Box)) zk0 ?_
 refine Olp (.i b.Box.Plays) zaf zal ?_
 refine Om (pA Box_.cells a0) ?_
 refine zh2 (f:=Box_.cells) (p:=a0) (u:=b) (by decide) rfl hb0 ?_
 refine Of ((Box.cells b.Box)) zeg ?_
 refine Of ((Box.cells b.Box)) znP ?_
 refine Olp (.i b.Box.Skips) zaf zal ?_
 refine Oi (.i (w64 (b.Box.Plays+b.Box.Skips))) ?_
 refine zaO (bs:=[.i x,.i b.Box.Plays,.i (w64 (b.Box.Plays+b.Box.Skips))]) (by decide) rfl rfl ((zeo hwi).le (.k (.k (.k .nil)))) ?_
 refine zc5 (by decide) rfl ?_
 refine Ni ?_
 refine Ws ?_
 rcases bft (!wi) with hw | hw
 ·replace hM:=ifT hM hw
  refine Ct hw ?_
  refine zb1 ?_
  refine zav ?_
  refine zaD ?_
  exact zai () (.k (.k (.k (.k (.k (.k .nil)))))) ⟨hS.up (by omega),hM⟩
 obtain ⟨p,s,acts,hp,hs,hacts,rfl⟩:=hXt hw
 clear hXt hM
 refine Cf hw ?_
 refine zay ?_
 refine Ws ?_
 refine Sq ?_
 refine Rg 1 ?_
 refine Oa (.sl .nil 0 []) ?_
 refine Ni ?_
 refine Ws ?_
 refine Sq ?_
 refine Sq ?_
 refine Rg 7 ?_
 refine Om (.mp (g1+1+2)) ?_
 refine Om (.mp jn) ?_
 refine Om (.i x) ?_
 refine zkH (kv:=kvI) (ok:=okI) (cv:=zad) (z:=zaG) (M:=E) (k:=x) (u:=p) (v':=.agg (PointT_.cells p)) 0 zvu hS (by decide) rfl rfl rfl ziV zoT (by rw [hlk];exact hp) (zoU p) ?_
 refine zkH (kv:=zad) (ok:=zbF) (cv:=zan) (z:=za9) (M:=M) (k:=p) (u:=s) (v':=.agg (Step_.cells s)) 1 zk5 hS (by decide) rfl rfl rfl zfX zhG hs (zk8 s) ?_
 refine za4 hS (by decide) zgG (by omega) fun H hS=>?_
 refine zaC (v:=.agg (Step_.cells s)) (ns:=(Step_.cells s)) (L':=[(g3+1+3+19+1+5,.cells (Step_.cells s)),(jn,.obj none (zag (mpw kvI zad E))),((g1+1+2),.obj none (zag (mpw zad zan M)))]) 0 hS rfl rfl .no rfl rfl ziX nlb rfl fun H hS=>?_
 refine Ni ?_
 refine Ws ?_
 refine zaB ?_
 have hSb:=hS.keep (L':=zeL 0 []++[((g3+1+3+19+1+5),.cells (Step_.cells s)),((g1+1+2),.obj none (zag (mpw zad zan M)))]) [true,false,true] rfl
 refine zco (V:=Step_×List Int×Nat×Nat) (fun v=>[(9,.mp (g1+1+2)),(13,zeK v.2.2.1 v.2.1),(14,.ptr v.2.2.2 0)]) (fun v k H' g'=>St (·<g) H0 (zeL v.2.2.1 v.2.1++[(v.2.2.2,.cells (Step_.cells v.1)),((g1+1+2),.obj none (zag (mpw zad zan M)))]) H' g'/\v.2.1.length<=1048576/\zdS M k v.1 v.2.1=some acts) (n:=n) (s,[],0,(g3+1+3+19+1+5)) (.k (.k (.k .nil))) ⟨hSb.up (by omega),by simp,hacts⟩ ?_
 rintro ⟨s,ac,ja,si⟩ m H g5 ⟨hS,hal5,hacts⟩
 obtain _ | m:=m
 ·exact nomatch (show none=some _ from hacts)
 change wpA _ _ _ _ (Fr.of [(9,.mp (g1+1+2)),(13,zeK ja ac),(14,.ptr si 0)]) _ _
 replace hS:St (·<g) H0 (zeL ja ac++[(si,.cells (Step_.cells s)),((g1+1+2),.obj none (zag (mpw zad zan M)))]) H g5:=hS
 replace hal5:ac.length<=1048576:=hal5
 unfold zdS at hacts
 have hSr:St (·<g) H0 ([(si,.cells (Step_.cells s)),((g1+1+2),.obj none (zag (mpw zad zan M)))]++zeL ja ac) H g5:=hS.perm List.perm_append_comm
 refine Sq ?_
 refine Sq ?_
 refine Rg 3 ?_
 refine zap (by decide) zl5 rfl ?_
 refine zaK (v:=.i s.act) 0 hSr (by decide) rfl rfl .no (po zaf zal) ?_
 refine Oi (.b (s.act != -2)) ?_
 refine Ni ?_
 refine Ws ?_
 rcases bft (s.act != -2) with hb5 | hb5
 ·replace hacts:=ifT hacts hb5
  have hle:ac.length+1<=1048576:=by
   by_cases h:ac.length+1<=1048576
   ·exact h
   ·rw [if_neg h] at hacts;cases hacts
  rw [if_pos hle] at hacts
  obtain ⟨s2,hs2,hacts⟩:=zaj hacts
  refine Ct hb5 ?_
  refine zay ?_
  refine Ws ?_
  refine Sq ?_
  refine zaB ?_
  refine Rg 6 ?_
  refine Om (zeK ja ac) ?_
  refine zap (by decide) zl5 rfl ?_
  refine zaK (v:=.i s.act) 0 hSr (by decide) rfl rfl .no (po zaf zal) ?_
  refine znv (e:=3) (es:=[[.i s.act]]) (by decide) zaP zdp rfl zcZ rfl (by decide) ?_
  refine zoV (ja:=ja) (acts:=ac) (a:=s.act) hS (by decide) rfl rfl zaP zcZ hle (by omega) fun H hS=>?_
  refine Oa (zeK (g5+3+4) (ac++[s.act])) ?_
  refine Ni ?_
  refine zas ?_
  refine Ws ?_
  replace hS:=hS.perm (L':=[(si,.cells (Step_.cells s)),((g1+1+2),.obj none (zag (mpw zad zan M)))]++zeL (g5+3+4) (ac++[s.act])) List.perm_append_comm
  refine Sq ?_
  refine Sq ?_
  refine Rg 1 ?_
  refine zaK (v:=.agg (Step_.cells s)) 0 hS (by decide) rfl rfl .no (pg zst) ?_
  refine Ni ?_
  refine Ws ?_
  refine Rg 2 ?_
  refine za4 hS (by decide) zgG (by omega) fun H hS=>?_
  refine zaC (v:=.agg (Step_.cells s)) (ns:=(Step_.cells s)) (L':=((g5+3+6+1+0),.cells (Step_.cells s))::([(si,.cells (Step_.cells s)),((g1+1+2),.obj none (zag (mpw zad zan M)))]++zeL (g5+3+4) (ac++[s.act]))) 0 hS rfl rfl .no rfl rfl ziX nlb rfl fun H hS=>?_
  refine Ni ?_
  refine Ws ?_
  refine Rg 5 ?_
  refine Om (.mp (g1+1+2)) ?_
  refine zap (by decide) zqR rfl ?_
  refine zaK (v:=.agg (PointT_.cells s.from_)) 0 hS (by decide) rfl rfl .no (pg zfn) ?_
  refine zkH (kv:=zad) (ok:=zbF) (cv:=zan) (z:=za9) (M:=M) (k:=s.from_) (u:=s2) (v':=.agg (Step_.cells s2)) 2 zk5 hS (by decide) rfl rfl rfl zfX zhG hs2 (zk8 s2) ?_
  refine zaC (v:=.agg (Step_.cells s2)) (ns:=(Step_.cells s2)) (L':=((g5+3+6+1+0),.cells (Step_.cells s2))::([(si,.cells (Step_.cells s)),((g1+1+2),.obj none (zag (mpw zad zan M)))]++zeL (g5+3+4) (ac++[s.act]))) 0 hS rfl rfl .no rfl rfl ziX nlb rfl fun H hS=>?_
  refine Ni ?_
  have hS3:=(hS.keep (L':=[((g5+3+6+1+0),.cells (Step_.cells s2)),((g1+1+2),.obj none (zag (mpw zad zan M)))]++zeL (g5+3+4) (ac++[s.act])) [true,false,true] rfl).perm (L':=zeL (g5+3+4) (ac++[s.act])++[((g5+3+6+1+0),.cells (Step_.cells s2)),((g1+1+2),.obj none (zag (mpw zad zan M)))]) List.perm_append_comm
  exact zbo (s2,ac++[s.act],(g5+3+4),(g5+3+6+1+0)) (Nat.lt_succ_self _) (.k (.k (.k .nil))) ⟨hS3.up (by omega),by rw [List.length_append,List.length_singleton];exact hle,hacts⟩
 replace hacts:=ifF hacts hb5
 obtain rfl:=Option.some.inj hacts
 refine Cf hb5 ?_
 refine zb1 ?_
 refine zav ?_
 refine zau ?_
 refine zaD ?_
 refine Ws ?_
 refine Sq ?_
 refine Rg 2 ?_
 refine Om (zeK ja ac) ?_
 refine zt9 (ja:=ja) (acts:=ac) hS (by decide) rfl rfl hal5 fun H hS=>?_
 refine Ni ?_
 refine zg8 [(13,zeK ja ac)] (.k .nil) ?_
 by_cases hn:ac=[]
 ·subst hn
  change wpA _ _ _ _ (Fr.of [(13,.sl .nil 0 [])]) _ _
  refine Sq ?_
  refine Rg 3 ?_
  refine Om (.sl .nil 0 []) ?_
  refine Oa (.sl .nil 0 []) ?_
  refine Oa (.b true) ?_
  refine Ni ?_
  refine Ws ?_
  refine zaS ?_
  refine zbe (x:=.tup [.sl .nil 0 [],.b true]) (f:=fun (r:List Int×Bool)=>.tup [.sl .no 1 (r.1.map cI),.b r.2]) (u:=([],true)) (.inr rfl) ?_ (.tupL (.cons (.sl0 _ _ _) (.k .nil))) rfl hS
  exact zdC (zae (x:=.sl .nil 0 []) rfl) (zae (x:=.b true) rfl)
 have e1:zeK ja ac=.ms ja 0 1 ac.length ac.length:=if_neg hn
 have e2:zeL ja ac.reverse=[(ja,.cells (ac.reverse.map cI).flatten)]:=if_neg (by simpa using hn)
 rw [e1]
 rw [e2] at hS
 refine Sq ?_
 refine Rg 3 ?_
 refine Om (.ms ja 0 1 ac.length ac.length) ?_
 refine Oa (.ms ja 0 1 ac.length ac.length) ?_
 refine Oa (.b true) ?_
 refine Ni ?_
 replace hS:=hS.perm (L':=[(si,.cells (Step_.cells s)),((g1+1+2),.obj none (zag (mpw zad zan M)))]++[(ja,.cells (ac.reverse.map cI).flatten)]) List.perm_append_comm
 refine zwo (t:=4) (es:=ac.reverse.map cI) hS rfl (by decide) (fun e he=>by obtain ⟨z,_,rfl⟩:=List.mem_map.1 he;rfl) (zwp (fun x c hc=>by simp at hc;subst hc;exact ⟨_,rfl⟩)) (by simp) (by rw [List.take_of_length_le (by rw [zpK];simp)]) fun H hS=>?_
 refine Ws ?_
 refine zaS ?_
 refine zbe (x:=.tup [.sl .no 1 (ac.reverse.map cI),.b true]) (f:=fun (r:List Int×Bool)=>.tup [.sl .no 1 (r.1.map cI),.b r.2]) (u:=(ac.reverse,true)) (.inr rfl) ?_ (.refl _) rfl hS
 exact zdC (zae (x:=.sl .no 1 (ac.reverse.map cI)) rfl) (zae (x:=.b true) rfl)
def zjq (t:Nat):List Gap_->AV
 | []=>.sl .nil 0 []
 | x::gs=>.sl (.id t) 2 ((x::gs).map Gap_.cells)
def zlb (t:Nat):List Gap_->BL
 | []=>[]
 | x::gs=>[(t,.row 78 (x::gs).length)]
def gM (oc t:Nat) (gs:List Gap_):BL:=(oc,.cells [zjq t gs])::zlb t gs
def gT (oc:Nat) (gs:List Gap_) (_:Nat) (v:AV) (M:BL):Prop:=∃t,v=.tup []/\M=gM oc t gs
theorem zpL (gs:List Gap_):∀e,e∈gs.map Gap_.cells->∀c,c∈e->Go.AM.Pure c:=zaA (fun x=>zab (.sl _ _ (zaA (fun x=>(zab (.v _) zaJ)))) (zab (.sl _ _ (zaA (fun x=>(zab (.v _) zaJ)))) zaJ))
theorem zxc {oc t:Nat} {gs:List Gap_}:InB In (gM oc t gs):=fun p cs hp e c hc H hH=>by
 cases gs with
 | nil =>
  obtain rfl:=List.mem_singleton.1 hp
  obtain rfl:[AV.sl .nil 0 []]=cs:=by injection e
  obtain rfl:c=.sl .nil 0 []:=by simpa using hc
  exact .sl _ _ _ (fun t h=>by cases h) (fun e h=>by simp at h)
 | cons x gs =>
  have hr:=hH (t,.row 78 (x::gs).length) (by simp [gM,zlb])
  simp only [gM,zlb,List.mem_cons,List.not_mem_nil,or_false] at hp
  rcases hp with rfl | rfl
  ·obtain rfl:[zjq t (x::gs)]=cs:=by injection e
   obtain rfl:c=zjq t (x::gs):=by simpa using hc
   exact .sl _ _ _ (fun t2 h=>by injection h with h;subst h;exact ⟨_,_,hr⟩) (fun e he c hc=>(zpL _ e he c hc).inH)
  ·cases e
theorem zlc {oc t i:Nat} {gs:List Gap_}:i∈ids (gM oc t gs)↔i=oc\/gs≠[]/\i=t:=by
 cases gs<;>simp [gM,zlb,ids]
theorem zuE (oc t:Nat) (gs gs2:List Gap_) (g:Nat):∃v M',gT oc gs2 g v M'/\(ids M').Nodup/\∀i,i∈ids M'->i∈ids (gM oc t gs)\/g<=i:=by
 refine ⟨.tup [],_,⟨max g (oc+1),rfl,rfl⟩,?_,fun i hi=>?_⟩
 ·cases gs2<;>simp [gM,zlb,ids]<;>omega
 ·rcases zlc.1 hi with rfl | ⟨_,rfl⟩
  ·exact .inl (zlc.2 (.inl rfl))
  ·exact .inr (Nat.le_max_left _ _)
theorem zoW {P:Program} {N:Nat} {fr:Fr} {H H0:zaa} {g b oc t t2:Nat} {gs gs2:List Gap_} {ex:Exit} {rs:List ResultVar} (he:ex=.normal\/ex=.ret) (hx:zgu P N fr H rs=some (.tup [])) (hS:St (fun i=>i<g/\i∉ids (gM oc t gs)) H0 (gM oc t2 gs2) H b) (hb:g<=b) (hi:∀i,i∈ids (gM oc t2 gs2)->i∈ids (gM oc t gs)\/g<=i) :
  (ex=.normal\/ex=.ret)/\∃v M' b1,gT oc gs2 g v M'/\(∃x,zgu P N fr H rs=some x/\Le v x)/\(∀H,Has H M'->In H v)/\InB In M'/\(∀i,i<g/\i∉ids (gM oc t gs)->H i=H0 i)/\Has H M'/\za2 H b1/\g<=b1/\(ids M').Nodup/\(∀i,i∈ids M'->i∈ids (gM oc t gs)\/g<=i)/\(∀p,p∈gM oc t gs->p.1∉ids M'->p.2≠.ice/\∀cs,p.2≠.cells cs):=by
 refine ⟨he,.tup [],gM oc t2 gs2,b,⟨t2,rfl,rfl⟩,⟨_,hx,.refl _⟩,fun H _=>(show Go.AM.Pure _ from .tup _ zaJ).inH,zxc,fun i hi=>(hS.old i hi).2,fun p hp=>(hS.has p hp).2.2,hS.fr,hb,hS.nd,hi,fun p hp hn=>?_⟩
 cases gs with
 | nil =>
  obtain rfl:=List.mem_singleton.1 hp
  exact absurd (zlc.2 (.inl rfl)) hn
 | cons x gs =>
  simp only [gM,zlb,List.mem_cons,List.not_mem_nil,or_false] at hp
  rcases hp with rfl | rfl
  ·exact absurd (zlc.2 (.inl rfl)) hn
  ·exact ⟨fun h=>(by cases h),fun cs h=>(by cases h)⟩
theorem zl6 {P:Program} {N:Nat} {fr:Fr} {H H0:zaa} {g b oc t t2:Nat} {gs gs2:List Gap_} {ex:Exit} {rs:List ResultVar} (he:ex=.normal\/ex=.ret) (hx:zgu P N fr H rs=some (.tup [])) (hS:St (fun i=>i<g/\i∉ids (gM oc t gs)) H0 (gM oc t2 gs2) H b) (hb:g<=b) (hi:gs2=[]\/gs≠[]/\t2=t\/g<=t2) :
  (ex=.normal\/ex=.ret)/\∃v M' b1,gT oc gs2 g v M'/\(∃x,zgu P N fr H rs=some x/\Le v x)/\(∀H,Has H M'->In H v)/\InB In M'/\(∀i,i<g/\i∉ids (gM oc t gs)->H i=H0 i)/\Has H M'/\za2 H b1/\g<=b1/\(ids M').Nodup/\(∀i,i∈ids M'->i∈ids (gM oc t gs)\/g<=i)/\(∀p,p∈gM oc t gs->p.1∉ids M'->p.2≠.ice/\∀cs,p.2≠.cells cs) :=
 zoW he hx hS hb fun i hi2=>by
  rcases zlc.1 hi2 with rfl | ⟨h1,rfl⟩
  ·exact .inl (zlc.2 (.inl rfl))
  ·rcases hi with h | ⟨h2,rfl⟩ | h
   ·exact absurd h h1
   ·exact .inl (zlc.2 (.inr ⟨h2,rfl⟩))
   ·exact .inr h
theorem zgH {n:Nat} {a:Option Box_} {purse:List Int} {gs:List Gap_} {r:Unit×List Gap_} (hM:zaE n a purse gs=some r) {oc t:Nat} (hnd:(ids (gM oc t gs)).Nodup):zqF Try.prog 46 [.sl .no 1 (purse.map cI),.ptr oc 0,.ep [pA Box_.cells a]] (gM oc t gs) (gT oc r.2):=by
 refine zkK mixed Try.func46 rfl (by decide) Try.ntmps46 (by simp) (zuE oc t gs r.2) fun H0 g hf hp=>?_
 rw [zah]
 change wpA _ _ _ _ (Fr.of [(0,.sl .no 1 (purse.map cI)),(1,.ptr oc 0),(2,.ep [pA Box_.cells a])]) H0 g
 have hS:=St.startH hf hnd hp
 have hog:oc<g:=(hS.has (oc,_) (List.mem_cons_self ..)).2.1
 cases gs with
 | nil =>
  unfold zaE at hM
  replace hS:St (fun i=>i<g/\i∉ids (gM oc t [])) H0 [(oc,.cells [.sl .nil 0 []])] H0 g:=hS
  refine Sq ?_
  refine Sq ?_
  have hS0:=hS
  refine zc4 (n:=15) rfl (by kernel_rfl) ?_
  refine zaK (v:=.sl .nil 0 []) 0 hS (by decide) rfl rfl (.st hS0 0 rfl (by omega)) (po zfb zgq) ?_
  refine zb9 (n:=0) (by decide) rfl rfl ziU ?_
  refine Oi (.b (decide (((0:Nat):Int)>0))) ?_
  refine Om (.b (decide (((0:Nat):Int)>0))) ?_
  refine zb7 (j:=3) (e:=(decide (((0:Nat):Int)>0))) (want:=true) (by decide) rfl (by decide) ?_
  refine zb7 (j:=3) (e:=(decide (((0:Nat):Int)>0))) (want:=true) (by decide) rfl (by decide) ?_
  refine zb7 (j:=3) (e:=(decide (((0:Nat):Int)>0))) (want:=true) (by decide) rfl (by decide) ?_
  refine zb7 (j:=3) (e:=(decide (((0:Nat):Int)>0))) (want:=true) (by decide) rfl (by decide) ?_
  refine zb7 (j:=3) (e:=(decide (((0:Nat):Int)>0))) (want:=true) (by decide) rfl (by decide) ?_
  refine zb7 (j:=3) (e:=(decide (((0:Nat):Int)>0))) (want:=true) (by decide) rfl (by decide) ?_
  refine zb7 (j:=3) (e:=(decide (((0:Nat):Int)>0))) (want:=true) (by decide) rfl (by decide) ?_
  refine zb7 (j:=3) (e:=(decide (((0:Nat):Int)>0))) (want:=true) (by decide) rfl (by decide) ?_
  refine zb7 (j:=3) (e:=(decide (((0:Nat):Int)>0))) (want:=true) (by decide) rfl (by decide) ?_
  refine zb7 (j:=3) (e:=(decide (((0:Nat):Int)>0))) (want:=true) (by decide) rfl (by decide) ?_
  refine zcJ (v:=.b false) (e:=(decide (((0:Nat):Int)>0))) (by decide) rfl (by decide) rfl ?_
  refine Ni ?_
  refine Ws ?_
  refine zeV (e:=false) rfl rfl ?_
  refine zay ?_
  refine Ws ?_
  refine Sq ?_
  refine Rg 8 ?_
  refine Olp (pA Box_.cells a) zg4 zih ?_
  refine Om (.sl .no 1 (purse.map cI)) ?_
  obtain ⟨e,he,hM⟩:=zaj hM
  refine zaO (bs:=[pA Box_.cells a,.sl .no 1 (purse.map cI)]) (by decide) rfl rfl ((zfq he).le (.k (.k .nil))) ?_
  refine Om (.tup [.sl .no 1 (e.1.map cI),.b e.2]) ?_
  refine Ox (.sl .no 1 (e.1.map cI)) ?_
  refine Ox (.b e.2) ?_
  refine Oa (.sl .no 1 (e.1.map cI)) ?_
  refine Oa (.b e.2) ?_
  refine Ni ?_
  refine Ws ?_
  refine Sq ?_
  refine Sq ?_
  refine Rg 2 ?_
  refine Om (.b e.2) ?_
  refine zc5 (by decide) rfl ?_
  refine Ni ?_
  refine Ws ?_
  rcases bft (!e.2) with he2 | he2
  ·replace hM:=ifT hM he2
   obtain rfl:=Option.some.inj hM
   refine Ct he2 ?_
   refine zaS ?_
   refine zao ?_
   exact zl6 (t:=t) (gs:=[]) (gs2:=[]) (t2:=t) (.inr rfl) rfl hS (by omega) (.inl rfl)
  ·replace hM:=ifF hM he2
   obtain rfl:=Option.some.inj hM
   refine Cf he2 ?_
   refine zay ?_
   refine Ws ?_
   refine Sq ?_
   refine Sq ?_
   have hS0:=hS
   refine zc4 (n:=15) rfl (by kernel_rfl) ?_
   refine zaK (v:=.sl .nil 0 []) 0 hS (by decide) rfl rfl (.st hS0 0 rfl (by omega)) (po zfb zgq) ?_
   refine zb9 (n:=0) (by decide) rfl rfl ziU ?_
   refine Oi (.b (decide (((0:Nat):Int)>0))) ?_
   refine Om (.b (decide (((0:Nat):Int)>0))) ?_
   refine zb7 (j:=3) (e:=(decide (((0:Nat):Int)>0))) (want:=true) (by decide) rfl (by decide) ?_
   refine zb7 (j:=3) (e:=(decide (((0:Nat):Int)>0))) (want:=true) (by decide) rfl (by decide) ?_
   refine zb7 (j:=3) (e:=(decide (((0:Nat):Int)>0))) (want:=true) (by decide) rfl (by decide) ?_
   refine zb7 (j:=3) (e:=(decide (((0:Nat):Int)>0))) (want:=true) (by decide) rfl (by decide) ?_
   refine zb7 (j:=3) (e:=(decide (((0:Nat):Int)>0))) (want:=true) (by decide) rfl (by decide) ?_
   refine zb7 (j:=3) (e:=(decide (((0:Nat):Int)>0))) (want:=true) (by decide) rfl (by decide) ?_
   refine zb7 (j:=3) (e:=(decide (((0:Nat):Int)>0))) (want:=true) (by decide) rfl (by decide) ?_
   refine zb7 (j:=3) (e:=(decide (((0:Nat):Int)>0))) (want:=true) (by decide) rfl (by decide) ?_
   refine zb7 (j:=3) (e:=(decide (((0:Nat):Int)>0))) (want:=true) (by decide) rfl (by decide) ?_
   refine zb7 (j:=3) (e:=(decide (((0:Nat):Int)>0))) (want:=true) (by decide) rfl (by decide) ?_
   refine zcJ (v:=.b false) (e:=(decide (((0:Nat):Int)>0))) (by decide) rfl (by decide) rfl ?_
   refine Ni ?_
   refine Ws ?_
   refine zeV (e:=false) rfl rfl ?_
   refine zay ?_
   refine Ws ?_
   refine Rg 7 ?_
   refine zaK (v:=.sl .nil 0 []) 0 hS (by decide) rfl rfl .no (po zfb zgq) ?_
   refine Om (.sl .no 1 (purse.map cI)) ?_
   refine Om (.sl .no 1 (e.1.map cI)) ?_
   refine zbf (cs:=[.sl .no 1 (purse.map cI),.sl .no 1 (e.1.map cI)]) (by decide) zkS zoS rfl ?_
   refine znv (e:=78) (es:=[[.sl .no 1 (purse.map cI),.sl .no 1 (e.1.map cI)]]) (by decide) zg5 zjj rfl zjk rfl (by decide) ?_
   refine zkL (k:=2) (k':=0) (e:=78) (es:=[[.sl .no 1 (purse.map cI),.sl .no 1 (e.1.map cI)]]) hS (by decide) rfl rfl zg5 zjj zjk nlb (by omega) fun H hS=>?_
   refine zaC (v:=.sl (.id (g+15+8+2+15+5)) 2 ([(⟨purse,e.1⟩:Gap_)].map Gap_.cells)) (ns:=[.sl (.id (g+15+8+2+15+5)) 2 ([(⟨purse,e.1⟩:Gap_)].map Gap_.cells)]) (L':=[((g+15+8+2+15+5),.row 78 1),(oc,.cells [.sl (.id (g+15+8+2+15+5)) 2 ([(⟨purse,e.1⟩:Gap_)].map Gap_.cells)])]) 1 hS rfl rfl .no rfl rfl zka nlb rfl fun H hS=>?_
   refine Ni ?_
   replace hS:=hS.toHead (L':=gM oc (g+15+8+2+15+5) [(⟨purse,e.1⟩:Gap_)]) 1 nlb rfl
   exact zl6 (t:=t) (gs:=[]) (gs2:=[(⟨purse,e.1⟩:Gap_)]) (t2:=(g+15+8+2+15+5)) (.inl rfl) rfl hS (by omega) (.inr (.inr (by omega)))
 | cons x gs =>
  unfold zaE at hM
  replace hS:St (fun i=>i<g/\i∉ids (gM oc t (x::gs))) H0 [(oc,.cells [.sl (.id t) 2 ((x::gs).map Gap_.cells)]),(t,.row 78 (x::gs).length)] H0 g:=hS
  have hpos:decide ((((x::gs).length:Nat):Int)>0)=true:=decide_eq_true (by rw [List.length_cons];omega)
  refine Sq ?_
  refine Sq ?_
  have hS0:=hS
  refine zc4 (n:=15) rfl (by kernel_rfl) ?_
  refine zaK (v:=.sl (.id t) 2 ((x::gs).map Gap_.cells)) 0 hS (by decide) rfl rfl (.st hS0 0 rfl (by omega)) (po zfb zgq) ?_
  refine zb9 (n:=(x::gs).length) (by decide) rfl (List.length_map _) ziU ?_
  refine Oi (.b (decide ((((x::gs).length:Nat):Int)>0))) ?_
  refine Om (.b (decide ((((x::gs).length:Nat):Int)>0))) ?_
  refine Oy (want:=true) hpos ?_
  refine Olp (pA Box_.cells a) zg4 zih ?_
  refine Oy (want:=true) hpos ?_
  refine Om (.sl .no 1 (purse.map cI)) ?_
  obtain ⟨w1,hw1,hM⟩:=zaj hM
  refine Oy (want:=true) hpos ?_
  refine zaO (bs:=[pA Box_.cells a,.sl .no 1 (purse.map cI)]) (by decide) rfl rfl ((zcF hw1).le (.k (.k .nil))) ?_
  refine Oy (want:=true) hpos ?_
  refine Olp (pA Box_.cells a) zg4 zih ?_
  refine Oy (want:=true) hpos ?_
  refine zaK (v:=.sl (.id t) 2 ((x::gs).map Gap_.cells)) 0 hS (by decide) rfl rfl (.st hS0 0 rfl (by omega)) (po zfb zgq) ?_
  refine Oy (want:=true) hpos ?_
  refine za8 (xs:=x::gs) (f:=Gap_.cells) (z:=0) (u:=x) (by decide) rfl rfl zg5 rfl ?_
  refine Oy (want:=true) hpos ?_
  refine Of ((Gap_.cells x)) zk2 ?_
  refine Oy (want:=true) hpos ?_
  refine Olp (.sl .no 1 (x.purse.map cI)) zaI zaU ?_
  obtain ⟨w2,hw2,hM⟩:=zaj hM
  refine Oy (want:=true) hpos ?_
  refine zaO (bs:=[pA Box_.cells a,.sl .no 1 (x.purse.map cI)]) (by decide) rfl rfl ((zcF hw2).le (.k (.k .nil))) ?_
  refine Oy (want:=true) hpos ?_
  refine Oi (.b (decide (w1>w2))) ?_
  refine Pt (.b (decide (w1>w2))) hpos ?_
  refine Ni ?_
  refine Ws ?_
  rcases bft (decide (w1>w2)) with hw | hw
  ·replace hM:=ifT hM hw
   obtain rfl:=Option.some.inj hM
   refine Ct hw ?_
   refine zaS ?_
   refine zao ?_
   exact zl6 (t:=t) (gs:=x::gs) (gs2:=x::gs) (t2:=t) (.inr rfl) rfl hS (by omega) (.inr (.inl ⟨by simp,rfl⟩))
  replace hM:=ifF hM hw
  refine Cf hw ?_
  refine zay ?_
  refine Ws ?_
  refine Sq ?_
  refine Rg 8 ?_
  refine Olp (pA Box_.cells a) zg4 zih ?_
  refine Om (.sl .no 1 (purse.map cI)) ?_
  obtain ⟨e,he,hM⟩:=zaj hM
  refine zaO (bs:=[pA Box_.cells a,.sl .no 1 (purse.map cI)]) (by decide) rfl rfl ((zfq he).le (.k (.k .nil))) ?_
  refine Om (.tup [.sl .no 1 (e.1.map cI),.b e.2]) ?_
  refine Ox (.sl .no 1 (e.1.map cI)) ?_
  refine Ox (.b e.2) ?_
  refine Oa (.sl .no 1 (e.1.map cI)) ?_
  refine Oa (.b e.2) ?_
  refine Ni ?_
  refine Ws ?_
  refine Sq ?_
  refine Sq ?_
  refine Rg 2 ?_
  refine Om (.b e.2) ?_
  refine zc5 (by decide) rfl ?_
  refine Ni ?_
  refine Ws ?_
  rcases bft (!e.2) with he2 | he2
  ·replace hM:=ifT hM he2
   obtain rfl:=Option.some.inj hM
   refine Ct he2 ?_
   refine zaS ?_
   refine zao ?_
   exact zl6 (t:=t) (gs:=x::gs) (gs2:=x::gs) (t2:=t) (.inr rfl) rfl hS (by omega) (.inr (.inl ⟨by simp,rfl⟩))
  replace hM:=ifF hM he2
  refine Cf he2 ?_
  refine zay ?_
  refine Ws ?_
  refine Sq ?_
  refine Sq ?_
  have hS0:=hS
  refine zc4 (n:=15) rfl (by kernel_rfl) ?_
  refine zaK (v:=.sl (.id t) 2 ((x::gs).map Gap_.cells)) 0 hS (by decide) rfl rfl (.st hS0 0 rfl (by omega)) (po zfb zgq) ?_
  refine zb9 (n:=(x::gs).length) (by decide) rfl (List.length_map _) ziU ?_
  refine Oi (.b (decide ((((x::gs).length:Nat):Int)>0))) ?_
  refine Om (.b (decide ((((x::gs).length:Nat):Int)>0))) ?_
  refine Oy (want:=true) hpos ?_
  refine Olp (pA Box_.cells a) zg4 zih ?_
  refine Oy (want:=true) hpos ?_
  refine Om (.sl .no 1 (purse.map cI)) ?_
  obtain ⟨w3,hw3,hM⟩:=zaj hM
  refine Oy (want:=true) hpos ?_
  refine zaO (bs:=[pA Box_.cells a,.sl .no 1 (purse.map cI)]) (by decide) rfl rfl ((zcF hw3).le (.k (.k .nil))) ?_
  refine Oy (want:=true) hpos ?_
  refine Olp (pA Box_.cells a) zg4 zih ?_
  refine Oy (want:=true) hpos ?_
  refine zaK (v:=.sl (.id t) 2 ((x::gs).map Gap_.cells)) 0 hS (by decide) rfl rfl (.st hS0 0 rfl (by omega)) (po zfb zgq) ?_
  refine Oy (want:=true) hpos ?_
  refine za8 (xs:=x::gs) (f:=Gap_.cells) (z:=0) (u:=x) (by decide) rfl rfl zg5 rfl ?_
  refine Oy (want:=true) hpos ?_
  refine Of ((Gap_.cells x)) zk2 ?_
  refine Oy (want:=true) hpos ?_
  refine Olp (.sl .no 1 (x.purse.map cI)) zaI zaU ?_
  obtain ⟨w4,hw4,hM⟩:=zaj hM
  refine Oy (want:=true) hpos ?_
  refine zaO (bs:=[pA Box_.cells a,.sl .no 1 (x.purse.map cI)]) (by decide) rfl rfl ((zcF hw4).le (.k (.k .nil))) ?_
  refine Oy (want:=true) hpos ?_
  refine Oi (.b (decide (w3<w4))) ?_
  refine Pt (.b (decide (w3<w4))) hpos ?_
  refine Ni ?_
  refine Ws ?_
  rcases bft (decide (w3<w4)) with hw2 | hw2
  ·replace hM:=ifT hM hw2
   obtain rfl:=Option.some.inj hM
   refine Ct hw2 ?_
   refine Rg 1 ?_
   refine zaC (v:=.sl .nil 0 []) (ns:=[.sl .nil 0 []]) (L':=[(oc,.cells [.sl .nil 0 []]),(t,.row 78 (x::gs).length)]) 0 hS rfl rfl .no rfl rfl zka nlb rfl fun H hS=>?_
   refine Ni ?_
   replace hS:=hS.keep (L':=[(oc,.cells [.sl .nil 0 []])]) [true,false] rfl
   refine Ws ?_
   refine Rg 7 ?_
   refine zaK (v:=.sl .nil 0 []) 0 hS (by decide) rfl rfl .no (po zfb zgq) ?_
   refine Om (.sl .no 1 (purse.map cI)) ?_
   refine Om (.sl .no 1 (e.1.map cI)) ?_
   refine zbf (cs:=[.sl .no 1 (purse.map cI),.sl .no 1 (e.1.map cI)]) (by decide) zkS zoS rfl ?_
   refine znv (e:=78) (es:=[[.sl .no 1 (purse.map cI),.sl .no 1 (e.1.map cI)]]) (by decide) zg5 zjj rfl zjk rfl (by decide) ?_
   refine zkL (k:=2) (k':=0) (e:=78) (es:=[[.sl .no 1 (purse.map cI),.sl .no 1 (e.1.map cI)]]) hS (by decide) rfl rfl zg5 zjj zjk nlb (by omega) fun H hS=>?_
   refine zaC (v:=.sl (.id (g+15+8+2+15+1+5)) 2 ([(⟨purse,e.1⟩:Gap_)].map Gap_.cells)) (ns:=[.sl (.id (g+15+8+2+15+1+5)) 2 ([(⟨purse,e.1⟩:Gap_)].map Gap_.cells)]) (L':=[((g+15+8+2+15+1+5),.row 78 1),(oc,.cells [.sl (.id (g+15+8+2+15+1+5)) 2 ([(⟨purse,e.1⟩:Gap_)].map Gap_.cells)])]) 1 hS rfl rfl .no rfl rfl zka nlb rfl fun H hS=>?_
   refine Ni ?_
   replace hS:=hS.toHead (L':=gM oc (g+15+8+2+15+1+5) [(⟨purse,e.1⟩:Gap_)]) 1 nlb rfl
   exact zl6 (t:=t) (gs:=x::gs) (gs2:=[(⟨purse,e.1⟩:Gap_)]) (t2:=(g+15+8+2+15+1+5)) (.inl rfl) rfl hS (by omega) (.inr (.inr (by omega)))
  replace hM:=ifF hM hw2
  obtain ⟨l,hl,hM⟩:=zaj hM
  obtain rfl:=Option.some.inj hM
  have hl2:l=x::(gs++[(⟨purse,e.1⟩:Gap_)]):=by
   unfold app at hl
   split at hl
   ·exact (Option.some.inj hl).symm
   ·cases hl
  refine Cf hw2 ?_
  refine zay ?_
  refine Ws ?_
  refine Rg 7 ?_
  refine zaK (v:=.sl (.id t) 2 ((x::gs).map Gap_.cells)) 0 hS (by decide) rfl rfl .no (po zfb zgq) ?_
  refine Om (.sl .no 1 (purse.map cI)) ?_
  refine Om (.sl .no 1 (e.1.map cI)) ?_
  refine zbf (cs:=[.sl .no 1 (purse.map cI),.sl .no 1 (e.1.map cI)]) (by decide) zkS zoS rfl ?_
  refine znv (e:=78) (es:=[[.sl .no 1 (purse.map cI),.sl .no 1 (e.1.map cI)]]) (by decide) zg5 zjj rfl zjk rfl (by decide) ?_
  refine zj2 (xs:=x::gs) (ys:=[(⟨purse,e.1⟩:Gap_)]) (zs:=l) (f:=Gap_.cells) (L':=[(oc,.cells [.sl (.id t) 2 ((x::gs).map Gap_.cells)]),(t,.row 78 l.length)]) 1 hS (by decide) rfl rfl rfl rfl .no zg5 zjj zjk hl rfl fun H hS=>?_
  refine zaC (v:=.sl (.id t) 2 (l.map Gap_.cells)) (ns:=[.sl (.id t) 2 (l.map Gap_.cells)]) (L':=[(oc,.cells [.sl (.id t) 2 (l.map Gap_.cells)]),(t,.row 78 l.length)]) 0 hS rfl rfl .no rfl rfl zka nlb rfl fun H hS=>?_
  refine Ni ?_
  subst hl2
  exact zl6 (t:=t) (gs:=x::gs) (gs2:=x::(gs++[(⟨purse,e.1⟩:Gap_)])) (t2:=t) (.inl rfl) rfl hS (by omega) (.inr (.inl ⟨by simp,rfl⟩))
theorem zsD {n nn:Nat} {a:Option Box_} {rec:(Option Box_)->(List Int)->Int->List Gap_->Option (Unit×List Gap_)} (hrec:∀{a1:List Int} {a2:Int} {gs:List Gap_} {r:Unit×List Gap_},rec a a1 a2 gs=some r->∀{oc t:Nat},(ids (gM oc t gs)).Nodup->zqF Try.prog 45 [pA Box_.cells a,.sl .no 1 (a1.map cI),.i a2,.fn (.func 46) [] [.ptr oc 0,.ep [pA Box_.cells a]]] (gM oc t gs) (gT oc r.2)) {a1:List Int} {a2:Int} {gs:List Gap_} {r:Unit×List Gap_} (hM:zcR n rec (fun x0 s=>zaE nn a x0 s) a a1 a2 gs=some r) {oc t:Nat} (hnd:(ids (gM oc t gs)).Nodup):zqF Try.prog 45 [pA Box_.cells a,.sl .no 1 (a1.map cI),.i a2,.fn (.func 46) [] [.ptr oc 0,.ep [pA Box_.cells a]]] (gM oc t gs) (gT oc r.2):=by
 refine zkK mixed Try.func45 rfl (by decide) Try.ntmps45 (by simp) (zuE oc t gs r.2) fun H0 g hf hp=>?_
 rw [zah]
 change wpA _ _ _ _ (Fr.of [(0,pA Box_.cells a),(1,.sl .no 1 (a1.map cI)),(2,.i a2),(3,.fn (.func 46) [] [.ptr oc 0,.ep [pA Box_.cells a]])]) H0 g
 have hS:=St.startH hf hnd hp
 have hog:oc<g:=(hS.has (oc,_) (List.mem_cons_self ..)).2.1
 unfold zcR at hM
 refine Sq ?_
 refine Sq ?_
 refine Rg 10 ?_
 refine Om (.sl .no 1 (a1.map cI)) ?_
 refine zb9 (n:=a1.length) (by decide) rfl (List.length_map _) zaQ ?_
 refine Om (pA Box_.cells a) ?_
 obtain ⟨b,hb0,hM⟩:=zaj hM
 refine zh2 (f:=Box_.cells) (p:=a) (u:=b) (by decide) rfl hb0 ?_
 refine Of ((Box.cells b.Box)) zeg ?_
 refine Of ((Box.cells b.Box)) zfY ?_
 refine Of ((Box.cells b.Box)) zcE ?_
 refine Olp (.sl .no 1 (b.Box.Wheel.Coins.map cI)) zaI zaU ?_
 refine zb9 (n:=b.Box.Wheel.Coins.length) (by decide) rfl (List.length_map _) zaQ ?_
 refine Oi (.b ((a1.length:Int)==(b.Box.Wheel.Coins.length:Int))) ?_
 refine Ni ?_
 refine Ws ?_
 rcases bft ((a1.length:Int)==(b.Box.Wheel.Coins.length:Int)) with hb2 | hb2
 ·replace hM:=ifT hM hb2
  refine Ct hb2 ?_
  refine Sq ?_
  refine Rg 3 ?_
  refine Om (.fn (.func 46) [] [.ptr oc 0,.ep [pA Box_.cells a]]) ?_
  refine Om (.sl .no 1 (a1.map cI)) ?_
  obtain ⟨r3,hr3,hM⟩:=zaj hM
  obtain rfl:=Option.some.inj hM
  refine zr8 (M:=gM oc t gs) (L:=[]) (.inl rfl) (by rw [List.append_nil];exact hS) (by decide) rfl rfl (zgH hr3 hnd) (by omega) ?_
  rintro v M' H g2 ⟨t2,rfl,rfl⟩ hg2 hi hS
  rw [List.append_nil] at hS
  refine Ni ?_
  refine Ws ?_
  refine zaS ?_
  refine zao ?_
  exact zoW (.inr rfl) rfl hS (by omega) fun i h=>(hi i h).imp id fun h=>by omega
 replace hM:=ifF hM hb2
 refine Cf hb2 ?_
 refine zay ?_
 refine Ws ?_
 refine Sq ?_
 refine Rg 3 ?_
 refine Om (.i a2) ?_
 refine Oi (.i (w64 (a2+1))) ?_
 refine Om (.i 0) ?_
 refine Ni ?_
 refine Ws ?_
 refine zaB ?_
 refine zco (V:=Int×List Gap_×Nat) (fun v=>[(0,pA Box_.cells a),(1,.sl .no 1 (a1.map cI)),(2,.i a2),(3,.fn (.func 46) [] [.ptr oc 0,.ep [pA Box_.cells a]]),(23,.i (w64 (a2+1))),(24,.i v.1)]) (fun v m2 H' g'=>St (fun i=>i<g/\i∉ids (gM oc t gs)) H0 (gM oc v.2.2 v.2.1) H' g'/\g<=g'/\(∀i,i∈ids (gM oc v.2.2 v.2.1)->i∈ids (gM oc t gs)\/g<=i)/\zbB rec a a1 a2 m2 v.1 v.2.1=some r) (n:=n) (0,gs,t) (.k (.k (.k (.k (.k (.k .nil)))))) ⟨hS.up (by omega),by omega,fun i h=>.inl h,hM⟩ ?_
 rintro ⟨k,gs2,t2⟩ m2 H g2 ⟨hS,hg2,hi,hM⟩
 obtain _ | m2:=m2
 ·exact nomatch (show none=some _ from hM)
 change wpA _ _ _ _ (Fr.of [(0,pA Box_.cells a),(1,.sl .no 1 (a1.map cI)),(2,.i a2),(3,.fn (.func 46) [] [.ptr oc 0,.ep [pA Box_.cells a]]),(23,.i (w64 (a2+1))),(24,.i k)]) _ _
 replace hS:St (fun i=>i<g/\i∉ids (gM oc t gs)) H0 (gM oc t2 gs2) H g2:=hS
 replace hM:zcl rec a a1 a2 (zbB rec a a1 a2 m2) k gs2=some r:=hM
 unfold zcl at hM
 replace hi:∀i,i∈ids (gM oc t2 gs2)->i∈ids (gM oc t gs)\/g<=i:=hi
 refine Sq ?_
 refine Rg 1 ?_
 refine Oi (.b (decide (k<(w64 (a2+1))))) ?_
 refine Ni ?_
 refine Ws ?_
 refine Sq ?_
 rcases bft (decide (k<(w64 (a2+1)))) with hk | hk
 rotate_left
 ·replace hM:=ifF hM hk
  obtain rfl:=Option.some.inj hM
  refine Cf hk ?_
  refine zb1 ?_
  refine zav ?_
  refine zau ?_
  refine zaD ?_
  exact zoW (.inl rfl) rfl hS (by omega) hi
 replace hM:=ifT hM hk
 refine Ct hk ?_
 refine zay ?_
 refine Ws ?_
 refine Sq ?_
 refine zaB ?_
 refine Sq ?_
 refine Rg 2 ?_
 refine Om (.i k) ?_
 refine Oa (.i k) ?_
 refine Ni ?_
 refine Ws ?_
 refine Rg 11 ?_
 refine Om (pA Box_.cells a) ?_
 refine Om (.sl .no 1 (a1.map cI)) ?_
 obtain ⟨l8,hl8,hM⟩:=zaj hM
 refine zu1 (bs:=[.sl .no 1 (a1.map cI)]) hS (by decide) rfl rfl ((zi5 hl8).le (.k .nil)) (by omega) fun H hS=>?_
 rw [List.length_map] at hS
 refine Om (.i k) ?_
 refine zbg (es:=[[.i k]]) hS (by decide) zaP zdp rfl zcZ rfl (by decide) (by omega) fun H hS=>?_
 obtain ⟨l9,hl9,hM⟩:=zaj hM
 refine zj2 (xs:=l8) (ys:=([k]:List Int)) (zs:=l9) (f:=cI) (L':=(g2+1+2+4,.row 3 1)::(g2+1+2+2,.row 3 l9.length)::gM oc t2 gs2) 1 hS (by decide) rfl rfl rfl rfl .no zaP zdp zcZ hl9 rfl fun H hS=>?_
 refine Om (.i a2) ?_
 refine Om (.i k) ?_
 refine Oi (.i (w64 (a2-k))) ?_
 refine Om (.fn (.func 46) [] [.ptr oc 0,.ep [pA Box_.cells a]]) ?_
 obtain ⟨r10,hr10,hM⟩:=zaj hM
 have hS2:=hS.perm (L':=gM oc t2 gs2++[(g2+1+2+4,.row 3 1),(g2+1+2+2,.row 3 l9.length)]) (List.perm_append_comm (l₁:=gM oc t2 gs2) (l₂:=[_,_]))
 refine zr8 (M:=gM oc t2 gs2) (L:=[(g2+1+2+4,.row 3 1),(g2+1+2+2,.row 3 l9.length)]) (.inl rfl) hS2 (by decide) rfl rfl ((hrec hr10 (show (ids (gM oc t2 gs2)).Nodup from (hS.keep (L':=gM oc t2 gs2) [false,false] rfl).nd)).le (.k (.cons (.sl _ _ _) (.k (.k .nil))))) (by omega) ?_
 rintro v M' H g3 ⟨t3,rfl,rfl⟩ hg3 hi3 hS
 refine Ni ?_
 refine zas ?_
 replace hS:=(hS.perm (L':=[(g2+1+2+4,.row 3 1),(g2+1+2+2,.row 3 l9.length)]++gM oc t3 r10.2) List.perm_append_comm).keep (L':=gM oc t3 r10.2) [false,false] rfl
 refine Ws ?_
 refine Rg 2 ?_
 refine Oi (.i (w64 (k+1))) ?_
 refine Om (.i (w64 (k+1))) ?_
 refine Ni ?_
 exact zbo (w64 (k+1),r10.2,t3) (Nat.lt_succ_self _) (.k (.k (.k (.k (.k (.k .nil)))))) ⟨hS.up (by omega),by omega,fun i h=>(hi3 i h).elim (hi i) fun h=>.inr (by omega),hM⟩
theorem zsE:∀{m nn:Nat} {a:Option Box_} {a1:List Int} {a2:Int} {gs:List Gap_} {r:Unit×List Gap_},zbx m (fun x0 s=>zaE nn a x0 s) a a1 a2 gs=some r->∀{oc t:Nat},(ids (gM oc t gs)).Nodup->zqF Try.prog 45 [pA Box_.cells a,.sl .no 1 (a1.map cI),.i a2,.fn (.func 46) [] [.ptr oc 0,.ep [pA Box_.cells a]]] (gM oc t gs) (gT oc r.2)
 | 0,_,_,_,_,_,_,h=>nomatch (show none=some _ from h)
 | n+1,nn,a,_,_,_,_,h=>fun hnd=>zsD (n:=n) (rec:=zbx n (fun x0 s=>zaE nn a x0 s)) (fun h _ _ hnd=>zsE h hnd) h hnd
theorem zhI {n:Nat} {a0:Option Box_} {r:List Gap_} (hM:zce n a0=some r):zaR Try.prog 37 [pA Box_.cells a0] (.sl .no 2 (r.map Gap_.cells)):=by
 refine zaz mixed Try.func37 rfl (by decide) Try.ntmps37 (by simp) ?pure fun H0 g hf=>?_
 case pure=>exact .sl _ _ (zpL _)
 rw [zah]
 change wpA _ _ _ _ (Fr.of [(0,pA Box_.cells a0)]) H0 g
 have hS:=St.start hf
 unfold zce at hM
 obtain ⟨rr,hrr,hM⟩:=zaj hM
 obtain rfl:=Option.some.inj hM
 refine Sq ?_
 refine Rg 2 ?_
 refine zcg (v:=pA Box_.cells a0) (cs:=[pA Box_.cells a0]) hS (by decide) rfl (zqA _ _) (by omega) fun H hS=>?_
 refine Oa (.sl .nil 0 []) ?_
 refine Ni ?_
 refine zaW (L':=[]) 0 1 hS rfl rfl rfl fun H hS=>?_
 refine Ws ?_
 refine Sq ?_
 refine Rg 1 ?_
 refine za4 hS (by decide) zsl (by omega) fun H hS=>?_
 refine Ni ?_
 refine Ws ?_
 refine Sq ?_
 refine Rg 3 ?_
 refine Olp (pA Box_.cells a0) zg4 zih ?_
 refine zcL (first:=[]) (cap:=[.ptr (g+2+0) 0,.ep [pA Box_.cells a0]]) (by decide) rfl rfl ?_
 refine zpy (M:=gM (g+2+0) 0 []) (L:=[]) (.inl rfl) hS (by decide) rfl rfl ((zsE hrr (by simp [gM,zlb,ids])).le (.k (.cons (.sl0 _ _ _) (.k (.k .nil))))) (by omega) ?_
 rintro v M' H g2 ⟨t2,rfl,rfl⟩ hg2 hS
 refine Ni ?_
 refine Ws ?_
 refine Sq ?_
 refine Rg 2 ?_
 refine zaK (v:=zjq t2 rr.2) 0 hS (by decide) rfl rfl .no (po zfb zgq) ?_
 refine Oa (zjq t2 rr.2) ?_
 refine Ni ?_
 refine Ws ?_
 refine zaS ?_
 refine zbe (x:=zjq t2 rr.2) (f:=fun (r:List Gap_)=>.sl .no 2 (r.map Gap_.cells)) (.inr rfl) (zaw (zae rfl)) ?_ rfl hS
 cases rr.2 with
 | nil=>exact .sl0 _ _ _
 | cons x gs=>exact .sl _ _ _
theorem zjT {n:Nat} {a0:Box} {r:(Option Box_)×(List Gap_)×Int} (hM:zec n a0=some r):zaR Try.prog 23 [.agg (Box.cells a0)] (.tup [pA Box_.cells r.1,.sl .no 2 (r.2.1.map Gap_.cells),.i r.2.2]):=by
 refine zaz mixed Try.func23 rfl (by decide) Try.ntmps23 (by simp) ?pure fun H0 g hf=>?_
 case pure=>exact .tup _ (zab (zoJ (fun x=>(zab (.v _) (zab (.sl _ _ (zaA (fun x=>(zab (.v _) zaJ)))) (zab (.sl _ _ (zaA (fun x=>(zab (.v _) zaJ)))) (zab (.sl _ _ (zaA (fun x=>(zab (.v _) zaJ)))) (zab (.sl _ _ (zaA (fun x=>(zab (.v _) zaJ)))) (zab (.sl _ _ (zaA (fun x=>(zab (.v _) zaJ)))) (zab (.v _) (zab (.v _) zaJ))))))))) _) (zab (.sl _ _ (zaA (fun x=>(zab (.sl _ _ (zaA (fun x=>(zab (.v _) zaJ)))) (zab (.sl _ _ (zaA (fun x=>(zab (.v _) zaJ)))) zaJ))))) (zab (.v _) zaJ)))
 rw [zah]
 change wpA _ _ _ _ (Fr.of [(0,.agg (Box.cells a0))]) H0 g
 have hS:=St.start hf
 refine Sq ?_
 refine Rg 4 ?_
 refine zcg (v:=.agg (Box.cells a0)) (cs:=(Box.cells a0)) hS (by decide) rfl rfl (by omega) fun H hS=>?_
 refine Oa (pA Box_.cells (none:Option Box_)) ?_
 refine Oa (.sl .nil 0 []) ?_
 refine Oa (.i 0) ?_
 refine Ni ?_
 refine zaW (L':=[]) 0 1 hS rfl rfl rfl fun H hS=>?_
 refine Ws ?_
 refine Sq ?_
 refine Rg 7 ?_
 refine Olg (.agg (Box.cells a0)) zj8 ?_
 obtain ⟨r1,hr1,hM⟩:=zaj hM
 refine zaO (bs:=[.agg (Box.cells a0)]) (by decide) rfl rfl ((zlw hr1).le (.k .nil)) ?_
 refine Om (.tup [pA Box_.cells r1.1,.i r1.2]) ?_
 refine Ox (pA Box_.cells r1.1) ?_
 refine Ox (.i r1.2) ?_
 refine Oa (pA Box_.cells r1.1) ?_
 refine Oa (.i r1.2) ?_
 refine Ni ?_
 refine Ws ?_
 refine Sq ?_
 refine Sq ?_
 refine Rg 2 ?_
 refine Om (.i r1.2) ?_
 refine Oi (.b (r1.2 != 0)) ?_
 refine Ni ?_
 refine Ws ?_
 rcases bft (r1.2 != 0) with hb2 | hb2
 ·replace hM:=ifT hM hb2
  refine Ct hb2 ?_
  refine Sq ?_
  refine Rg 4 ?_
  refine Om (.i r1.2) ?_
  refine Oa (pA Box_.cells (none:Option Box_)) ?_
  refine Oa (.sl .nil 0 []) ?_
  refine Oa (.i r1.2) ?_
  refine Ni ?_
  refine Ws ?_
  refine zaS ?_
  refine zao ?_
  refine zbe (x:=.tup [pA Box_.cells (none:Option Box_),.sl .nil 0 [],.i r1.2]) (f:=fun r=>.tup [pA Box_.cells r.1,.sl .no 2 (r.2.1.map Gap_.cells),.i r.2.2]) (.inr rfl) ?_ (.tupL (.k (.cons (.sl0 .nil 2 0) (.k .nil)))) (Option.some.inj hM) hS
  exact (zfR (zae (x:=pA Box_.cells (none:Option Box_)) rfl) (zae (x:=.sl .nil 0 []) rfl) (zae (x:=.i r1.2) rfl))
 ·replace hM:=ifF hM hb2
  refine Cf hb2 ?_
  refine zay ?_
  refine Ws ?_
  refine Sq ?_
  refine Rg 3 ?_
  refine Om (pA Box_.cells r1.1) ?_
  obtain ⟨r3,hr3,hM⟩:=zaj hM
  refine zaO (bs:=[pA Box_.cells r1.1]) (by decide) rfl rfl ((zhI hr3).le (.k .nil)) ?_
  refine Oa (.sl .no 2 (r3.map Gap_.cells)) ?_
  refine Ni ?_
  refine Ws ?_
  refine Sq ?_
  refine Sq ?_
  refine Rg 3 ?_
  refine Om (.sl .no 2 (r3.map Gap_.cells)) ?_
  refine zb9 (n:=r3.length) (by decide) rfl (List.length_map _) ziU ?_
  refine Oi (.b ((r3.length:Int)==0)) ?_
  refine Ni ?_
  refine Ws ?_
  rcases bft ((r3.length:Int)==0) with hb4 | hb4
  ·replace hM:=ifT hM hb4
   refine Ct hb4 ?_
   refine Sq ?_
   refine Rg 3 ?_
   refine Oa (pA Box_.cells (none:Option Box_)) ?_
   refine Oa (.sl .nil 0 []) ?_
   refine Oa (.i 3) ?_
   refine Ni ?_
   refine Ws ?_
   refine zaS ?_
   refine zao ?_
   refine zbe (x:=.tup [pA Box_.cells (none:Option Box_),.sl .nil 0 [],.i 3]) (f:=fun r=>.tup [pA Box_.cells r.1,.sl .no 2 (r.2.1.map Gap_.cells),.i r.2.2]) (.inr rfl) ?_ (.tupL (.k (.cons (.sl0 .nil 2 0) (.k .nil)))) (Option.some.inj hM) hS
   exact (zfR (zae (x:=pA Box_.cells (none:Option Box_)) rfl) (zae (x:=.sl .nil 0 []) rfl) (zae (x:=.i 3) rfl))
  ·replace hM:=ifF hM hb4
   refine Cf hb4 ?_
   refine zay ?_
   refine Ws ?_
   refine Sq ?_
   refine Rg 5 ?_
   refine Om (pA Box_.cells r1.1) ?_
   refine Om (.sl .no 2 (r3.map Gap_.cells)) ?_
   refine Oa (pA Box_.cells r1.1) ?_
   refine Oa (.sl .no 2 (r3.map Gap_.cells)) ?_
   refine Oa (.i 0) ?_
   refine Ni ?_
   refine zg8 [(2,pA Box_.cells r1.1),(3,.sl .no 2 (r3.map Gap_.cells)),(4,.i 0)] (.k (.k (.k .nil))) ?_
   refine zaS ?_
   refine zbe (x:=.tup [pA Box_.cells r1.1,.sl .no 2 (r3.map Gap_.cells),.i 0]) (f:=fun r=>.tup [pA Box_.cells r.1,.sl .no 2 (r.2.1.map Gap_.cells),.i r.2.2]) (.inr rfl) ?_ (.refl _) (Option.some.inj hM) hS
   exact (zfR (zae (x:=pA Box_.cells r1.1) rfl) (zae (x:=.sl .no 2 (r3.map Gap_.cells)) rfl) (zae (x:=.i 0) rfl))
theorem zjr {n:Nat} {a0:Box} {r:Int×Int} (hM:zdT n a0=some r):zaR Try.prog 14 [.agg (Box.cells a0)] (.tup [.i r.1,.i r.2]):=by
 refine zaz mixed Try.func14 rfl (by decide) Try.ntmps14 (by simp) ?pure fun H0 g hf=>?_
 case pure=>exact .tup _ (zab (.v _) (zab (.v _) zaJ))
 rw [zah]
 change wpA _ _ _ _ (Fr.of [(0,.agg (Box.cells a0))]) H0 g
 have hS:=St.start hf
 refine Sq ?_
 refine Rg 3 ?_
 refine zcg (v:=.agg (Box.cells a0)) (cs:=(Box.cells a0)) hS (by decide) rfl rfl (by omega) fun H hS=>?_
 refine Oa (.i 0) ?_
 refine Oa (.i 0) ?_
 refine Ni ?_
 refine zaW (L':=[]) 0 1 hS rfl rfl rfl fun H hS=>?_
 refine Ws ?_
 refine Sq ?_
 refine Rg 9 ?_
 refine Olg (.agg (Box.cells a0)) zj8 ?_
 obtain ⟨r1,hr1,hM⟩:=zaj hM
 refine zaO (bs:=[.agg (Box.cells a0)]) (by decide) rfl rfl ((zjT hr1).le (.k .nil)) ?_
 refine Om (.tup [pA Box_.cells r1.1,.sl .no 2 (r1.2.1.map Gap_.cells),.i r1.2.2]) ?_
 refine Ox (pA Box_.cells r1.1) ?_
 refine Ox (.sl .no 2 (r1.2.1.map Gap_.cells)) ?_
 refine Ox (.i r1.2.2) ?_
 refine Oa (pA Box_.cells r1.1) ?_
 refine Oa (.sl .no 2 (r1.2.1.map Gap_.cells)) ?_
 refine Oa (.i r1.2.2) ?_
 refine Ni ?_
 refine Ws ?_
 refine Sq ?_
 refine Sq ?_
 refine Rg 2 ?_
 refine Om (.i r1.2.2) ?_
 refine Oi (.b (r1.2.2 != 0)) ?_
 refine Ni ?_
 refine Ws ?_
 rcases bft (r1.2.2 != 0) with hb2 | hb2
 ·replace hM:=ifT hM hb2
  refine Ct hb2 ?_
  refine Sq ?_
  refine Rg 3 ?_
  refine Om (.i r1.2.2) ?_
  refine Oa (.i 0) ?_
  refine Oa (.i r1.2.2) ?_
  refine Ni ?_
  refine Ws ?_
  refine zaS ?_
  refine zao ?_
  refine zbe (x:=.tup [.i 0,.i r1.2.2]) (f:=fun r=>.tup [.i r.1,.i r.2]) (.inr rfl) ?_ (.refl _) (Option.some.inj hM) hS
  exact (zdC (zae (x:=.i 0) rfl) (zae (x:=.i r1.2.2) rfl))
 ·replace hM:=ifF hM hb2
  refine Cf hb2 ?_
  refine zay ?_
  refine Ws ?_
  refine Sq ?_
  refine Rg 8 ?_
  refine Om (pA Box_.cells r1.1) ?_
  refine Om (.sl .no 2 (r1.2.1.map Gap_.cells)) ?_
  obtain ⟨x3,hx3,hM⟩:=zaj hM
  refine za8 (xs:=r1.2.1) (f:=Gap_.cells) (z:=0) (u:=x3) (by decide) rfl rfl zg5 hx3 ?_
  refine Of ((Gap_.cells x3)) zk2 ?_
  refine Olp (.sl .no 1 (x3.purse.map cI)) zaI zaU ?_
  obtain ⟨r4,hr4,hM⟩:=zaj hM
  refine zaO (bs:=[pA Box_.cells r1.1,.sl .no 1 (x3.purse.map cI)]) (by decide) rfl rfl ((zcF hr4).le (.k (.k .nil))) ?_
  refine Oa (.i r4) ?_
  refine Oa (.i 0) ?_
  refine Ni ?_
  refine zg8 [(2,.i r4),(3,.i 0)] (.k (.k .nil)) ?_
  refine zaS ?_
  refine zbe (x:=.tup [.i r4,.i 0]) (f:=fun r=>.tup [.i r.1,.i r.2]) (.inr rfl) ?_ (.refl _) (Option.some.inj hM) hS
  exact (zdC (zae (x:=.i r4) rfl) (zae (x:=.i 0) rfl))
theorem zfA {n:Nat} {r:Bool} (hM:zdz n=some r):zaR Try.prog 7 [] (.b r):=by
 refine zaz mixed Try.func7 rfl (by decide) Try.ntmps7 (by simp) ?pure fun H0 g hf=>?_
 case pure=>exact .v _
 rw [zah]
 change wpA _ _ _ _ (Fr.of []) H0 g
 have hS:=St.start hf
 refine Sq ?_
 refine Rg 1 ?_
 refine Oa (.b false) ?_
 refine Ni ?_
 refine Ws ?_
 refine Sq ?_
 refine Rg 5 ?_
 refine zbg (es:=[[.i 10],[.i 20],[.i 25]]) hS (by decide) zaP zdp rfl zcZ rfl (by decide) (by omega) fun H hS=>?_
 refine zbg (es:=[[.i 5],[.i 10],[.i 25]]) hS (by decide) zaP zdp rfl zcZ rfl (by decide) (by omega) fun H hS=>?_
 refine zbf (cs:=[.i 50,.sl (.id (g+1+0)) 1 (([10,20,25]:List Int).map cI),.sl (.id (g+1+1)) 1 (([5,10,25]:List Int).map cI)]) (by decide) znD zvj rfl ?_
 refine za4 hS (by decide) znD (by omega) fun H hS=>?_
 refine zaC (v:=.agg [.i 50,.sl (.id (g+1+0)) 1 (([10,20,25]:List Int).map cI),.sl (.id (g+1+1)) 1 (([5,10,25]:List Int).map cI)]) (ns:=[.i 50,.sl (.id (g+1+0)) 1 (([10,20,25]:List Int).map cI),.sl (.id (g+1+1)) 1 (([5,10,25]:List Int).map cI)]) (L':=[(g+1+3,.cells [.i 50,.sl (.id (g+1+0)) 1 (([10,20,25]:List Int).map cI),.sl (.id (g+1+1)) 1 (([5,10,25]:List Int).map cI)]),(g+1+1,.row 3 3),(g+1+0,.row 3 3)]) 0 hS rfl rfl .no rfl rfl ztW nlb rfl fun H hS=>?_
 refine Ni ?_
 refine zoH (cs':=[.i 50,.sl .no 1 (([10,20,25]:List Int).map cI),.sl .no 1 (([5,10,25]:List Int).map cI)]) (L':=[(g+1+3,.cells [.i 50,.sl .no 1 (([10,20,25]:List Int).map cI),.sl .no 1 (([5,10,25]:List Int).map cI)]),(g+1+1,.row 3 3),(g+1+0,.row 3 3)]) 0 hS rfl (.k (.cons (.sl _ _ _) (.cons (.sl _ _ _) .nil))) rfl fun H hS=>?_
 refine zaW (L':=[(g+1+1,.row 3 3),(g+1+0,.row 3 3)]) 0 1 hS rfl rfl rfl fun H hS=>?_
 replace hS:=hS.keep (L':=[]) [false,false] rfl
 refine Ws ?_
 refine Sq ?_
 refine Rg 8 ?_
 refine Olg (.agg [.i 50,.sl .no 1 (([10,20,25]:List Int).map cI),.sl .no 1 (([5,10,25]:List Int).map cI)]) zdq ?_
 refine zbg (es:=[[.i 0],[.i 0],[.i 2]]) hS (by decide) zaP zdp rfl zcZ rfl (by decide) (by omega) fun H hS=>?_
 obtain ⟨r1,hr1,hM⟩:=zaj hM
 refine zaO (bs:=[.agg [.i 50,.sl .no 1 (([10,20,25]:List Int).map cI),.sl .no 1 (([5,10,25]:List Int).map cI)],.sl (.id (g+1+5+1)) 1 (([0,0,2]:List Int).map cI)]) (by decide) rfl rfl ((zjJ hr1).le (.k (.cons (.sl _ _ _) .nil))) ?_
 refine Om (.tup [.i r1.1,.i r1.2]) ?_
 refine Ox (.i r1.1) ?_
 refine Ox (.i r1.2) ?_
 refine Oa (.i r1.1) ?_
 refine Oa (.i r1.2) ?_
 refine Ni ?_
 replace hS:=hS.keep (L':=[]) [false] rfl
 refine Ws ?_
 refine Sq ?_
 refine Rg 2 ?_
 refine zbg (es:=[[.i 0],[.i 0],[.i 0]]) hS (by decide) zaP zdp rfl zcZ rfl (by decide) (by omega) fun H hS=>?_
 refine Oa (.sl (.id (g+1+5+8+0)) 1 (([0,0,0]:List Int).map cI)) ?_
 refine Ni ?_
 refine Ws ?_
 refine Sq ?_
 refine Rg 11 ?_
 refine Olg (.agg [.i 50,.sl .no 1 (([10,20,25]:List Int).map cI),.sl .no 1 (([5,10,25]:List Int).map cI)]) zdq ?_
 refine Om (.sl (.id (g+1+5+8+0)) 1 (([0,0,0]:List Int).map cI)) ?_
 refine Om (.sl (.id (g+1+5+8+0)) 1 (([0,0,0]:List Int).map cI)) ?_
 refine Om (.sl (.id (g+1+5+8+0)) 1 (([0,0,0]:List Int).map cI)) ?_
 refine zbf (cs:=[.i 50,.sl .no 1 (([10,20,25]:List Int).map cI),.sl .no 1 (([5,10,25]:List Int).map cI),.sl (.id (g+1+5+8+0)) 1 (([0,0,0]:List Int).map cI),.sl (.id (g+1+5+8+0)) 1 (([0,0,0]:List Int).map cI),.sl (.id (g+1+5+8+0)) 1 (([0,0,0]:List Int).map cI),.i 3,.i 0]) (by decide) zsh zvp rfl ?_
 obtain ⟨r2,hr2,hM⟩:=zaj hM
 refine zaO (bs:=[.agg [.i 50,.sl .no 1 (([10,20,25]:List Int).map cI),.sl .no 1 (([5,10,25]:List Int).map cI),.sl (.id (g+1+5+8+0)) 1 (([0,0,0]:List Int).map cI),.sl (.id (g+1+5+8+0)) 1 (([0,0,0]:List Int).map cI),.sl (.id (g+1+5+8+0)) 1 (([0,0,0]:List Int).map cI),.i 3,.i 0]]) (by decide) rfl rfl ((zjr hr2).le (.cons (.aggL (.k (.k (.k (.cons (.sl _ _ _) (.cons (.sl _ _ _) (.cons (.sl _ _ _) (.k (.k .nil))))))))) .nil)) ?_
 refine Om (.tup [.i r2.1,.i r2.2]) ?_
 refine Ox (.i r2.1) ?_
 refine Ox (.i r2.2) ?_
 refine Oa (.i r2.1) ?_
 refine Oa (.i r2.2) ?_
 refine Ni ?_
 replace hS:=hS.keep (L':=[]) [false] rfl
 refine Ws ?_
 refine zaY (J:=Bool) (fun j=>[(0,.b j)]) (fun j H' g'=>St (·<g) H0 [] H' g'/\zcB j=some r) ?_ ?_
 ·rintro v3 H g1 ⟨hS,hM⟩
  change wpA _ _ _ _ (Fr.of [(0,.b v3)]) _ _
  replace hS:St (·<g) H0 [] H g1:=hS
  replace hM:zcB v3=some r:=hM
  refine zaS ?_
  refine zbe (x:=.b v3) (f:=fun r=>.b r) (.inr rfl) ?_ (.refl _) (Option.some.inj hM) hS
  exact (zaw (zae (x:=.b v3) rfl))
 ·refine Rg 15 ?_
  refine Om (.i r1.2) ?_
  refine Oi (.b (r1.2==0)) ?_
  refine Om (.b (r1.2==0)) ?_
  rcases bft (r1.2==0) with hb4 | hb4
  ·replace hM:=ifT hM hb4
   refine Oy (want:=true) hb4 ?_
   refine Om (.i r2.2) ?_
   refine Oy (want:=true) hb4 ?_
   refine Oi (.b (r2.2==0)) ?_
   refine Pt (.b (r2.2==0)) hb4 ?_
   refine Om (.b (r2.2==0)) ?_
   rcases bft (r2.2==0) with hb5 | hb5
   ·replace hM:=ifT hM hb5
    refine Oy (want:=true) hb5 ?_
    refine Om (.i r1.1) ?_
    refine Oy (want:=true) hb5 ?_
    refine Oi (.b (r1.1==6)) ?_
    refine Pt (.b (r1.1==6)) hb5 ?_
    refine Om (.b (r1.1==6)) ?_
    rcases bft (r1.1==6) with hb6 | hb6
    ·replace hM:=ifT hM hb6
     refine Oy (want:=true) hb6 ?_
     refine Om (.i r2.1) ?_
     refine Oy (want:=true) hb6 ?_
     refine Oi (.b (r2.1==25)) ?_
     refine Pt (.b (r2.1==25)) hb6 ?_
     refine Oa (.b (r2.1==25)) ?_
     refine Ni ?_
     exact zai (r2.1==25) (.k .nil) ⟨(hS.keep [] rfl).up (by omega),hM⟩
    ·replace hM:=ifF hM hb6
     refine On (want:=true) hb6 ?_
     refine On (want:=true) hb6 ?_
     refine Pf (.b false) hb6 ?_
     refine Oa (.b false) ?_
     refine Ni ?_
     exact zai false (.k .nil) ⟨(hS.keep [] rfl).up (by omega),hM⟩
   ·replace hM:=ifF hM hb5
    refine On (want:=true) hb5 ?_
    refine On (want:=true) hb5 ?_
    refine Pf (.b false) hb5 ?_
    refine Om (.b false) ?_
    refine Og ?_
    refine Og ?_
    refine zcJ (v:=.b false) (e:=false) (by decide) rfl rfl rfl ?_
    refine Oa (.b false) ?_
    refine Ni ?_
    exact zai false (.k .nil) ⟨(hS.keep [] rfl).up (by omega),hM⟩
  ·replace hM:=ifF hM hb4
   refine On (want:=true) hb4 ?_
   refine On (want:=true) hb4 ?_
   refine Pf (.b false) hb4 ?_
   refine Om (.b false) ?_
   refine Og ?_
   refine Og ?_
   refine zcJ (v:=.b false) (e:=false) (by decide) rfl rfl rfl ?_
   refine Om (.b false) ?_
   refine Og ?_
   refine Og ?_
   refine zcJ (v:=.b false) (e:=false) (by decide) rfl rfl rfl ?_
   refine Oa (.b false) ?_
   refine Ni ?_
   exact zai false (.k .nil) ⟨(hS.keep [] rfl).up (by omega),hM⟩
theorem zby {a0:Int} {a1:Int} {a2:Int} {r:Bool} (hM:zbC a0 a1 a2=some r):zaR Try.prog 18 [.i a0,.i a1,.i a2] (.b r):=by
 refine zaz mixed Try.func18 rfl (by decide) Try.ntmps18 (by simp) ?pure fun H0 g hf=>?_
 case pure=>exact .v _
 rw [zah]
 change wpA _ _ _ _ (Fr.of [(0,.i a0),(1,.i a1),(2,.i a2)]) H0 g
 have hS:=St.start hf
 refine Sq ?_
 refine Rg 1 ?_
 refine Oa (.b false) ?_
 refine Ni ?_
 refine Ws ?_
 refine zaY (J:=Bool) (fun j=>[(6,.b j)]) (fun j H' g'=>St (·<g) H0 [] H' g'/\zed j=some r) ?_ ?_
 ·rintro v1 H g1 ⟨hS,hM⟩
  change wpA _ _ _ _ (Fr.of [(6,.b v1)]) _ _
  replace hS:St (·<g) H0 [] H g1:=hS
  replace hM:zed v1=some r:=hM
  refine zaS ?_
  refine zbe (x:=.b v1) (f:=fun r=>.b r) (.inr rfl) ?_ (.refl _) (Option.some.inj hM) hS
  exact (zaw (zae (x:=.b v1) rfl))
 ·refine Rg 9 ?_
  refine Om (.i a1) ?_
  refine Om (.i a0) ?_
  refine Oi (.b (decide (a1<=a0))) ?_
  refine Om (.b (decide (a1<=a0))) ?_
  rcases bft (decide (a1<=a0)) with hb2 | hb2
  ·replace hM:=ifT hM hb2
   refine Oy (want:=true) hb2 ?_
   refine Om (.i a0) ?_
   refine Oy (want:=true) hb2 ?_
   refine Om (.i a2) ?_
   refine Oy (want:=true) hb2 ?_
   refine Oi (.b (decide (a0<=a2))) ?_
   refine Pt (.b (decide (a0<=a2))) hb2 ?_
   refine Oa (.b (decide (a0<=a2))) ?_
   refine Ni ?_
   exact zai (decide (a0<=a2)) (.k .nil) ⟨(hS.keep [] rfl).up (by omega),hM⟩
  ·replace hM:=ifF hM hb2
   refine On (want:=true) hb2 ?_
   refine On (want:=true) hb2 ?_
   refine On (want:=true) hb2 ?_
   refine Pf (.b false) hb2 ?_
   refine Oa (.b false) ?_
   refine Ni ?_
   exact zai false (.k .nil) ⟨(hS.keep [] rfl).up (by omega),hM⟩
theorem zld {a0:Int} {r:Bool} (hM:zeG a0=some r):zaR Try.prog 19 [.i a0] (.b r):=by
 refine zaz mixed Try.func19 rfl (by decide) Try.ntmps19 (by simp) ?pure fun H0 g hf=>?_
 case pure=>exact .v _
 rw [zah]
 change wpA _ _ _ _ (Fr.of [(0,.i a0)]) H0 g
 have hS:=St.start hf
 refine Sq ?_
 refine Rg 1 ?_
 refine Oa (.b false) ?_
 refine Ni ?_
 refine Ws ?_
 refine Sq ?_
 refine Rg 3 ?_
 refine Om (.i a0) ?_
 obtain ⟨r1,hr1,hM⟩:=zaj hM
 refine zaO (bs:=[.i a0,.i 0,.i 99]) (by decide) rfl rfl ((zby hr1).le (.k (.k (.k .nil)))) ?_
 refine Oa (.b r1) ?_
 refine Ni ?_
 refine Ws ?_
 refine zaS ?_
 refine zbe (x:=.b r1) (f:=fun r=>.b r) (.inr rfl) ?_ (.refl _) (Option.some.inj hM) hS
 exact (zaw (zae (x:=.b r1) rfl))
theorem zik {S:Type} {Lo:S->BL} (hk:∀s s',zg7 (Lo s) (Lo s')) (hnd:∀s,(ids (Lo s)).Nodup) (hin:∀s,InB In (Lo s)) {aF:Int->S->Option (Bool×S)} {f0:AV} (hF:∀s H,Has H (Lo s)->In H f0) (h0:cellsOf f0=some [f0]) (hf:∀{x0:Int} {s:S} {r:Bool×S},aF x0 s=some r->zlo Try.prog f0 [.i x0] (Lo s) (.b r.1) (Lo r.2)) {a0:Int} {st:S} {r:Bool×S} (hM:zd5 aF a0 st=some r):zhc Try.prog 31 [.i a0,.ep [f0]] (Lo st) (.b r.1) (Lo r.2):=by
 have hnd0:∀s,(ids (Lo s)).Nodup:=fun s=>hnd s
 refine zbE mixed Try.func31 rfl (by decide) Try.ntmps31 (by simp) (hk _ _) (hnd st) ?pure ?cells fun H0 g hf_ hp=>?_
 case pure=>exact fun H _=>(show Go.AM.Pure _ from .v _).inH
 case cells=>exact hin _
 rw [zah]
 change wpA _ _ _ _ (Fr.of [(0,.i a0),(1,.ep [f0])]) H0 g
 have hS:=St.startH (L:=([]++Lo st)) hf_ (hnd st) hp
 replace hS:St (fun i=>i<g/\i∉ids (Lo st)) H0 ([]++Lo st) H0 g:=hS
 refine Sq ?_
 refine Rg 1 ?_
 refine Oa (.b false) ?_
 refine Ni ?_
 refine Ws ?_
 refine Sq ?_
 refine Rg 5 ?_
 refine Olp (f0) zpD zsj ?_
 refine Om (.i a0) ?_
 obtain ⟨r1,hr1,hM⟩:=zaj hM
 replace hS:St (fun i=>i<g/\i∉ids (Lo st)) H0 ([]++Lo st) _ _:=hS
 refine zgW (bs:=[.i a0]) (.inl rfl) hS (by decide) rfl rfl ((hf hr1).le (.k .nil)) (hk _ _).ids (by omega) fun H hS=>?_
 refine zc5 (e:=r1.1) (by decide) rfl ?_
 refine Oa (.b (!r1.1)) ?_
 refine Ni ?_
 refine Ws ?_
 refine zaS ?_
 refine zdf (x:=.b (!r1.1)) (f:=fun r=>.b r.1) (fd:=fun r=>(Lo r.2)) (.inr rfl) ?_ (.refl _) (Option.some.inj hM) hS 0 rfl
 exact (zaw (zae (x:=.b (!r1.1)) rfl))
theorem zjU {S:Type} {Lo:S->BL} (hk:∀s s',zg7 (Lo s) (Lo s')) (hnd:∀s,(ids (Lo s)).Nodup) (hin:∀s,InB In (Lo s)) {aF:Int->S->Option (Bool×S)} {f0:AV} (hF:∀s H,Has H (Lo s)->In H f0) (h0:cellsOf f0=some [f0]) (hf:∀{x0:Int} {s:S} {r:Bool×S},aF x0 s=some r->zlo Try.prog f0 [.i x0] (Lo s) (.b r.1) (Lo r.2)) {n:Nat} {a0:List Int} {st:S} {r:Bool×S} (hM:ze9 n aF a0 st=some r):zhc Try.prog 20 [.sl .no 1 (a0.map cI),f0] (Lo st) (.b r.1) (Lo r.2):=by
 have hnd0:∀s,(ids (Lo s)).Nodup:=fun s=>hnd s
 refine zbE mixed Try.func20 rfl (by decide) Try.ntmps20 (by simp) (hk _ _) (hnd st) ?pure ?cells fun H0 g hf_ hp=>?_
 case pure=>exact fun H _=>(show Go.AM.Pure _ from .v _).inH
 case cells=>exact hin _
 rw [zah]
 change wpA _ _ _ _ (Fr.of [(0,.sl .no 1 (a0.map cI)),(1,f0)]) H0 g
 have hS:=St.startH (L:=([]++Lo st)) hf_ (hnd st) hp
 replace hS:St (fun i=>i<g/\i∉ids (Lo st)) H0 ([]++Lo st) H0 g:=hS
 refine Sq ?_
 refine Rg 2 ?_
 refine zcg (v:=f0) (cs:=[f0]) hS (by decide) rfl h0 (by omega) fun H hS=>?_
 refine Oa (.b false) ?_
 refine Ni ?_
 refine zaW (L':=([]++Lo st)) 0 3 hS rfl rfl rfl fun H hS=>?_
 refine Ws ?_
 refine Sq ?_
 refine Rg 5 ?_
 refine Om (.sl .no 1 (a0.map cI)) ?_
 refine zcL (first:=[]) (cap:=[.ep [f0]]) (by decide) rfl rfl ?_
 obtain ⟨r1,hr1,hM⟩:=zaj hM
 replace hS:St (fun i=>i<g/\i∉ids (Lo st)) H0 ([]++Lo st) _ _:=hS
 refine ziE (bs:=[.sl .no 1 (a0.map cI),.fn (.func 31) [] [.ep [f0]]]) (.inl rfl) hS (by decide) rfl rfl ((zc0 (Lo:=Lo)  hk hnd0 hin (aF:=(zd5 aF)) (fun s H hH=>(.fn _ _ _ zb2 (za0 (.ep _ (za0 (hF _ H hH) zb2)) zb2))) rfl (fun h=>zif (zik (Lo:=Lo)  hk hnd0 hin hF h0 hf h)) hr1).le (.k (.k .nil))) (hk _ _).ids (by omega) fun H hS=>?_
 refine zc5 (e:=r1.1) (by decide) rfl ?_
 refine Oa (.b (!r1.1)) ?_
 refine Ni ?_
 refine zg8 [(4,.b (!r1.1))] (.k .nil) ?_
 refine zaS ?_
 refine zdf (x:=.b (!r1.1)) (f:=fun r=>.b r.1) (fd:=fun r=>(Lo r.2)) (.inr rfl) ?_ (.refl _) (Option.some.inj hM) hS 0 rfl
 exact (zaw (zae (x:=.b (!r1.1)) rfl))
theorem zjK {n:Nat} {a0:Wear} {r:Int} (hM:zfJ n a0=some r):zaR Try.prog 9 [.agg (Wear.cells a0)] (.i r):=by
 refine zaz mixed Try.func9 rfl (by decide) Try.ntmps9 (by simp) ?pure fun H0 g hf=>?_
 case pure=>exact .v _
 rw [zah]
 change wpA _ _ _ _ (Fr.of [(0,.agg (Wear.cells a0))]) H0 g
 have hS:=St.start hf
 refine Sq ?_
 refine Rg 2 ?_
 refine zcg (v:=.agg (Wear.cells a0)) (cs:=(Wear.cells a0)) hS (by decide) rfl rfl (by omega) fun H hS=>?_
 refine Oa (.i 0) ?_
 refine Ni ?_
 refine zaW (L':=[]) 0 1 hS rfl rfl rfl fun H hS=>?_
 refine Ws ?_
 refine Sq ?_
 refine zaY (J:=Bool) (fun j=>[(1,.ep (Wear.cells a0)),(42,.b j)]) (fun j H' g'=>St (·<g) H0 [] H' g'/\zbT n a0 j=some r) ?_ ?_
 ·rintro v1 H g1 ⟨hS,hM⟩
  change wpA _ _ _ _ (Fr.of [(1,.ep (Wear.cells a0)),(42,.b v1)]) _ _
  replace hS:St (·<g) H0 [] H g1:=hS
  replace hM:zbT n a0 v1=some r:=hM
  rcases bft v1 with hb2 | hb2
  ·replace hM:=ifT hM hb2
   refine Ct hb2 ?_
   refine Sq ?_
   refine Rg 1 ?_
   refine Oa (.i 30) ?_
   refine Ni ?_
   refine Ws ?_
   refine zaS ?_
   refine zao ?_
   refine zbe (x:=.i 30) (f:=fun r=>.i r) (.inr rfl) ?_ (.refl _) (Option.some.inj hM) hS
   exact (zaw (zae (x:=.i 30) rfl))
  ·replace hM:=ifF hM hb2
   refine Cf hb2 ?_
   refine zay ?_
   refine Ws ?_
   refine zaY (J:=Unit) (fun j=>[(1,.ep (Wear.cells a0))]) (fun j H' g'=>St (·<g) H0 [] H' g'/\zfH n a0=some r) ?_ ?_
   ·rintro _ H g2 ⟨hS,hM⟩
    change wpA _ _ _ _ (Fr.of [(1,.ep (Wear.cells a0))]) _ _
    replace hS:St (·<g) H0 [] H g2:=hS
    replace hM:zfH n a0=some r:=hM
    refine zaY (J:=Unit) (fun j=>[]) (fun j H' g'=>St (·<g) H0 [] H' g'/\zg2=some r) ?_ ?_
    ·rintro _ H g3 ⟨hS,hM⟩
     change wpA _ _ _ _ (Fr.of []) _ _
     replace hS:St (·<g) H0 [] H g3:=hS
     replace hM:zg2=some r:=hM
     refine Sq ?_
     refine Rg 1 ?_
     refine Oa (.i 0) ?_
     refine Ni ?_
     refine Ws ?_
     refine zaS ?_
     refine zbe (x:=.i 0) (f:=fun r=>.i r) (.inr rfl) ?_ (.refl _) (Option.some.inj hM) hS
     exact (zaw (zae (x:=.i 0) rfl))
    ·refine Sq ?_
     refine Rg 4 ?_
     refine Of ((Wear.cells a0)) zhB ?_
     refine Olp (.sl .no 4 (a0.Records.map WearRecord.cells)) ziQ zkP ?_
     refine zb9 (n:=a0.Records.length) (by decide) rfl (List.length_map _) ziR ?_
     refine Om (.i 0) ?_
     refine Ni ?_
     refine Ws ?_
     refine zaB ?_
     refine zco (V:=Int) (fun v=>[(1,.ep (Wear.cells a0)),(70,.sl .no 4 (a0.Records.map WearRecord.cells)),(71,.i (a0.Records.length:Int)),(72,.i v)]) (fun v m4 H' g'=>St (·<g) H0 [] H' g'/\zcT n a0 m4 v=some r) (n:=n) 0 (.k (.k (.k (.k .nil)))) ⟨(hS.keep [] rfl).up (by omega),hM⟩ ?_
     rintro v3 m4 H g4 ⟨hS,hM⟩
     obtain _ | m4:=m4
     ·exact nomatch (show none=some _ from hM)
     change wpA _ _ _ _ (Fr.of [(1,.ep (Wear.cells a0)),(70,.sl .no 4 (a0.Records.map WearRecord.cells)),(71,.i (a0.Records.length:Int)),(72,.i v3)]) _ _
     replace hS:St (·<g) H0 [] H g4:=hS
     replace hM:zeH n a0 (zcT n a0 m4) v3=some r:=hM
     refine Sq ?_
     refine Rg 1 ?_
     refine Oi (.b (decide (v3<(a0.Records.length:Int)))) ?_
     refine Ni ?_
     refine Ws ?_
     refine Sq ?_
     rcases bft (decide (v3<(a0.Records.length:Int))) with hb4 | hb4
     ·replace hM:=ifT hM hb4
      refine Ct hb4 ?_
      refine zay ?_
      refine Ws ?_
      refine Sq ?_
      refine zaB ?_
      refine Sq ?_
      refine Rg 4 ?_
      obtain ⟨x5,hx5,hM⟩:=zaj hM
      refine za8 (xs:=a0.Records) (f:=WearRecord.cells) (z:=v3) (u:=x5) (by decide) rfl rfl zmH hx5 ?_
      refine Olg (.agg (WearRecord.cells x5)) zmF ?_
      refine za4 hS (by decide) ziP (by omega) fun H hS=>?_
      refine zaC (v:=.agg (WearRecord.cells x5)) (ns:=(WearRecord.cells x5)) (L':=[(g4+1+2,.cells (WearRecord.cells x5))]) 0 hS rfl rfl .no rfl rfl zmG nlb rfl fun H hS=>?_
      refine Ni ?_
      refine zaW (L':=[]) 0 6 hS rfl rfl rfl fun H hS=>?_
      refine Ws ?_
      refine Sq ?_
      refine Rg 1 ?_
      refine Oa (.fn (.func 19) [] []) ?_
      refine Ni ?_
      refine Ws ?_
      refine zaY (J:=Bool) (fun j=>[(1,.ep (Wear.cells a0)),(70,.sl .no 4 (a0.Records.map WearRecord.cells)),(71,.i (a0.Records.length:Int)),(72,.i v3),(106,.b j)]) (fun j H' g'=>St (·<g) H0 [] H' g'/\zcw (zcT n a0 m4) v3 j=some r) ?_ ?_
      ·rintro v6 H g5 ⟨hS,hM⟩
       change wpA _ _ _ _ (Fr.of [(1,.ep (Wear.cells a0)),(70,.sl .no 4 (a0.Records.map WearRecord.cells)),(71,.i (a0.Records.length:Int)),(72,.i v3),(106,.b v6)]) _ _
       replace hS:St (·<g) H0 [] H g5:=hS
       replace hM:zcw (zcT n a0 m4) v3 v6=some r:=hM
       rcases bft v6 with hb7 | hb7
       ·replace hM:=ifT hM hb7
        refine Ct hb7 ?_
        refine Sq ?_
        refine Rg 1 ?_
        refine Oa (.i 30) ?_
        refine Ni ?_
        refine Ws ?_
        refine zaS ?_
        refine zaV ?_
        refine zao ?_
        refine zbA ?_
        refine zaV ?_
        refine zcn ?_
        refine zbe (x:=.i 30) (f:=fun r=>.i r) (.inr rfl) ?_ (.refl _) (Option.some.inj hM) hS
        exact (zaw (zae (x:=.i 30) rfl))
       ·replace hM:=ifF hM hb7
        refine Cf hb7 ?_
        refine zay ?_
        refine zas ?_
        refine Ws ?_
        refine Rg 2 ?_
        refine Oi (.i (w64 (v3+1))) ?_
        refine Om (.i (w64 (v3+1))) ?_
        refine Ni ?_
        exact zbo (w64 (v3+1)) (Nat.lt_succ_self _) (.k (.k (.k (.k .nil)))) ⟨(hS.keep [] rfl).up (by omega),hM⟩
      ·refine Rg 31 ?_
       refine Of ((WearRecord.cells x5)) znJ ?_
       refine Olp (.i x5.Worn) zaf zal ?_
       obtain ⟨r8,hr8,hM⟩:=zaj hM
       refine zaO (bs:=[.i x5.Worn,.i 0,.i 99999]) (by decide) rfl rfl ((zby hr8).le (.k (.k (.k .nil)))) ?_
       refine zc5 (e:=r8) (by decide) rfl ?_
       refine Om (.b (!r8)) ?_
       rcases bft (!r8) with hb9 | hb9
       ·replace hM:=ifT hM hb9
        refine On (want:=false) hb9 ?_
        refine On (want:=false) hb9 ?_
        refine On (want:=false) hb9 ?_
        refine On (want:=false) hb9 ?_
        refine Pt (.b true) hb9 ?_
        refine Om (.b true) ?_
        refine Og ?_
        refine Og ?_
        refine Og ?_
        refine Og ?_
        refine zbN (v:=.b true) (e:=true) (by decide) rfl rfl rfl ?_
        refine Om (.b true) ?_
        refine Og ?_
        refine Og ?_
        refine Og ?_
        refine Og ?_
        refine Og ?_
        refine Og ?_
        refine zbN (v:=.b true) (e:=true) (by decide) rfl rfl rfl ?_
        refine Om (.b true) ?_
        refine Og ?_
        refine Og ?_
        refine Og ?_
        refine Og ?_
        refine Og ?_
        refine zbN (v:=.b true) (e:=true) (by decide) rfl rfl rfl ?_
        refine Ni ?_
        exact zai true (.k (.k (.k (.k (.k .nil))))) ⟨(hS.keep [] rfl).up (by omega),hM⟩
       ·replace hM:=ifF hM hb9
        refine Oy (want:=false) hb9 ?_
        refine Of ((WearRecord.cells x5)) zsw ?_
        refine Oy (want:=false) hb9 ?_
        refine Olp (.i x5.Limit) zaf zal ?_
        refine Oy (want:=false) hb9 ?_
        obtain ⟨r10,hr10,hM⟩:=zaj hM
        refine zaO (bs:=[.i x5.Limit,.i 0,.i 99999]) (by decide) rfl rfl ((zby hr10).le (.k (.k (.k .nil)))) ?_
        refine Oy (want:=false) hb9 ?_
        refine zc5 (e:=r10) (by decide) rfl ?_
        refine Pf (.b (!r10)) hb9 ?_
        refine Om (.b (!r10)) ?_
        rcases bft (!r10) with hb11 | hb11
        ·replace hM:=ifT hM hb11
         refine On (want:=false) hb11 ?_
         refine On (want:=false) hb11 ?_
         refine On (want:=false) hb11 ?_
         refine On (want:=false) hb11 ?_
         refine Pt (.b true) hb11 ?_
         refine Om (.b true) ?_
         refine Og ?_
         refine Og ?_
         refine Og ?_
         refine Og ?_
         refine Og ?_
         refine Og ?_
         refine zbN (v:=.b true) (e:=true) (by decide) rfl rfl rfl ?_
         refine Om (.b true) ?_
         refine Og ?_
         refine Og ?_
         refine Og ?_
         refine Og ?_
         refine Og ?_
         refine zbN (v:=.b true) (e:=true) (by decide) rfl rfl rfl ?_
         refine Ni ?_
         exact zai true (.k (.k (.k (.k (.k .nil))))) ⟨(hS.keep [] rfl).up (by omega),hM⟩
        ·replace hM:=ifF hM hb11
         refine Oy (want:=false) hb11 ?_
         refine Of ((WearRecord.cells x5)) zsx ?_
         refine Oy (want:=false) hb11 ?_
         refine Olp (.i x5.Price) zaf zal ?_
         refine Oy (want:=false) hb11 ?_
         obtain ⟨r12,hr12,hM⟩:=zaj hM
         refine zaO (bs:=[.i x5.Price,.i 0,.i 999]) (by decide) rfl rfl ((zby hr12).le (.k (.k (.k .nil)))) ?_
         refine Oy (want:=false) hb11 ?_
         refine zc5 (e:=r12) (by decide) rfl ?_
         refine Pf (.b (!r12)) hb11 ?_
         refine Om (.b (!r12)) ?_
         rcases bft (!r12) with hb13 | hb13
         ·replace hM:=ifT hM hb13
          refine On (want:=false) hb13 ?_
          refine On (want:=false) hb13 ?_
          refine On (want:=false) hb13 ?_
          refine On (want:=false) hb13 ?_
          refine On (want:=false) hb13 ?_
          refine On (want:=false) hb13 ?_
          refine Pt (.b true) hb13 ?_
          refine Om (.b true) ?_
          refine Og ?_
          refine Og ?_
          refine Og ?_
          refine Og ?_
          refine Og ?_
          refine zbN (v:=.b true) (e:=true) (by decide) rfl rfl rfl ?_
          refine Ni ?_
          exact zai true (.k (.k (.k (.k (.k .nil))))) ⟨(hS.keep [] rfl).up (by omega),hM⟩
         ·replace hM:=ifF hM hb13
          refine Oy (want:=false) hb13 ?_
          refine Of ((WearRecord.cells x5)) zkV ?_
          refine Oy (want:=false) hb13 ?_
          refine Olp (.sl .no 1 (x5.Plays.map cI)) zaI zaU ?_
          refine Oy (want:=false) hb13 ?_
          refine zb9 (n:=x5.Plays.length) (by decide) rfl (List.length_map _) zaQ ?_
          refine Oy (want:=false) hb13 ?_
          refine Of ((Wear.cells a0)) zkW ?_
          refine Oy (want:=false) hb13 ?_
          refine Olp (.i a0.Weeks) zaf zal ?_
          refine Oy (want:=false) hb13 ?_
          refine Oi (.b ((x5.Plays.length:Int) != a0.Weeks)) ?_
          refine Pf (.b ((x5.Plays.length:Int) != a0.Weeks)) hb13 ?_
          refine Om (.b ((x5.Plays.length:Int) != a0.Weeks)) ?_
          rcases bft ((x5.Plays.length:Int) != a0.Weeks) with hb14 | hb14
          ·replace hM:=ifT hM hb14
           refine On (want:=false) hb14 ?_
           refine On (want:=false) hb14 ?_
           refine On (want:=false) hb14 ?_
           refine On (want:=false) hb14 ?_
           refine On (want:=false) hb14 ?_
           refine Pt (.b true) hb14 ?_
           refine Ni ?_
           exact zai true (.k (.k (.k (.k (.k .nil))))) ⟨(hS.keep [] rfl).up (by omega),hM⟩
          ·replace hM:=ifF hM hb14
           refine Oy (want:=false) hb14 ?_
           refine Of ((WearRecord.cells x5)) zkV ?_
           refine Oy (want:=false) hb14 ?_
           refine Olp (.sl .no 1 (x5.Plays.map cI)) zaI zaU ?_
           refine Oy (want:=false) hb14 ?_
           refine Om (.fn (.func 19) [] []) ?_
           refine Oy (want:=false) hb14 ?_
           obtain ⟨r15,hr15,hM⟩:=zaj hM
           refine zaO (bs:=[.sl .no 1 (x5.Plays.map cI),.fn (.func 19) [] []]) (by decide) rfl rfl (zgc ((zjU (Lo:=(fun (_:Unit)=>[]))  (fun _ _=>zfS) (fun _=>List.nodup_nil) (fun _=>zeW) (aF:=(fun (x0:Int) (_:Unit)=>(zeG x0).map fun y=>(y,()))) (fun _ H hH=>(.fn _ _ _ zb2 zb2)) rfl (fun h=>zj4 (zld (zht h))) hr15).le (.k (.k .nil)))) ?_
           refine Oy (want:=false) hb14 ?_
           refine zc5 (e:=r15.1) (by decide) rfl ?_
           refine Pf (.b (!r15.1)) hb14 ?_
           refine Ni ?_
           exact zai (!r15.1) (.k (.k (.k (.k (.k .nil))))) ⟨(hS.keep [] rfl).up (by omega),hM⟩
     ·replace hM:=ifF hM hb4
      refine Cf hb4 ?_
      refine zb1 ?_
      refine zav ?_
      refine zau ?_
      refine zaD ?_
      exact zai () .nil ⟨(hS.keep [] rfl).up (by omega),hM⟩
   ·refine Sq ?_
    refine Rg 4 ?_
    refine Of ((Wear.cells a0)) zhA ?_
    refine Olp (.sl .no 1 (a0.Rough.map cI)) zaI zaU ?_
    refine zb9 (n:=a0.Rough.length) (by decide) rfl (List.length_map _) zaQ ?_
    refine Om (.i 0) ?_
    refine Ni ?_
    refine Ws ?_
    refine zaB ?_
    refine zco (V:=Int) (fun v=>[(1,.ep (Wear.cells a0)),(44,.sl .no 1 (a0.Rough.map cI)),(45,.i (a0.Rough.length:Int)),(46,.i v)]) (fun v m6 H' g'=>St (·<g) H0 [] H' g'/\zcU n a0 m6 v=some r) (n:=n) 0 (.k (.k (.k (.k .nil)))) ⟨(hS.keep [] rfl).up (by omega),hM⟩ ?_
    rintro v16 m6 H g6 ⟨hS,hM⟩
    obtain _ | m6:=m6
    ·exact nomatch (show none=some _ from hM)
    change wpA _ _ _ _ (Fr.of [(1,.ep (Wear.cells a0)),(44,.sl .no 1 (a0.Rough.map cI)),(45,.i (a0.Rough.length:Int)),(46,.i v16)]) _ _
    replace hS:St (·<g) H0 [] H g6:=hS
    replace hM:zeI n a0 (zcU n a0 m6) v16=some r:=hM
    refine Sq ?_
    refine Rg 1 ?_
    refine Oi (.b (decide (v16<(a0.Rough.length:Int)))) ?_
    refine Ni ?_
    refine Ws ?_
    refine Sq ?_
    rcases bft (decide (v16<(a0.Rough.length:Int))) with hb17 | hb17
    ·replace hM:=ifT hM hb17
     refine Ct hb17 ?_
     refine zay ?_
     refine Ws ?_
     refine Sq ?_
     refine zaB ?_
     refine Sq ?_
     refine Rg 5 ?_
     refine Om (.i v16) ?_
     obtain ⟨x18,hx18,hM⟩:=zaj hM
     refine za8 (xs:=a0.Rough) (f:=cI) (z:=v16) (u:=x18) (by decide) rfl rfl zaP hx18 ?_
     refine Olp (.i x18) zaf zal ?_
     refine Oa (.i v16) ?_
     refine Oa (.i x18) ?_
     refine Ni ?_
     refine Ws ?_
     refine zaY (J:=Bool) (fun j=>[(1,.ep (Wear.cells a0)),(44,.sl .no 1 (a0.Rough.map cI)),(45,.i (a0.Rough.length:Int)),(46,.i v16),(67,.b j)]) (fun j H' g'=>St (·<g) H0 [] H' g'/\zdm (zcU n a0 m6) v16 j=some r) ?_ ?_
     ·rintro v19 H g7 ⟨hS,hM⟩
      change wpA _ _ _ _ (Fr.of [(1,.ep (Wear.cells a0)),(44,.sl .no 1 (a0.Rough.map cI)),(45,.i (a0.Rough.length:Int)),(46,.i v16),(67,.b v19)]) _ _
      replace hS:St (·<g) H0 [] H g7:=hS
      replace hM:zdm (zcU n a0 m6) v16 v19=some r:=hM
      rcases bft v19 with hb20 | hb20
      ·replace hM:=ifT hM hb20
       refine Ct hb20 ?_
       refine Sq ?_
       refine Rg 1 ?_
       refine Oa (.i 30) ?_
       refine Ni ?_
       refine Ws ?_
       refine zaS ?_
       refine zaV ?_
       refine zao ?_
       refine zbA ?_
       refine zaV ?_
       refine zcn ?_
       refine zbe (x:=.i 30) (f:=fun r=>.i r) (.inr rfl) ?_ (.refl _) (Option.some.inj hM) hS
       exact (zaw (zae (x:=.i 30) rfl))
      ·replace hM:=ifF hM hb20
       refine Cf hb20 ?_
       refine zay ?_
       refine zas ?_
       refine Ws ?_
       refine Rg 2 ?_
       refine Oi (.i (w64 (v16+1))) ?_
       refine Om (.i (w64 (v16+1))) ?_
       refine Ni ?_
       exact zbo (w64 (v16+1)) (Nat.lt_succ_self _) (.k (.k (.k (.k .nil)))) ⟨(hS.keep [] rfl).up (by omega),hM⟩
     ·refine Rg 17 ?_
      refine Om (.i x18) ?_
      obtain ⟨r21,hr21,hM⟩:=zaj hM
      refine zaO (bs:=[.i x18,.i 0,.i 99]) (by decide) rfl rfl ((zby hr21).le (.k (.k (.k .nil)))) ?_
      refine zc5 (e:=r21) (by decide) rfl ?_
      refine Om (.b (!r21)) ?_
      rcases bft (!r21) with hb22 | hb22
      ·replace hM:=ifT hM hb22
       refine On (want:=false) hb22 ?_
       refine On (want:=false) hb22 ?_
       refine On (want:=false) hb22 ?_
       refine zam (j:=6) (by decide) rfl ?_
       refine zam (j:=6) (by decide) rfl ?_
       refine zam (j:=6) (by decide) rfl ?_
       refine zam (j:=6) (by decide) rfl ?_
       refine zam (j:=6) (by decide) rfl ?_
       refine zam (j:=6) (by decide) rfl ?_
       refine zam (j:=6) (by decide) rfl ?_
       refine zam (j:=6) (by decide) rfl ?_
       refine On (want:=false) hb22 ?_
       refine Pt (.b true) hb22 ?_
       refine Ni ?_
       exact zai true (.k (.k (.k (.k (.k .nil))))) ⟨(hS.keep [] rfl).up (by omega),hM⟩
      ·replace hM:=ifF hM hb22
       refine Oy (want:=false) hb22 ?_
       refine Om (.i v16) ?_
       refine Oy (want:=false) hb22 ?_
       refine Oi (.b (decide (v16>0))) ?_
       refine Oy (want:=false) hb22 ?_
       refine Om (.b (decide (v16>0))) ?_
       rcases bft (decide (v16>0)) with hb23 | hb23
       ·replace hM:=ifT hM hb23
        refine Oy (want:=true) hb23 ?_
        refine Om (.i x18) ?_
        refine Oy (want:=true) hb23 ?_
        refine Of ((Wear.cells a0)) zhA ?_
        refine Oy (want:=true) hb23 ?_
        refine Olp (.sl .no 1 (a0.Rough.map cI)) zaI zaU ?_
        refine Oy (want:=true) hb23 ?_
        refine Om (.i v16) ?_
        refine Oy (want:=true) hb23 ?_
        refine Oi (.i (w64 (v16-1))) ?_
        refine Oy (want:=true) hb23 ?_
        obtain ⟨x24,hx24,hM⟩:=zaj hM
        refine za8 (xs:=a0.Rough) (f:=cI) (z:=(w64 (v16-1))) (u:=x24) (by decide) rfl rfl zaP hx24 ?_
        refine Oy (want:=true) hb23 ?_
        refine Olp (.i x24) zaf zal ?_
        refine Oy (want:=true) hb23 ?_
        refine Oi (.b (decide (x18<x24))) ?_
        refine Oy (want:=false) hb22 ?_
        refine Pt (.b (decide (x18<x24))) hb23 ?_
        refine Pf (.b (decide (x18<x24))) hb22 ?_
        refine Ni ?_
        exact zai (decide (x18<x24)) (.k (.k (.k (.k (.k .nil))))) ⟨(hS.keep [] rfl).up (by omega),hM⟩
       ·replace hM:=ifF hM hb23
        refine On (want:=true) hb23 ?_
        refine On (want:=true) hb23 ?_
        refine On (want:=true) hb23 ?_
        refine On (want:=true) hb23 ?_
        refine On (want:=true) hb23 ?_
        refine On (want:=true) hb23 ?_
        refine On (want:=true) hb23 ?_
        refine On (want:=true) hb23 ?_
        refine Oy (want:=false) hb22 ?_
        refine Pf (.b false) hb23 ?_
        refine Pf (.b false) hb22 ?_
        refine Ni ?_
        exact zai false (.k (.k (.k (.k (.k .nil))))) ⟨(hS.keep [] rfl).up (by omega),hM⟩
    ·replace hM:=ifF hM hb17
     refine Cf hb17 ?_
     refine zb1 ?_
     refine zav ?_
     refine zau ?_
     refine zaD ?_
     exact zai () (.k .nil) ⟨(hS.keep [] rfl).up (by omega),hM⟩
 ·refine Rg 35 ?_
  refine Of ((Wear.cells a0)) zkW ?_
  refine Olp (.i a0.Weeks) zaf zal ?_
  obtain ⟨r25,hr25,hM⟩:=zaj hM
  refine zaO (bs:=[.i a0.Weeks,.i 0,.i 6]) (by decide) rfl rfl ((zby hr25).le (.k (.k (.k .nil)))) ?_
  refine zc5 (e:=r25) (by decide) rfl ?_
  refine Om (.b (!r25)) ?_
  rcases bft (!r25) with hb26 | hb26
  ·replace hM:=ifT hM hb26
   refine On (want:=false) hb26 ?_
   refine On (want:=false) hb26 ?_
   refine On (want:=false) hb26 ?_
   refine On (want:=false) hb26 ?_
   refine Pt (.b true) hb26 ?_
   refine Om (.b true) ?_
   refine Og ?_
   refine Og ?_
   refine Og ?_
   refine Og ?_
   refine zbN (v:=.b true) (e:=true) (by decide) rfl rfl rfl ?_
   refine Om (.b true) ?_
   refine Og ?_
   refine Og ?_
   refine Og ?_
   refine Og ?_
   refine zbN (v:=.b true) (e:=true) (by decide) rfl rfl rfl ?_
   refine Om (.b true) ?_
   refine Og ?_
   refine Og ?_
   refine Og ?_
   refine Og ?_
   refine Og ?_
   refine zbN (v:=.b true) (e:=true) (by decide) rfl rfl rfl ?_
   refine Om (.b true) ?_
   refine Og ?_
   refine Og ?_
   refine Og ?_
   refine Og ?_
   refine zbN (v:=.b true) (e:=true) (by decide) rfl rfl rfl ?_
   refine Ni ?_
   exact zai true (.k (.k .nil)) ⟨(hS.keep [] rfl).up (by omega),hM⟩
  ·replace hM:=ifF hM hb26
   refine Oy (want:=false) hb26 ?_
   refine Of ((Wear.cells a0)) znL ?_
   refine Oy (want:=false) hb26 ?_
   refine Olp (.i a0.Age) zaf zal ?_
   refine Oy (want:=false) hb26 ?_
   obtain ⟨r27,hr27,hM⟩:=zaj hM
   refine zaO (bs:=[.i a0.Age,.i 0,.i 9999]) (by decide) rfl rfl ((zby hr27).le (.k (.k (.k .nil)))) ?_
   refine Oy (want:=false) hb26 ?_
   refine zc5 (e:=r27) (by decide) rfl ?_
   refine Pf (.b (!r27)) hb26 ?_
   refine Om (.b (!r27)) ?_
   rcases bft (!r27) with hb28 | hb28
   ·replace hM:=ifT hM hb28
    refine On (want:=false) hb28 ?_
    refine On (want:=false) hb28 ?_
    refine On (want:=false) hb28 ?_
    refine On (want:=false) hb28 ?_
    refine Pt (.b true) hb28 ?_
    refine Om (.b true) ?_
    refine Og ?_
    refine Og ?_
    refine Og ?_
    refine Og ?_
    refine zbN (v:=.b true) (e:=true) (by decide) rfl rfl rfl ?_
    refine Om (.b true) ?_
    refine Og ?_
    refine Og ?_
    refine Og ?_
    refine Og ?_
    refine Og ?_
    refine zbN (v:=.b true) (e:=true) (by decide) rfl rfl rfl ?_
    refine Om (.b true) ?_
    refine Og ?_
    refine Og ?_
    refine Og ?_
    refine Og ?_
    refine zbN (v:=.b true) (e:=true) (by decide) rfl rfl rfl ?_
    refine Ni ?_
    exact zai true (.k (.k .nil)) ⟨(hS.keep [] rfl).up (by omega),hM⟩
   ·replace hM:=ifF hM hb28
    refine Oy (want:=false) hb28 ?_
    refine Of ((Wear.cells a0)) znM ?_
    refine Oy (want:=false) hb28 ?_
    refine Olp (.i a0.Step) zaf zal ?_
    refine Oy (want:=false) hb28 ?_
    obtain ⟨r29,hr29,hM⟩:=zaj hM
    refine zaO (bs:=[.i a0.Step,.i 1,.i 999]) (by decide) rfl rfl ((zby hr29).le (.k (.k (.k .nil)))) ?_
    refine Oy (want:=false) hb28 ?_
    refine zc5 (e:=r29) (by decide) rfl ?_
    refine Pf (.b (!r29)) hb28 ?_
    refine Om (.b (!r29)) ?_
    rcases bft (!r29) with hb30 | hb30
    ·replace hM:=ifT hM hb30
     refine On (want:=false) hb30 ?_
     refine On (want:=false) hb30 ?_
     refine On (want:=false) hb30 ?_
     refine On (want:=false) hb30 ?_
     refine Pt (.b true) hb30 ?_
     refine Om (.b true) ?_
     refine Og ?_
     refine Og ?_
     refine Og ?_
     refine Og ?_
     refine Og ?_
     refine zbN (v:=.b true) (e:=true) (by decide) rfl rfl rfl ?_
     refine Om (.b true) ?_
     refine Og ?_
     refine Og ?_
     refine Og ?_
     refine Og ?_
     refine zbN (v:=.b true) (e:=true) (by decide) rfl rfl rfl ?_
     refine Ni ?_
     exact zai true (.k (.k .nil)) ⟨(hS.keep [] rfl).up (by omega),hM⟩
    ·replace hM:=ifF hM hb30
     refine Oy (want:=false) hb30 ?_
     refine Of ((Wear.cells a0)) znK ?_
     refine Oy (want:=false) hb30 ?_
     refine Olp (.i a0.Price) zaf zal ?_
     refine Oy (want:=false) hb30 ?_
     obtain ⟨r31,hr31,hM⟩:=zaj hM
     refine zaO (bs:=[.i a0.Price,.i 0,.i 999]) (by decide) rfl rfl ((zby hr31).le (.k (.k (.k .nil)))) ?_
     refine Oy (want:=false) hb30 ?_
     refine zc5 (e:=r31) (by decide) rfl ?_
     refine Pf (.b (!r31)) hb30 ?_
     refine Om (.b (!r31)) ?_
     rcases bft (!r31) with hb32 | hb32
     ·replace hM:=ifT hM hb32
      refine On (want:=false) hb32 ?_
      refine On (want:=false) hb32 ?_
      refine On (want:=false) hb32 ?_
      refine On (want:=false) hb32 ?_
      refine On (want:=false) hb32 ?_
      refine Pt (.b true) hb32 ?_
      refine Om (.b true) ?_
      refine Og ?_
      refine Og ?_
      refine Og ?_
      refine Og ?_
      refine zbN (v:=.b true) (e:=true) (by decide) rfl rfl rfl ?_
      refine Ni ?_
      exact zai true (.k (.k .nil)) ⟨(hS.keep [] rfl).up (by omega),hM⟩
     ·replace hM:=ifF hM hb32
      refine Oy (want:=false) hb32 ?_
      refine Of ((Wear.cells a0)) zhA ?_
      refine Oy (want:=false) hb32 ?_
      refine Olp (.sl .no 1 (a0.Rough.map cI)) zaI zaU ?_
      refine Oy (want:=false) hb32 ?_
      refine zb9 (n:=a0.Rough.length) (by decide) rfl (List.length_map _) zaQ ?_
      refine Oy (want:=false) hb32 ?_
      obtain ⟨r33,hr33,hM⟩:=zaj hM
      refine zaO (bs:=[.i (a0.Rough.length:Int),.i 1,.i 8]) (by decide) rfl rfl ((zby hr33).le (.k (.k (.k .nil)))) ?_
      refine Oy (want:=false) hb32 ?_
      refine zc5 (e:=r33) (by decide) rfl ?_
      refine Pf (.b (!r33)) hb32 ?_
      refine Om (.b (!r33)) ?_
      rcases bft (!r33) with hb34 | hb34
      ·replace hM:=ifT hM hb34
       refine On (want:=false) hb34 ?_
       refine On (want:=false) hb34 ?_
       refine On (want:=false) hb34 ?_
       refine On (want:=false) hb34 ?_
       refine Pt (.b true) hb34 ?_
       refine Ni ?_
       exact zai true (.k (.k .nil)) ⟨(hS.keep [] rfl).up (by omega),hM⟩
      ·replace hM:=ifF hM hb34
       refine Oy (want:=false) hb34 ?_
       refine Of ((Wear.cells a0)) zhB ?_
       refine Oy (want:=false) hb34 ?_
       refine Olp (.sl .no 4 (a0.Records.map WearRecord.cells)) ziQ zkP ?_
       refine Oy (want:=false) hb34 ?_
       refine zb9 (n:=a0.Records.length) (by decide) rfl (List.length_map _) ziR ?_
       refine Oy (want:=false) hb34 ?_
       refine Oi (.b (decide ((a0.Records.length:Int)>4))) ?_
       refine Pf (.b (decide ((a0.Records.length:Int)>4))) hb34 ?_
       refine Ni ?_
       exact zai (decide ((a0.Records.length:Int)>4)) (.k (.k .nil)) ⟨(hS.keep [] rfl).up (by omega),hM⟩
theorem zfr {S:Type} {Lo:S->BL} (hk:∀s s',zg7 (Lo s) (Lo s')) (hnd:∀s,(ids (Lo s)).Nodup) (hin:∀s,InB In (Lo s)) {aF:WearWeek->S->Option (Bool×S)} {f0:AV} (hF:∀s H,Has H (Lo s)->In H f0) (h0:cellsOf f0=some [f0]) (hf:∀{x0:WearWeek} {s:S} {r:Bool×S},aF x0 s=some r->zlo Try.prog f0 [.agg (WearWeek.cells x0)] (Lo s) (.b r.1) (Lo r.2)) {n:Nat} {a0:List WearWeek} {st:S} {r:Int×S} (hM:zcx n aF a0 st=some r):zhc Try.prog 50 [.sl .no 2 (a0.map WearWeek.cells),f0] (Lo st) (.i r.1) (Lo r.2):=by
 have hnd0:∀s,(ids (Lo s)).Nodup:=fun s=>hnd s
 refine zbE mixed Try.func50 rfl (by decide) Try.ntmps50 (by simp) (hk _ _) (hnd st) ?pure ?cells fun H0 g hf_ hp=>?_
 case pure=>exact fun H _=>(show Go.AM.Pure _ from .v _).inH
 case cells=>exact hin _
 rw [zah]
 change wpA _ _ _ _ (Fr.of [(0,.sl .no 2 (a0.map WearWeek.cells)),(1,f0)]) H0 g
 have hS:=St.startH (L:=([]++Lo st)) hf_ (hnd st) hp
 replace hS:St (fun i=>i<g/\i∉ids (Lo st)) H0 ([]++Lo st) H0 g:=hS
 refine Sq ?_
 refine Rg 1 ?_
 refine Oa (.i 0) ?_
 refine Ni ?_
 refine Ws ?_
 refine zaY (J:=S) (fun j=>[]) (fun j H' g'=>St (fun i=>i<g/\i∉ids (Lo st)) H0 ([]++Lo j) H' g'/\zbn j=some r) ?_ ?_
 ·rintro v1 H g1 ⟨hS,hM⟩
  change wpA _ _ _ _ (Fr.of []) _ _
  replace hS:St (fun i=>i<g/\i∉ids (Lo st)) H0 ([]++Lo v1) H g1:=hS
  replace hM:zbn v1=some r:=hM
  refine Sq ?_
  refine Rg 1 ?_
  refine Oa (.i (-1)) ?_
  refine Ni ?_
  refine Ws ?_
  refine zaS ?_
  refine zdf (x:=.i (-1)) (f:=fun r=>.i r.1) (fd:=fun r=>(Lo r.2)) (.inr rfl) ?_ (.refl _) (Option.some.inj hM) hS 0 rfl
  exact (zaw (zae (x:=.i (-1)) rfl))
 ·refine Sq ?_
  refine Rg 3 ?_
  refine Om (.sl .no 2 (a0.map WearWeek.cells)) ?_
  refine zb9 (n:=a0.length) (by decide) rfl (List.length_map _) zmJ ?_
  refine Om (.i 0) ?_
  refine Ni ?_
  refine Ws ?_
  refine zaB ?_
  refine zco (V:=Int×S) (fun v=>[(0,.sl .no 2 (a0.map WearWeek.cells)),(1,f0),(7,.i (a0.length:Int)),(8,.i v.1)]) (fun v m3 H' g'=>St (fun i=>i<g/\i∉ids (Lo st)) H0 ([]++Lo v.2) H' g'/\za5 a0 aF m3 v.1 v.2=some r) (n:=n) (0,st) (.k (.k (.k (.k .nil)))) ⟨(hS.keep [] rfl).up (by omega),hM⟩ ?_
  rintro ⟨v3,v4⟩ m3 H g3 ⟨hS,hM⟩
  obtain _ | m3:=m3
  ·exact nomatch (show none=some _ from hM)
  change wpA _ _ _ _ (Fr.of [(0,.sl .no 2 (a0.map WearWeek.cells)),(1,f0),(7,.i (a0.length:Int)),(8,.i v3)]) _ _
  replace hS:St (fun i=>i<g/\i∉ids (Lo st)) H0 ([]++Lo v4) H g3:=hS
  replace hM:zbU a0 aF (za5 a0 aF m3) v3 v4=some r:=hM
  refine Sq ?_
  refine Rg 1 ?_
  refine Oi (.b (decide (v3<(a0.length:Int)))) ?_
  refine Ni ?_
  refine Ws ?_
  refine Sq ?_
  rcases bft (decide (v3<(a0.length:Int))) with hb5 | hb5
  ·replace hM:=ifT hM hb5
   refine Ct hb5 ?_
   refine zay ?_
   refine Ws ?_
   refine Sq ?_
   refine zaB ?_
   refine Sq ?_
   refine Rg 2 ?_
   refine Om (.i v3) ?_
   refine Oa (.i v3) ?_
   refine Ni ?_
   refine Ws ?_
   refine Sq ?_
   refine Rg 6 ?_
   refine Om (f0) ?_
   refine Om (.sl .no 2 (a0.map WearWeek.cells)) ?_
   refine Om (.i v3) ?_
   obtain ⟨x6,hx6,hM⟩:=zaj hM
   refine za8 (xs:=a0) (f:=WearWeek.cells) (z:=v3) (u:=x6) (by decide) rfl rfl zmK hx6 ?_
   refine Olg (.agg (WearWeek.cells x6)) zmI ?_
   obtain ⟨r7,hr7,hM⟩:=zaj hM
   replace hS:St (fun i=>i<g/\i∉ids (Lo st)) H0 ([]++Lo v4) _ _:=hS
   refine zgW (bs:=[.agg (WearWeek.cells x6)]) (.inl rfl) hS (by decide) rfl rfl ((hf hr7).le (.k .nil)) (hk _ _).ids (by omega) fun H hS=>?_
   refine Ni ?_
   refine Ws ?_
   rcases bft r7.1 with hb8 | hb8
   ·replace hM:=ifT hM hb8
    refine Ct hb8 ?_
    refine Sq ?_
    refine Rg 2 ?_
    refine Om (.i v3) ?_
    refine Oa (.i v3) ?_
    refine Ni ?_
    refine Ws ?_
    refine zaS ?_
    refine zaV ?_
    refine zao ?_
    refine zbA ?_
    refine zaV ?_
    refine zcn ?_
    refine zdf (x:=.i v3) (f:=fun r=>.i r.1) (fd:=fun r=>(Lo r.2)) (.inr rfl) ?_ (.refl _) (Option.some.inj hM) hS 0 rfl
    exact (zaw (zae (x:=.i v3) rfl))
   ·replace hM:=ifF hM hb8
    refine Cf hb8 ?_
    refine zay ?_
    refine zas ?_
    refine Ws ?_
    refine Rg 2 ?_
    refine Oi (.i (w64 (v3+1))) ?_
    refine Om (.i (w64 (v3+1))) ?_
    refine Ni ?_
    exact zbo (w64 (v3+1),r7.2) (Nat.lt_succ_self _) (.k (.k (.k (.k .nil)))) ⟨(hS.keep [] rfl).up (by omega),hM⟩
  ·replace hM:=ifF hM hb5
   refine Cf hb5 ?_
   refine zb1 ?_
   refine zav ?_
   refine zau ?_
   refine zaD ?_
   exact zai v4 .nil ⟨(hS.keep [] rfl).up (by omega),hM⟩
theorem zeM {S:Type} {Lo:S->BL} (hk:∀s s',zg7 (Lo s) (Lo s')) (hnd:∀s,(ids (Lo s)).Nodup) (hin:∀s,InB In (Lo s)) {aF:WearWeek->S->Option (Bool×S)} {f0:AV} (hF:∀s H,Has H (Lo s)->In H f0) (h0:cellsOf f0=some [f0]) (hf:∀{x0:WearWeek} {s:S} {r:Bool×S},aF x0 s=some r->zlo Try.prog f0 [.agg (WearWeek.cells x0)] (Lo s) (.b r.1) (Lo r.2)) {n:Nat} {a0:List WearWeek} {st:S} {r:Bool×S} (hM:zcf n aF a0 st=some r):zhc Try.prog 41 [.sl .no 2 (a0.map WearWeek.cells),f0] (Lo st) (.b r.1) (Lo r.2):=by
 have hnd0:∀s,(ids (Lo s)).Nodup:=fun s=>hnd s
 refine zbE mixed Try.func41 rfl (by decide) Try.ntmps41 (by simp) (hk _ _) (hnd st) ?pure ?cells fun H0 g hf_ hp=>?_
 case pure=>exact fun H _=>(show Go.AM.Pure _ from .v _).inH
 case cells=>exact hin _
 rw [zah]
 change wpA _ _ _ _ (Fr.of [(0,.sl .no 2 (a0.map WearWeek.cells)),(1,f0)]) H0 g
 have hS:=St.startH (L:=([]++Lo st)) hf_ (hnd st) hp
 replace hS:St (fun i=>i<g/\i∉ids (Lo st)) H0 ([]++Lo st) H0 g:=hS
 refine Sq ?_
 refine Rg 1 ?_
 refine Oa (.b false) ?_
 refine Ni ?_
 refine Ws ?_
 refine Sq ?_
 refine Rg 5 ?_
 refine Om (.sl .no 2 (a0.map WearWeek.cells)) ?_
 refine Om (f0) ?_
 obtain ⟨r1,hr1,hM⟩:=zaj hM
 replace hS:St (fun i=>i<g/\i∉ids (Lo st)) H0 ([]++Lo st) _ _:=hS
 refine ziE (bs:=[.sl .no 2 (a0.map WearWeek.cells),f0]) (.inl rfl) hS (by decide) rfl rfl ((zfr (Lo:=Lo)  hk hnd0 hin (aF:=aF) hF h0 hf hr1).le (.k (.k .nil))) (hk _ _).ids (by omega) fun H hS=>?_
 refine Oi (.b (decide (r1.1≥0))) ?_
 refine Oa (.b (decide (r1.1≥0))) ?_
 refine Ni ?_
 refine Ws ?_
 refine zaS ?_
 refine zdf (x:=.b (decide (r1.1≥0))) (f:=fun r=>.b r.1) (fd:=fun r=>(Lo r.2)) (.inr rfl) ?_ (.refl _) (Option.some.inj hM) hS 0 rfl
 exact (zaw (zae (x:=.b (decide (r1.1≥0))) rfl))
theorem zf2 {S:Type} {Lo:S->BL} (hk:∀s s',zg7 (Lo s) (Lo s')) (hnd:∀s,(ids (Lo s)).Nodup) (hin:∀s,InB In (Lo s)) {aF:WearWeek->S->Option (Bool×S)} {f0:AV} (hF:∀s H,Has H (Lo s)->In H f0) (h0:cellsOf f0=some [f0]) (hf:∀{x0:WearWeek} {s:S} {r:Bool×S},aF x0 s=some r->zlo Try.prog f0 [.agg (WearWeek.cells x0)] (Lo s) (.b r.1) (Lo r.2)) {a0:WearWeek} {st:S} {r:Bool×S} (hM:zch aF a0 st=some r):zhc Try.prog 42 [.agg (WearWeek.cells a0),.ep [f0]] (Lo st) (.b r.1) (Lo r.2):=by
 have hnd0:∀s,(ids (Lo s)).Nodup:=fun s=>hnd s
 refine zbE mixed Try.func42 rfl (by decide) Try.ntmps42 (by simp) (hk _ _) (hnd st) ?pure ?cells fun H0 g hf_ hp=>?_
 case pure=>exact fun H _=>(show Go.AM.Pure _ from .v _).inH
 case cells=>exact hin _
 rw [zah]
 change wpA _ _ _ _ (Fr.of [(0,.agg (WearWeek.cells a0)),(1,.ep [f0])]) H0 g
 have hS:=St.startH (L:=([]++Lo st)) hf_ (hnd st) hp
 replace hS:St (fun i=>i<g/\i∉ids (Lo st)) H0 ([]++Lo st) H0 g:=hS
 refine Sq ?_
 refine Rg 2 ?_
 refine zcg (v:=.agg (WearWeek.cells a0)) (cs:=(WearWeek.cells a0)) hS (by decide) rfl rfl (by omega) fun H hS=>?_
 refine Oa (.b false) ?_
 refine Ni ?_
 refine zaW (L':=([]++Lo st)) 0 2 hS rfl rfl rfl fun H hS=>?_
 refine Ws ?_
 refine Sq ?_
 refine Rg 5 ?_
 refine Olp (f0) zt3 zvr ?_
 refine Olg (.agg (WearWeek.cells a0)) zmI ?_
 obtain ⟨r1,hr1,hM⟩:=zaj hM
 replace hS:St (fun i=>i<g/\i∉ids (Lo st)) H0 ([]++Lo st) _ _:=hS
 refine zgW (bs:=[.agg (WearWeek.cells a0)]) (.inl rfl) hS (by decide) rfl rfl ((hf hr1).le (.k .nil)) (hk _ _).ids (by omega) fun H hS=>?_
 refine zc5 (e:=r1.1) (by decide) rfl ?_
 refine Oa (.b (!r1.1)) ?_
 refine Ni ?_
 refine Ws ?_
 refine zaS ?_
 refine zdf (x:=.b (!r1.1)) (f:=fun r=>.b r.1) (fd:=fun r=>(Lo r.2)) (.inr rfl) ?_ (.refl _) (Option.some.inj hM) hS 0 rfl
 exact (zaw (zae (x:=.b (!r1.1)) rfl))
theorem zgI {S:Type} {Lo:S->BL} (hk:∀s s',zg7 (Lo s) (Lo s')) (hnd:∀s,(ids (Lo s)).Nodup) (hin:∀s,InB In (Lo s)) {aF:WearWeek->S->Option (Bool×S)} {f0:AV} (hF:∀s H,Has H (Lo s)->In H f0) (h0:cellsOf f0=some [f0]) (hf:∀{x0:WearWeek} {s:S} {r:Bool×S},aF x0 s=some r->zlo Try.prog f0 [.agg (WearWeek.cells x0)] (Lo s) (.b r.1) (Lo r.2)) {n:Nat} {a0:List WearWeek} {st:S} {r:Bool×S} (hM:zcI n aF a0 st=some r):zhc Try.prog 32 [.sl .no 2 (a0.map WearWeek.cells),f0] (Lo st) (.b r.1) (Lo r.2):=by
 have hnd0:∀s,(ids (Lo s)).Nodup:=fun s=>hnd s
 refine zbE mixed Try.func32 rfl (by decide) Try.ntmps32 (by simp) (hk _ _) (hnd st) ?pure ?cells fun H0 g hf_ hp=>?_
 case pure=>exact fun H _=>(show Go.AM.Pure _ from .v _).inH
 case cells=>exact hin _
 rw [zah]
 change wpA _ _ _ _ (Fr.of [(0,.sl .no 2 (a0.map WearWeek.cells)),(1,f0)]) H0 g
 have hS:=St.startH (L:=([]++Lo st)) hf_ (hnd st) hp
 replace hS:St (fun i=>i<g/\i∉ids (Lo st)) H0 ([]++Lo st) H0 g:=hS
 refine Sq ?_
 refine Rg 2 ?_
 refine zcg (v:=f0) (cs:=[f0]) hS (by decide) rfl h0 (by omega) fun H hS=>?_
 refine Oa (.b false) ?_
 refine Ni ?_
 refine zaW (L':=([]++Lo st)) 0 3 hS rfl rfl rfl fun H hS=>?_
 refine Ws ?_
 refine Sq ?_
 refine Rg 5 ?_
 refine Om (.sl .no 2 (a0.map WearWeek.cells)) ?_
 refine zcL (first:=[]) (cap:=[.ep [f0]]) (by decide) rfl rfl ?_
 obtain ⟨r1,hr1,hM⟩:=zaj hM
 replace hS:St (fun i=>i<g/\i∉ids (Lo st)) H0 ([]++Lo st) _ _:=hS
 refine ziE (bs:=[.sl .no 2 (a0.map WearWeek.cells),.fn (.func 42) [] [.ep [f0]]]) (.inl rfl) hS (by decide) rfl rfl ((zeM (Lo:=Lo)  hk hnd0 hin (aF:=(zch aF)) (fun s H hH=>(.fn _ _ _ zb2 (za0 (.ep _ (za0 (hF _ H hH) zb2)) zb2))) rfl (fun h=>zif (zf2 (Lo:=Lo)  hk hnd0 hin hF h0 hf h)) hr1).le (.k (.k .nil))) (hk _ _).ids (by omega) fun H hS=>?_
 refine zc5 (e:=r1.1) (by decide) rfl ?_
 refine Oa (.b (!r1.1)) ?_
 refine Ni ?_
 refine zg8 [(4,.b (!r1.1))] (.k .nil) ?_
 refine zaS ?_
 refine zdf (x:=.b (!r1.1)) (f:=fun r=>.b r.1) (fd:=fun r=>(Lo r.2)) (.inr rfl) ?_ (.refl _) (Option.some.inj hM) hS 0 rfl
 exact (zaw (zae (x:=.b (!r1.1)) rfl))
theorem zjs {n:Nat} {a0:BoxW_} {a1:WearWeek} {r:Bool} (hM:zc8 n a0 a1=some r):zaR Try.prog 33 [.agg (Wear.cells a0.Wear),.agg (WearWeek.cells a1)] (.b r):=by
 refine zaz mixed Try.func33 rfl (by decide) Try.ntmps33 (by simp) ?pure fun H0 g hf=>?_
 case pure=>exact .v _
 rw [zah]
 change wpA _ _ _ _ (Fr.of [(0,.agg (Wear.cells a0.Wear)),(1,.agg (WearWeek.cells a1))]) H0 g
 have hS:=St.start hf
 refine Sq ?_
 refine Rg 3 ?_
 refine zcg (v:=.agg (Wear.cells a0.Wear)) (cs:=(Wear.cells a0.Wear)) hS (by decide) rfl rfl (by omega) fun H hS=>?_
 refine zcg (v:=.agg (WearWeek.cells a1)) (cs:=(WearWeek.cells a1)) hS (by decide) rfl rfl (by omega) fun H hS=>?_
 refine Oa (.b false) ?_
 refine Ni ?_
 refine zaW (L':=[(g+1,.cells (WearWeek.cells a1))]) 1 2 hS rfl rfl rfl fun H hS=>?_
 refine zaW (L':=[]) 0 3 hS rfl rfl rfl fun H hS=>?_
 refine Ws ?_
 refine zaY (J:=Unit) (fun j=>[(3,.ep (WearWeek.cells a1))]) (fun j H' g'=>St (·<g) H0 [] H' g'/\zdJ a1=some r) ?_ ?_
 ·rintro _ H g1 ⟨hS,hM⟩
  change wpA _ _ _ _ (Fr.of [(3,.ep (WearWeek.cells a1))]) _ _
  replace hS:St (·<g) H0 [] H g1:=hS
  replace hM:zdJ a1=some r:=hM
  refine Sq ?_
  refine Rg 4 ?_
  refine Of ((WearWeek.cells a1)) znN ?_
  refine Olp (.i a1.Needle) zaf zal ?_
  obtain ⟨r1,hr1,hM⟩:=zaj hM
  refine zaO (bs:=[.i a1.Needle,.i 0,.i 1]) (by decide) rfl rfl ((zby hr1).le (.k (.k (.k .nil)))) ?_
  refine Oa (.b r1) ?_
  refine Ni ?_
  refine Ws ?_
  refine zaS ?_
  refine zbe (x:=.b r1) (f:=fun r=>.b r) (.inr rfl) ?_ (.refl _) (Option.some.inj hM) hS
  exact (zaw (zae (x:=.b r1) rfl))
 ·refine Sq ?_
  refine Rg 4 ?_
  refine Of ((WearWeek.cells a1)) zkX ?_
  refine Olp (.sl .no 1 (a1.Records.map cI)) zaI zaU ?_
  refine zb9 (n:=a1.Records.length) (by decide) rfl (List.length_map _) zaQ ?_
  refine Om (.i 0) ?_
  refine Ni ?_
  refine Ws ?_
  refine zaB ?_
  refine zco (V:=Int) (fun v=>[(2,.ep (Wear.cells a0.Wear)),(3,.ep (WearWeek.cells a1)),(8,.sl .no 1 (a1.Records.map cI)),(9,.i (a1.Records.length:Int)),(10,.i v)]) (fun v m2 H' g'=>St (·<g) H0 [] H' g'/\zbV a0 a1 m2 v=some r) (n:=n) 0 (.k (.k (.k (.k (.k .nil))))) ⟨(hS.keep [] rfl).up (by omega),hM⟩ ?_
  rintro v2 m2 H g2 ⟨hS,hM⟩
  obtain _ | m2:=m2
  ·exact nomatch (show none=some _ from hM)
  change wpA _ _ _ _ (Fr.of [(2,.ep (Wear.cells a0.Wear)),(3,.ep (WearWeek.cells a1)),(8,.sl .no 1 (a1.Records.map cI)),(9,.i (a1.Records.length:Int)),(10,.i v2)]) _ _
  replace hS:St (·<g) H0 [] H g2:=hS
  replace hM:zd9 a0 a1 (zbV a0 a1 m2) v2=some r:=hM
  refine Sq ?_
  refine Rg 1 ?_
  refine Oi (.b (decide (v2<(a1.Records.length:Int)))) ?_
  refine Ni ?_
  refine Ws ?_
  refine Sq ?_
  rcases bft (decide (v2<(a1.Records.length:Int))) with hb3 | hb3
  ·replace hM:=ifT hM hb3
   refine Ct hb3 ?_
   refine zay ?_
   refine Ws ?_
   refine Sq ?_
   refine zaB ?_
   refine Sq ?_
   refine Rg 5 ?_
   refine Om (.i v2) ?_
   obtain ⟨x4,hx4,hM⟩:=zaj hM
   refine za8 (xs:=a1.Records) (f:=cI) (z:=v2) (u:=x4) (by decide) rfl rfl zaP hx4 ?_
   refine Olp (.i x4) zaf zal ?_
   refine Oa (.i v2) ?_
   refine Oa (.i x4) ?_
   refine Ni ?_
   refine Ws ?_
   refine zaY (J:=Bool) (fun j=>[(2,.ep (Wear.cells a0.Wear)),(3,.ep (WearWeek.cells a1)),(8,.sl .no 1 (a1.Records.map cI)),(9,.i (a1.Records.length:Int)),(10,.i v2),(36,.b j)]) (fun j H' g'=>St (·<g) H0 [] H' g'/\zcV (zbV a0 a1 m2) v2 j=some r) ?_ ?_
   ·rintro v5 H g3 ⟨hS,hM⟩
    change wpA _ _ _ _ (Fr.of [(2,.ep (Wear.cells a0.Wear)),(3,.ep (WearWeek.cells a1)),(8,.sl .no 1 (a1.Records.map cI)),(9,.i (a1.Records.length:Int)),(10,.i v2),(36,.b v5)]) _ _
    replace hS:St (·<g) H0 [] H g3:=hS
    replace hM:zcV (zbV a0 a1 m2) v2 v5=some r:=hM
    rcases bft v5 with hb6 | hb6
    ·replace hM:=ifT hM hb6
     refine Ct hb6 ?_
     refine Sq ?_
     refine Rg 1 ?_
     refine Oa (.b false) ?_
     refine Ni ?_
     refine Ws ?_
     refine zaS ?_
     refine zaV ?_
     refine zao ?_
     refine zbA ?_
     refine zaV ?_
     refine zcn ?_
     refine zbe (x:=.b false) (f:=fun r=>.b r) (.inr rfl) ?_ (.refl _) (Option.some.inj hM) hS
     exact (zaw (zae (x:=.b false) rfl))
    ·replace hM:=ifF hM hb6
     refine Cf hb6 ?_
     refine zay ?_
     refine zas ?_
     refine Ws ?_
     refine Rg 2 ?_
     refine Oi (.i (w64 (v2+1))) ?_
     refine Om (.i (w64 (v2+1))) ?_
     refine Ni ?_
     exact zbo (w64 (v2+1)) (Nat.lt_succ_self _) (.k (.k (.k (.k (.k .nil))))) ⟨(hS.keep [] rfl).up (by omega),hM⟩
   ·refine Rg 22 ?_
    refine Om (.i x4) ?_
    refine Of ((Wear.cells a0.Wear)) zfo ?_
    refine Of ((Wear.cells a0.Wear)) zhB ?_
    refine Olp (.sl .no 4 (a0.Wear.Records.map WearRecord.cells)) ziQ zkP ?_
    refine zb9 (n:=a0.Wear.Records.length) (by decide) rfl (List.length_map _) ziR ?_
    refine Oi (.i (w64 ((a0.Wear.Records.length:Int)-1))) ?_
    obtain ⟨r7,hr7,hM⟩:=zaj hM
    refine zaO (bs:=[.i x4,.i 0,.i (w64 ((a0.Wear.Records.length:Int)-1))]) (by decide) rfl rfl ((zby hr7).le (.k (.k (.k .nil)))) ?_
    refine zc5 (e:=r7) (by decide) rfl ?_
    refine Om (.b (!r7)) ?_
    rcases bft (!r7) with hb8 | hb8
    ·replace hM:=ifT hM hb8
     refine On (want:=false) hb8 ?_
     refine On (want:=false) hb8 ?_
     refine On (want:=false) hb8 ?_
     refine zam (j:=11) (by decide) rfl ?_
     refine zam (j:=11) (by decide) rfl ?_
     refine zam (j:=11) (by decide) rfl ?_
     refine zam (j:=11) (by decide) rfl ?_
     refine zam (j:=11) (by decide) rfl ?_
     refine zam (j:=11) (by decide) rfl ?_
     refine zam (j:=11) (by decide) rfl ?_
     refine zam (j:=11) (by decide) rfl ?_
     refine On (want:=false) hb8 ?_
     refine Pt (.b true) hb8 ?_
     refine Ni ?_
     exact zai true (.k (.k (.k (.k (.k (.k .nil)))))) ⟨(hS.keep [] rfl).up (by omega),hM⟩
    ·replace hM:=ifF hM hb8
     refine Oy (want:=false) hb8 ?_
     refine Om (.i v2) ?_
     refine Oy (want:=false) hb8 ?_
     refine Oi (.b (decide (v2>0))) ?_
     refine Oy (want:=false) hb8 ?_
     refine Om (.b (decide (v2>0))) ?_
     rcases bft (decide (v2>0)) with hb9 | hb9
     ·replace hM:=ifT hM hb9
      refine Oy (want:=true) hb9 ?_
      refine Om (.i x4) ?_
      refine Oy (want:=true) hb9 ?_
      refine Of ((WearWeek.cells a1)) zkX ?_
      refine Oy (want:=true) hb9 ?_
      refine Olp (.sl .no 1 (a1.Records.map cI)) zaI zaU ?_
      refine Oy (want:=true) hb9 ?_
      refine Om (.i v2) ?_
      refine Oy (want:=true) hb9 ?_
      refine Oi (.i (w64 (v2-1))) ?_
      refine Oy (want:=true) hb9 ?_
      obtain ⟨x10,hx10,hM⟩:=zaj hM
      refine za8 (xs:=a1.Records) (f:=cI) (z:=(w64 (v2-1))) (u:=x10) (by decide) rfl rfl zaP hx10 ?_
      refine Oy (want:=true) hb9 ?_
      refine Olp (.i x10) zaf zal ?_
      refine Oy (want:=true) hb9 ?_
      refine Oi (.b (decide (x4<=x10))) ?_
      refine Oy (want:=false) hb8 ?_
      refine Pt (.b (decide (x4<=x10))) hb9 ?_
      refine Pf (.b (decide (x4<=x10))) hb8 ?_
      refine Ni ?_
      exact zai (decide (x4<=x10)) (.k (.k (.k (.k (.k (.k .nil)))))) ⟨(hS.keep [] rfl).up (by omega),hM⟩
     ·replace hM:=ifF hM hb9
      refine On (want:=true) hb9 ?_
      refine On (want:=true) hb9 ?_
      refine On (want:=true) hb9 ?_
      refine On (want:=true) hb9 ?_
      refine On (want:=true) hb9 ?_
      refine On (want:=true) hb9 ?_
      refine On (want:=true) hb9 ?_
      refine On (want:=true) hb9 ?_
      refine Oy (want:=false) hb8 ?_
      refine Pf (.b false) hb9 ?_
      refine Pf (.b false) hb8 ?_
      refine Ni ?_
      exact zai false (.k (.k (.k (.k (.k (.k .nil)))))) ⟨(hS.keep [] rfl).up (by omega),hM⟩
  ·replace hM:=ifF hM hb3
   refine Cf hb3 ?_
   refine zb1 ?_
   refine zav ?_
   refine zau ?_
   refine zaD ?_
   exact zai () (.k .nil) ⟨(hS.keep [] rfl).up (by omega),hM⟩
theorem znU {n:Nat} {a0:Wear} {a1:List WearWeek} {r:BoxW_×Int} (hM:zhR n a0 a1=some r):zaR Try.prog 21 [.agg (Wear.cells a0),.sl .no 2 (a1.map WearWeek.cells)] (.tup [.agg [.i r.1.Wear.Weeks,.i r.1.Wear.Price,.i r.1.Wear.Age,.i r.1.Wear.Step,.sl .no 1 (r.1.Wear.Rough.map cI),.sl .no 4 (r.1.Wear.Records.map WearRecord.cells)],.i r.2]):=by
 refine zaz mixed Try.func21 rfl (by decide) Try.ntmps21 (by simp) ?pure fun H0 g hf=>?_
 case pure=>exact .tup _ (zab (.agg _ (zab (.v _) (zab (.v _) (zab (.v _) (zab (.v _) (zab (.sl _ _ (zaA (fun x=>(zab (.v _) zaJ)))) (zab (.sl _ _ (zaA (fun x=>(zab (.v _) (zab (.v _) (zab (.v _) (zab (.sl _ _ (zaA (fun x=>(zab (.v _) zaJ)))) zaJ))))))) zaJ))))))) (zab (.v _) zaJ))
 rw [zah]
 change wpA _ _ _ _ (Fr.of [(0,.agg (Wear.cells a0)),(1,.sl .no 2 (a1.map WearWeek.cells))]) H0 g
 have hS:=St.start hf
 refine Sq ?_
 refine Rg 3 ?_
 refine zcg (v:=.agg (Wear.cells a0)) (cs:=(Wear.cells a0)) hS (by decide) rfl rfl (by omega) fun H hS=>?_
 refine za4 hS (by decide) zgF (by omega) fun H hS=>?_
 refine Oa (.i 0) ?_
 refine Ni ?_
 refine zaW (L':=[(g+1,.cells [.i 0,.i 0,.i 0,.i 0,.sl .nil 0 [],.sl .nil 0 []])]) 1 2 hS rfl rfl rfl fun H hS=>?_
 refine Ws ?_
 refine Sq ?_
 refine Sq ?_
 refine Rg 3 ?_
 refine Olg (.agg (Wear.cells a0)) zhS ?_
 obtain ⟨r1,hr1,hM⟩:=zaj hM
 refine zaO (bs:=[.agg (Wear.cells a0)]) (by decide) rfl rfl ((zjK hr1).le (.k .nil)) ?_
 refine Oa (.i r1) ?_
 refine Ni ?_
 refine Ws ?_
 refine Sq ?_
 refine Rg 2 ?_
 refine Om (.i r1) ?_
 refine Oi (.b (r1 != 0)) ?_
 refine Ni ?_
 refine Ws ?_
 rcases bft (r1 != 0) with hb2 | hb2
 ·replace hM:=ifT hM hb2
  refine Ct hb2 ?_
  refine Sq ?_
  refine Rg 4 ?_
  refine zbf (cs:=[.i 0,.i 0,.i 0,.i 0,.sl .nil 0 [],.sl .nil 0 []]) (by decide) zgF zoQ rfl ?_
  refine Om (.i r1) ?_
  refine zaC (v:=.agg [.i 0,.i 0,.i 0,.i 0,.sl .nil 0 [],.sl .nil 0 []]) (ns:=[.i 0,.i 0,.i 0,.i 0,.sl .nil 0 [],.sl .nil 0 []]) (L':=[(g+1,.cells [.i 0,.i 0,.i 0,.i 0,.sl .nil 0 [],.sl .nil 0 []])]) 0 hS rfl rfl .no rfl rfl ziT nlb rfl fun H hS=>?_
  refine Oa (.i r1) ?_
  refine Ni ?_
  refine Ws ?_
  refine zaS ?_
  refine zao ?_
  refine zbe (x:=.tup [.agg [.i 0,.i 0,.i 0,.i 0,.sl .nil 0 [],.sl .nil 0 []],.i r1]) (f:=fun r=>.tup [.agg [.i r.1.Wear.Weeks,.i r.1.Wear.Price,.i r.1.Wear.Age,.i r.1.Wear.Step,.sl .no 1 (r.1.Wear.Rough.map cI),.sl .no 4 (r.1.Wear.Records.map WearRecord.cells)],.i r.2]) (.inr rfl) ?_ (.tupL (.cons (.aggL (.k (.k (.k (.k (.cons (.sl0 .nil 1 0) (.cons (.sl0 .nil 4 0) .nil))))))) (.k .nil))) (Option.some.inj hM) hS
  exact (zdC (zdh (x:=.agg [.i 0,.i 0,.i 0,.i 0,.sl .nil 0 [],.sl .nil 0 []]) 0 hS rfl rfl (pg zgi)) (zae (x:=.i r1) rfl))
 ·replace hM:=ifF hM hb2
  refine Cf hb2 ?_
  refine zay ?_
  refine Ws ?_
  refine Sq ?_
  refine Rg 4 ?_
  refine Olg (.agg (Wear.cells a0)) zhS ?_
  refine zbf (cs:=(Wear.cells a0)) (by decide) zgF zoQ rfl ?_
  refine za4 hS (by decide) zgF (by omega) fun H hS=>?_
  refine zaC (v:=.agg (Wear.cells a0)) (ns:=(Wear.cells a0)) (L':=[(g+3+3+2+2,.cells (Wear.cells a0)),(g+1,.cells [.i 0,.i 0,.i 0,.i 0,.sl .nil 0 [],.sl .nil 0 []])]) 0 hS rfl rfl .no rfl rfl ziT nlb rfl fun H hS=>?_
  refine Ni ?_
  refine zaW (L':=[(g+1,.cells [.i 0,.i 0,.i 0,.i 0,.sl .nil 0 [],.sl .nil 0 []])]) 0 7 hS rfl rfl rfl fun H hS=>?_
  refine Ws ?_
  refine Sq ?_
  refine zaY (J:=Bool) (fun j=>[(4,.ptr (g+1) 0),(7,.ep (Wear.cells a0)),(27,.b j)]) (fun j H' g'=>St (·<g) H0 [(g+1,.cells [.i 0,.i 0,.i 0,.i 0,.sl .nil 0 [],.sl .nil 0 []])] H' g'/\zeJ a0 j=some r) ?_ ?_
  ·rintro v3 H g1 ⟨hS,hM⟩
   change wpA _ _ _ _ (Fr.of [(4,.ptr (g+1) 0),(7,.ep (Wear.cells a0)),(27,.b v3)]) _ _
   replace hS:St (·<g) H0 [(g+1,.cells [.i 0,.i 0,.i 0,.i 0,.sl .nil 0 [],.sl .nil 0 []])] H g1:=hS
   replace hM:zeJ a0 v3=some r:=hM
   rcases bft v3 with hb4 | hb4
   ·replace hM:=ifT hM hb4
    refine Ct hb4 ?_
    refine Sq ?_
    refine Rg 3 ?_
    refine zbf (cs:=[.i 0,.i 0,.i 0,.i 0,.sl .nil 0 [],.sl .nil 0 []]) (by decide) zgF zoQ rfl ?_
    refine zaC (v:=.agg [.i 0,.i 0,.i 0,.i 0,.sl .nil 0 [],.sl .nil 0 []]) (ns:=[.i 0,.i 0,.i 0,.i 0,.sl .nil 0 [],.sl .nil 0 []]) (L':=[(g+1,.cells [.i 0,.i 0,.i 0,.i 0,.sl .nil 0 [],.sl .nil 0 []])]) 0 hS rfl rfl .no rfl rfl ziT nlb rfl fun H hS=>?_
    refine Oa (.i 1) ?_
    refine Ni ?_
    refine Ws ?_
    refine zaS ?_
    refine zao ?_
    refine zbe (x:=.tup [.agg [.i 0,.i 0,.i 0,.i 0,.sl .nil 0 [],.sl .nil 0 []],.i 1]) (f:=fun r=>.tup [.agg [.i r.1.Wear.Weeks,.i r.1.Wear.Price,.i r.1.Wear.Age,.i r.1.Wear.Step,.sl .no 1 (r.1.Wear.Rough.map cI),.sl .no 4 (r.1.Wear.Records.map WearRecord.cells)],.i r.2]) (.inr rfl) ?_ (.tupL (.cons (.aggL (.k (.k (.k (.k (.cons (.sl0 .nil 1 0) (.cons (.sl0 .nil 4 0) .nil))))))) (.k .nil))) (Option.some.inj hM) hS
    exact (zdC (zdh (x:=.agg [.i 0,.i 0,.i 0,.i 0,.sl .nil 0 [],.sl .nil 0 []]) 0 hS rfl rfl (pg zgi)) (zae (x:=.i 1) rfl))
   ·replace hM:=ifF hM hb4
    refine Cf hb4 ?_
    refine zay ?_
    refine Ws ?_
    refine Sq ?_
    refine Rg 3 ?_
    refine Olg (.agg (Wear.cells a0)) zgi ?_
    refine zaC (v:=.agg (Wear.cells a0)) (ns:=(Wear.cells a0)) (L':=[(g+1,.cells (Wear.cells a0))]) 0 hS rfl rfl .no rfl rfl ziT nlb rfl fun H hS=>?_
    refine Oa (.i 0) ?_
    refine Ni ?_
    refine Ws ?_
    refine zaS ?_
    refine zbe (x:=.tup [.agg (Wear.cells a0),.i 0]) (f:=fun r=>.tup [.agg [.i r.1.Wear.Weeks,.i r.1.Wear.Price,.i r.1.Wear.Age,.i r.1.Wear.Step,.sl .no 1 (r.1.Wear.Rough.map cI),.sl .no 4 (r.1.Wear.Records.map WearRecord.cells)],.i r.2]) (.inr rfl) ?_ (.refl _) (Option.some.inj hM) hS
    exact (zdC (zdh (x:=.agg (Wear.cells a0)) 0 hS rfl rfl (pg zgi)) (zae (x:=.i 0) rfl))
  ·refine Rg 12 ?_
   refine Om (.sl .no 2 (a1.map WearWeek.cells)) ?_
   refine zb9 (n:=a1.length) (by decide) rfl (List.length_map _) zmJ ?_
   refine Of ((Wear.cells a0)) zkW ?_
   refine Olp (.i a0.Weeks) zaf zal ?_
   refine Oi (.b ((a1.length:Int) != a0.Weeks)) ?_
   refine Om (.b ((a1.length:Int) != a0.Weeks)) ?_
   rcases bft ((a1.length:Int) != a0.Weeks) with hb5 | hb5
   ·replace hM:=ifT hM hb5
    refine On (want:=false) hb5 ?_
    refine On (want:=false) hb5 ?_
    refine On (want:=false) hb5 ?_
    refine On (want:=false) hb5 ?_
    refine On (want:=false) hb5 ?_
    refine Pt (.b true) hb5 ?_
    refine Ni ?_
    exact zai true (.k (.k (.k .nil))) ⟨(hS.keep [true] rfl).up (by omega),hM⟩
   ·replace hM:=ifF hM hb5
    refine Oy (want:=false) hb5 ?_
    refine Om (.sl .no 2 (a1.map WearWeek.cells)) ?_
    refine Oy (want:=false) hb5 ?_
    refine Olg (.agg (Wear.cells a0)) zgi ?_
    refine Oy (want:=false) hb5 ?_
    refine zcL (first:=[.agg (Wear.cells a0)]) (cap:=[]) (by decide) rfl rfl ?_
    refine Oy (want:=false) hb5 ?_
    obtain ⟨r6,hr6,hM⟩:=zaj hM
    refine zaO (bs:=[.sl .no 2 (a1.map WearWeek.cells),.fn (.func 33) [.agg (Wear.cells a0)] []]) (by decide) rfl rfl (zgc ((zgI (Lo:=(fun (_:Unit)=>[]))  (fun _ _=>zfS) (fun _=>List.nodup_nil) (fun _=>zeW) (aF:=(fun (x0:WearWeek) (_:Unit)=>(zc8 n (⟨a0⟩:BoxW_) x0).map fun y=>(y,()))) (fun _ H hH=>(.fn _ _ _ (za0 (show Go.AM.Pure _ from .agg _ (zab (.v _) (zab (.v _) (zab (.v _) (zab (.v _) (zab (.sl _ _ (zaA (fun x=>(zab (.v _) zaJ)))) (zab (.sl _ _ (zaA (fun x=>(zab (.v _) (zab (.v _) (zab (.v _) (zab (.sl _ _ (zaA (fun x=>(zab (.v _) zaJ)))) zaJ))))))) zaJ))))))).inH zb2) zb2)) rfl (fun h=>zj4 (zjs (zht h))) hr6).le (.k (.k .nil)))) ?_
    refine Oy (want:=false) hb5 ?_
    refine zc5 (e:=r6.1) (by decide) rfl ?_
    refine Pf (.b (!r6.1)) hb5 ?_
    refine Ni ?_
    exact zai (!r6.1) (.k (.k (.k .nil))) ⟨(hS.keep [true] rfl).up (by omega),hM⟩
theorem zjV {a0:BoxW_} {a1:Int} {r:Int} (hM:zfa a0 a1=some r):zaR Try.prog 43 [.agg (Wear.cells a0.Wear),.i a1] (.i r):=by
 refine zaz mixed Try.func43 rfl (by decide) Try.ntmps43 (by simp) ?pure fun H0 g hf=>?_
 case pure=>exact .v _
 rw [zah]
 change wpA _ _ _ _ (Fr.of [(0,.agg (Wear.cells a0.Wear)),(1,.i a1)]) H0 g
 have hS:=St.start hf
 refine Sq ?_
 refine Rg 2 ?_
 refine zcg (v:=.agg (Wear.cells a0.Wear)) (cs:=(Wear.cells a0.Wear)) hS (by decide) rfl rfl (by omega) fun H hS=>?_
 refine Oa (.i 0) ?_
 refine Ni ?_
 refine zaW (L':=[]) 0 2 hS rfl rfl rfl fun H hS=>?_
 refine Ws ?_
 refine Sq ?_
 have hS0:=hS
 refine zc4 (n:=17) rfl (by kernel_rfl) ?_
 refine Of ((Wear.cells a0.Wear)) zfo ?_
 refine Of ((Wear.cells a0.Wear)) zhA ?_
 refine Olp (.sl .no 1 (a0.Wear.Rough.map cI)) zaI zaU ?_
 refine Om (.i a1) ?_
 refine Of ((Wear.cells a0.Wear)) zfo ?_
 refine Of ((Wear.cells a0.Wear)) znM ?_
 refine Olp (.i a0.Wear.Step) zaf zal ?_
 obtain ⟨q1,hq1,hM⟩:=zaj hM
 refine zmp (by decide) rfl rfl (zoD hq1) ?_
 refine Of ((Wear.cells a0.Wear)) zfo ?_
 refine Of ((Wear.cells a0.Wear)) zhA ?_
 refine Olp (.sl .no 1 (a0.Wear.Rough.map cI)) zaI zaU ?_
 refine zb9 (n:=a0.Wear.Rough.length) (by decide) rfl (List.length_map _) zaQ ?_
 refine Oi (.i (w64 ((a0.Wear.Rough.length:Int)-1))) ?_
 refine zu0 (v:=.i (min q1 (w64 ((a0.Wear.Rough.length:Int)-1)))) (by decide) rfl ?_
 obtain ⟨x2,hx2,hM⟩:=zaj hM
 refine za8 (xs:=a0.Wear.Rough) (f:=cI) (z:=(min q1 (w64 ((a0.Wear.Rough.length:Int)-1)))) (u:=x2) (by decide) rfl rfl zaP hx2 ?_
 refine Olp (.i x2) zaf zal ?_
 refine Oa (.i x2) ?_
 refine Ni ?_
 refine Ws ?_
 refine zaS ?_
 refine zbe (x:=.i x2) (f:=fun r=>.i r) (.inr rfl) ?_ (.refl _) (Option.some.inj hM) hS
 exact (zaw (zae (x:=.i x2) rfl))
theorem zil {n:Nat} {p:Nat} {c0 c2:AV} {a0:Int} {a1:BoxW_} {a2:Int} {r:Int×Int} (hM:zfz n a0 a1 a2=some r):zfN Try.prog 35 [.ptr p 1,.agg (Wear.cells a1.Wear),.i a2] p [c0,.i a0,c2] (.i r.2) [c0,.i r.1,c2]:=by
 refine zqM mixed Try.func35 rfl (by decide) Try.ntmps35 (by simp) ?pure ?cells fun H0 g hf hp=>?_
 case pure=>exact .v _
 case cells=>exact zwA
 rw [zah]
 change wpA _ _ _ _ (Fr.of [(0,.ptr p 1),(1,.agg (Wear.cells a1.Wear)),(2,.i a2)]) H0 g
 have hS:=St.startP hf hp
 refine Sq ?_
 refine Rg 2 ?_
 refine zcg (v:=.agg (Wear.cells a1.Wear)) (cs:=(Wear.cells a1.Wear)) hS (by decide) rfl rfl (by omega) fun H hS=>?_
 refine Oa (.i 0) ?_
 refine Ni ?_
 refine zaW (L':=[(p,.cells [c0,.i a0,c2])]) 0 4 hS rfl rfl rfl fun H hS=>?_
 refine Ws ?_
 refine Sq ?_
 refine Rg 1 ?_
 refine Oa (.i 0) ?_
 refine Ni ?_
 refine Ws ?_
 refine zaY (J:=Int×Int) (fun j=>[(7,.i j.1)]) (fun j H' g'=>St (fun i=>i<g/\i≠p) H0 [(p,.cells [c0,.i j.2,c2])] H' g'/\zdn j.1 j.2=some r) ?_ ?_
 ·rintro ⟨v1,v2⟩ H g1 ⟨hS,hM⟩
  change wpA _ _ _ _ (Fr.of [(7,.i v1)]) _ _
  replace hS:St (fun i=>i<g/\i≠p) H0 [(p,.cells [c0,.i v2,c2])] H g1:=hS
  replace hM:zdn v1 v2=some r:=hM
  refine Sq ?_
  refine Rg 2 ?_
  refine Om (.i v1) ?_
  refine Oa (.i v1) ?_
  refine Ni ?_
  refine Ws ?_
  refine zaS ?_
  refine zwd (x:=.i v1) (f:=fun r=>.i r.2) (fd:=fun r=>[c0,.i r.1,c2]) 0 (.inr rfl) ?_ (.refl _) (Option.some.inj hM) hS rfl
  exact (zaw (zae (x:=.i v1) rfl))
 ·refine Sq ?_
  refine Rg 2 ?_
  refine Om (.i a2) ?_
  refine Om (.i 0) ?_
  refine Ni ?_
  refine Ws ?_
  refine zaB ?_
  refine zco (V:=Int×Int×Int) (fun v=>[(0,.ptr p 1),(4,.ep (Wear.cells a1.Wear)),(7,.i v.1),(8,.i a2),(9,.i v.2.1)]) (fun v m3 H' g'=>St (fun i=>i<g/\i≠p) H0 [(p,.cells [c0,.i v.2.2,c2])] H' g'/\zbj a1 a2 m3 v.1 v.2.1 v.2.2=some r) (n:=n) (0,0,a0) (.k (.k (.k (.k (.k .nil))))) ⟨(hS.keep [true] rfl).up (by omega),hM⟩ ?_
  rintro ⟨v5,v6,v7⟩ m3 H g3 ⟨hS,hM⟩
  obtain _ | m3:=m3
  ·exact nomatch (show none=some _ from hM)
  change wpA _ _ _ _ (Fr.of [(0,.ptr p 1),(4,.ep (Wear.cells a1.Wear)),(7,.i v5),(8,.i a2),(9,.i v6)]) _ _
  replace hS:St (fun i=>i<g/\i≠p) H0 [(p,.cells [c0,.i v7,c2])] H g3:=hS
  replace hM:zcW a1 a2 (zbj a1 a2 m3) v5 v6 v7=some r:=hM
  refine Sq ?_
  refine Rg 1 ?_
  refine Oi (.b (decide (v6<a2))) ?_
  refine Ni ?_
  refine Ws ?_
  refine Sq ?_
  rcases bft (decide (v6<a2)) with hb8 | hb8
  ·replace hM:=ifT hM hb8
   refine Ct hb8 ?_
   refine zay ?_
   refine Ws ?_
   refine Sq ?_
   refine zaB ?_
   refine Sq ?_
   have hS0:=hS
   refine zc4 (n:=8) rfl (by kernel_rfl) ?_
   refine Om (.i v5) ?_
   refine Olg (.agg (Wear.cells a1.Wear)) zgi ?_
   refine Om (.ptr p 1) ?_
   refine zhr (by decide) rfl ?_
   refine zaK (v:=.i v7) 0 hS (by decide) rfl rfl (.st hS0 0 rfl (by omega)) (po zmL zoR) ?_
   obtain ⟨r9,hr9,hM⟩:=zaj hM
   refine zaO (bs:=[.agg (Wear.cells a1.Wear),.i v7]) (by decide) rfl rfl ((zjV hr9).le (.k (.k .nil))) ?_
   refine Oi (.i (w64 (v5+r9))) ?_
   refine Oa (.i (w64 (v5+r9))) ?_
   refine Ni ?_
   refine Ws ?_
   refine Rg 6 ?_
   refine Om (.ptr p 1) ?_
   refine zhr (by decide) rfl ?_
   refine zaK (v:=.i v7) 0 hS (by decide) rfl rfl .no (po zmL zoR) ?_
   refine Oi (.i (w64 (v7+1))) ?_
   refine zhr (by decide) rfl ?_
   refine zaC (v:=.i (w64 (v7+1))) (ns:=[.i (w64 (v7+1))]) (L':=[(p,.cells [c0,.i (w64 (v7+1)),c2])]) 0 hS rfl rfl .no rfl rfl zmM nlb rfl fun H hS=>?_
   refine Ni ?_
   refine zas ?_
   refine Ws ?_
   refine Rg 2 ?_
   refine Oi (.i (w64 (v6+1))) ?_
   refine Om (.i (w64 (v6+1))) ?_
   refine Ni ?_
   exact zbo (w64 (v5+r9),w64 (v6+1),w64 (v7+1)) (Nat.lt_succ_self _) (.k (.k (.k (.k (.k .nil))))) ⟨(hS.keep [true] rfl).up (by omega),hM⟩
  ·replace hM:=ifF hM hb8
   refine Cf hb8 ?_
   refine zb1 ?_
   refine zav ?_
   refine zau ?_
   refine zaD ?_
   exact zai (v5,v7) (.k .nil) ⟨(hS.keep [true] rfl).up (by omega),hM⟩
theorem zim {S:Type} {n:Nat} {aF:Int->S->Option (Bool×S)} {a1:List WearWeek} {a3:BoxW_} {st r:(Int×Int×Int)×S} (hM:zcD n aF a1 a3 st=some r):∃k rc,a1=[⟨k,[]⟩]/\a3.Wear.Records=[rc]/\∃t y,zgE n a3 rc ⟨k,[]⟩ st.1=some t/\aF 0 st.2=some y/\r=(t,y.2):=by
 unfold zcD at hM
 split at hM
 ·rename_i k rc h
  obtain ⟨t,h1,hM⟩:=zaj hM
  obtain ⟨y,h2,hM⟩:=zaj hM
  exact ⟨k,rc,rfl,h,t,y,h1,h2,(Option.some.inj hM).symm⟩
 ·cases hM
theorem zjt {S:Type} {Lo:S->BL} (hk:∀s s',zg7 (Lo s) (Lo s')) {p w:Nat} (hnd:∀s,([p,w]++ids (Lo s)).Nodup) (hin:∀s,InB In (Lo s)) {aF:Int->S->Option (Bool×S)} {f0:AV} (hf:∀{x0:Int} {s:S} {r:Bool×S},aF x0 s=some r->zlo Try.prog f0 [.i x0] (Lo s) (.b r.1) (Lo r.2)) {n:Nat} {a1:List WearWeek} {a3:BoxW_} {st r:(Int×Int×Int)×S} (hM:zcD n aF a1 a3 st=some r):zhc Try.prog 34 [f0,.ep [.sl .no 2 (a1.map WearWeek.cells)],.ep [.ptr p 0],.ep (BoxW_.cells a3)] ([(p,.cells [.ms w 0 1 1 1,.i (st.1.2.1),.i (st.1.2.2)]),(w,.cells [.i (st.1.1)])]++Lo st.2) (.tup []) ([(p,.cells [.ms w 0 1 1 1,.i (r.1.2.1),.i (r.1.2.2)]),(w,.cells [.i (r.1.1)])]++Lo r.2):=by
 obtain ⟨k,rc,rfl,hrc,t,y,ht,hy,rfl⟩:=zim hM
 obtain ⟨⟨wk,pr,ag,sp,rg,recs⟩⟩:=a3
 simp only at hrc
 subst hrc
 obtain ⟨⟨s1,s2,s3⟩,s⟩:=st
 unfold zgE at ht
 obtain ⟨x,hx,ht⟩:=zaj ht
 obtain ⟨q,hq,ht⟩:=zaj ht
 obtain rfl:=Option.some.inj ht
 simp only at hq hx ⊢
 generalize hage:(if k=1 then (0:Int) else s2)=age at hq
 generalize hcost:(if k=1 then w64 (s3+pr) else s3)=cost
 change zhc Try.prog 34 [f0,.ep [.sl .no 2 (([⟨k,[]⟩]:List WearWeek).map WearWeek.cells)],.ep [.ptr p 0],.ep (BoxW_.cells ⟨⟨wk,pr,ag,sp,rg,[rc]⟩⟩)] ([(p,.cells [.ms w 0 1 1 1,.i s2,.i s3]),(w,.cells [.i s1])]++Lo s) (.tup []) ([(p,.cells [.ms w 0 1 1 1,.i (q.1),.i cost]),(w,.cells [.i (w64 (s1+q.2))])]++Lo y.2)
 refine zbE mixed Try.func34 rfl (by decide) Try.ntmps34 (by simp) (zu4 (zd1 (zd1 zfS)) (hk _ _)) (hnd _) ?pure ?cells fun H0 g hf_ hp=>?_
 case pure=>exact fun H _=>.tup _ (fun c h=>by simp at h)
 case cells=>exact ziC (zeA (zbK (.inr (.inr ⟨_,_,_,_,_,_,rfl,(List.mem_of_getElem? (i:=1) rfl)⟩)) (zbK (.inl (.inl (.v _))) (zbK (.inl (.inl (.v _))) zhs))) (zeA (zbK (.inl (.inl (.v _))) zhs) ziB)) (hin _)
 rw [zah]
 change wpA _ _ _ _ (Fr.of [(0,f0),(1,.ep [.sl .no 2 (([⟨k,[]⟩]:List WearWeek).map WearWeek.cells)]),(2,.ep [.ptr p 0]),(3,.ep (BoxW_.cells ⟨⟨wk,pr,ag,sp,rg,[rc]⟩⟩))]) H0 g
 have hS:=St.startH (L:=([(p,.cells [.ms w 0 1 1 1,.i s2,.i s3]),(w,.cells [.i s1])]++Lo s)) hf_ (zwk (hnd _)) hp
 generalize hO:(fun i=>i<g/\i∉ids ([(p,.cells [.ms w 0 1 1 1,.i s2,.i s3]),(w,.cells [.i s1])]++Lo s))=O at hS
 refine Sq ?_
 refine Rg 3 ?_
 refine Olp (.sl .no 2 (([⟨k,[]⟩]:List WearWeek).map WearWeek.cells)) ztZ zvo ?_
 refine zb9 (n:=1) (by decide) rfl rfl zmJ ?_
 refine Om (.i 0) ?_
 refine Ni ?_
 refine Ws ?_
 refine zaB ?_
 refine zco (V:=Bool) (fun v=>[(0,f0),(2,.ep [.ptr p 0]),(3,.ep (BoxW_.cells ⟨⟨wk,pr,ag,sp,rg,[rc]⟩⟩)),(11,.sl .no 2 (([⟨k,[]⟩]:List WearWeek).map WearWeek.cells)),(12,.i 1),(13,.i (cond v 1 0))]) (fun v m H' g'=>m=cond v 0 1/\St O H0 ([(p,.cells [.ms w 0 1 1 1,.i (cond v q.1 s2),.i (cond v cost s3)]),(w,.cells [.i (cond v (w64 (s1+q.2)) s1)])]++Lo (cond v y.2 s)) H' g') (n:=1) false (.k (.k (.k (.k (.k (.k .nil)))))) ⟨rfl,hS.up (by omega)⟩ ?_
 rintro (_ | _) m H g1 ⟨hm,hS⟩
 ·obtain rfl:m=1:=hm
  replace hS:St O H0 ([(p,.cells [.ms w 0 1 1 1,.i s2,.i s3]),(w,.cells [.i s1])]++Lo s) H g1:=hS
  change wpA _ _ _ _ (Fr.of [(0,f0),(2,.ep [.ptr p 0]),(3,.ep (BoxW_.cells ⟨⟨wk,pr,ag,sp,rg,[rc]⟩⟩)),(11,.sl .no 2 (([⟨k,[]⟩]:List WearWeek).map WearWeek.cells)),(12,.i 1),(13,.i 0)]) _ _
  refine Sq ?_
  refine Rg 1 ?_
  refine Oi (.b true) ?_
  refine Ni ?_
  refine Ws ?_
  refine Sq ?_
  refine zhq (e:=true) rfl rfl ?_
  refine zay ?_
  refine Ws ?_
  refine Sq ?_
  refine zaB ?_
  refine Sq ?_
  refine Rg 6 ?_
  refine Om (.i 0) ?_
  refine za8 (xs:=[⟨k,[]⟩]) (f:=WearWeek.cells) (z:=0) (u:=⟨k,[]⟩) (by decide) rfl rfl zmK rfl ?_
  refine Olg (.agg (WearWeek.cells ⟨k,[]⟩)) zmI ?_
  refine za4 hS (by decide) zkQ (by omega) fun H hS=>?_
  refine Oa (.i 0) ?_
  refine zaC (v:=.agg (WearWeek.cells ⟨k,[]⟩)) (ns:=(WearWeek.cells ⟨k,[]⟩)) (L':=(g1+1+3,.cells (WearWeek.cells ⟨k,[]⟩))::([(p,.cells [.ms w 0 1 1 1,.i s2,.i s3]),(w,.cells [.i s1])]++Lo s)) 0 hS rfl rfl .no rfl rfl ztY nlb rfl fun H hS=>?_
  refine Ni ?_
  refine zaW (L':=([(p,.cells [.ms w 0 1 1 1,.i s2,.i s3]),(w,.cells [.i s1])]++Lo s)) 0 6 hS rfl rfl rfl fun H hS=>?_
  refine Ws ?_
  refine zaY (J:=Unit) (fun _=>[(0,f0),(2,.ep [.ptr p 0]),(3,.ep (BoxW_.cells ⟨⟨wk,pr,ag,sp,rg,[rc]⟩⟩)),(5,.i 0),(6,.ep (WearWeek.cells ⟨k,[]⟩)),(11,.sl .no 2 (([⟨k,[]⟩]:List WearWeek).map WearWeek.cells)),(12,.i 1),(13,.i 0)]) (fun _ H' g'=>St O H0 ([(p,.cells [.ms w 0 1 1 1,.i age,.i cost]),(w,.cells [.i s1])]++Lo s) H' g') ?_ ?_
  ·rintro _ H g2 hS
   change wpA _ _ _ _ (Fr.of [(0,f0),(2,.ep [.ptr p 0]),(3,.ep (BoxW_.cells ⟨⟨wk,pr,ag,sp,rg,[rc]⟩⟩)),(5,.i 0),(6,.ep (WearWeek.cells ⟨k,[]⟩)),(11,.sl .no 2 (([⟨k,[]⟩]:List WearWeek).map WearWeek.cells)),(12,.i 1),(13,.i 0)]) _ _
   refine Sq ?_
   refine Sq ?_
   refine Rg 4 ?_
   refine Of ((WearWeek.cells ⟨k,[]⟩)) zkX ?_
   refine Olp (.sl .no 1 []) zaI zaU ?_
   refine zb9 (n:=0) (by decide) rfl rfl zaQ ?_
   refine Om (.i 0) ?_
   refine Ni ?_
   refine Ws ?_
   refine zaB ?_
   refine zco (V:=Unit) (fun _=>[(0,f0),(2,.ep [.ptr p 0]),(3,.ep (BoxW_.cells ⟨⟨wk,pr,ag,sp,rg,[rc]⟩⟩)),(5,.i 0),(6,.ep (WearWeek.cells ⟨k,[]⟩)),(11,.sl .no 2 (([⟨k,[]⟩]:List WearWeek).map WearWeek.cells)),(12,.i 1),(13,.i 0),(37,.i 0),(38,.i 0)]) (fun _ _ H' g'=>St O H0 ([(p,.cells [.ms w 0 1 1 1,.i age,.i cost]),(w,.cells [.i s1])]++Lo s) H' g') (n:=0) () (.k (.k (.k (.k (.k (.k (.k (.k (.k (.k .nil)))))))))) (hS.up (by omega)) ?_
   rintro _ m H g3 hS
   change wpA _ _ _ _ (Fr.of [(0,f0),(2,.ep [.ptr p 0]),(3,.ep (BoxW_.cells ⟨⟨wk,pr,ag,sp,rg,[rc]⟩⟩)),(5,.i 0),(6,.ep (WearWeek.cells ⟨k,[]⟩)),(11,.sl .no 2 (([⟨k,[]⟩]:List WearWeek).map WearWeek.cells)),(12,.i 1),(13,.i 0),(37,.i 0),(38,.i 0)]) _ _
   refine Sq ?_
   refine Rg 1 ?_
   refine Oi (.b false) ?_
   refine Ni ?_
   refine Ws ?_
   refine Sq ?_
   refine zeV (e:=false) rfl rfl ?_
   refine zb1 ?_
   refine zav ?_
   refine zau ?_
   refine zaD ?_
   refine Ws ?_
   refine Sq ?_
   refine Sq ?_
   refine Rg 5 ?_
   refine Of ((BoxW_.cells ⟨⟨wk,pr,ag,sp,rg,[rc]⟩⟩)) zfo ?_
   refine Of ((BoxW_.cells ⟨⟨wk,pr,ag,sp,rg,[rc]⟩⟩)) zhB ?_
   refine Olp (.sl .no 4 ([rc].map WearRecord.cells)) ziQ zkP ?_
   refine zb9 (n:=1) (by decide) rfl rfl ziR ?_
   refine Om (.i 0) ?_
   refine Ni ?_
   refine Ws ?_
   refine zaB ?_
   refine zco (V:=Bool) (fun v=>[(0,f0),(2,.ep [.ptr p 0]),(3,.ep (BoxW_.cells ⟨⟨wk,pr,ag,sp,rg,[rc]⟩⟩)),(5,.i 0),(11,.sl .no 2 (([⟨k,[]⟩]:List WearWeek).map WearWeek.cells)),(12,.i 1),(13,.i 0),(66,.sl .no 4 ([rc].map WearRecord.cells)),(67,.i 1),(68,.i (cond v 1 0))]) (fun v m H' g'=>m=cond v 0 1/\St O H0 ([(p,.cells [.ms w 0 1 1 1,.i (cond v q.1 age),.i cost]),(w,.cells [.i (cond v (w64 (s1+q.2)) s1)])]++Lo s) H' g') (n:=1) false (.k (.k (.k (.k (.k (.k (.k (.k (.k (.k .nil)))))))))) ⟨rfl,hS.up (by omega)⟩ ?_
   rintro (_ | _) m H g4 ⟨hm,hS⟩
   ·obtain rfl:m=1:=hm
    replace hS:St O H0 ([(p,.cells [.ms w 0 1 1 1,.i age,.i cost]),(w,.cells [.i s1])]++Lo s) H g4:=hS
    change wpA _ _ _ _ (Fr.of [(0,f0),(2,.ep [.ptr p 0]),(3,.ep (BoxW_.cells ⟨⟨wk,pr,ag,sp,rg,[rc]⟩⟩)),(5,.i 0),(11,.sl .no 2 (([⟨k,[]⟩]:List WearWeek).map WearWeek.cells)),(12,.i 1),(13,.i 0),(66,.sl .no 4 ([rc].map WearRecord.cells)),(67,.i 1),(68,.i 0)]) _ _
    refine Sq ?_
    refine Rg 1 ?_
    refine Oi (.b true) ?_
    refine Ni ?_
    refine Ws ?_
    refine Sq ?_
    refine zhq (e:=true) rfl rfl ?_
    refine zay ?_
    refine Ws ?_
    refine Sq ?_
    refine zaB ?_
    refine Sq ?_
    refine Rg 6 ?_
    refine Om (.i 0) ?_
    refine za8 (xs:=[rc]) (f:=WearRecord.cells) (z:=0) (u:=rc) (by decide) rfl rfl zmH rfl ?_
    refine Olg (.agg (WearRecord.cells rc)) zmF ?_
    refine za4 hS (by decide) ziP (by omega) fun H hS=>?_
    refine Oa (.i 0) ?_
    refine zaC (v:=.agg (WearRecord.cells rc)) (ns:=(WearRecord.cells rc)) (L':=(g4+1+3,.cells (WearRecord.cells rc))::([(p,.cells [.ms w 0 1 1 1,.i age,.i cost]),(w,.cells [.i s1])]++Lo s)) 0 hS rfl rfl .no rfl rfl zmG nlb rfl fun H hS=>?_
    refine Ni ?_
    refine zaW (L':=([(p,.cells [.ms w 0 1 1 1,.i age,.i cost]),(w,.cells [.i s1])]++Lo s)) 0 10 hS rfl rfl rfl fun H hS=>?_
    refine Ws ?_
    have hS0:=hS
    refine zuV (n:=20) [] [(82,2,72),(82,75,22),(82,78,3)] rfl (by kernel_rfl) (by kernel_rfl) (by kernel_rfl) ?_
    refine Olp (.ptr p 0) zgj zhy ?_
    refine zhr (by decide) rfl ?_
    refine zap (by decide) zi1 rfl ?_
    refine zaK (v:=.ms w 0 1 1 1) 0 hS (by decide) rfl rfl (.st hS0 0 rfl (by omega)) (po zaI zaU) ?_
    refine Om (.i 0) ?_
    refine zpC (xs:=[s1]) (z:=0) (u:=s1) (by decide) rfl rfl rfl zaP rfl ?_
    refine zaK (v:=.i s1) 1 hS (by decide) rfl rfl (.st hS0 1 rfl (by omega)) (po zaf zal) ?_
    refine Olp (.ptr p 0) zgj zhy ?_
    refine zhr (by decide) rfl ?_
    refine zap (by decide) zi2 rfl ?_
    refine Olg (.agg (BoxW_.cells ⟨⟨wk,pr,ag,sp,rg,[rc]⟩⟩)) zgi ?_
    refine Of ((WearRecord.cells rc)) zkV ?_
    refine Olp (.sl .no 1 (rc.Plays.map cI)) zaI zaU ?_
    refine Om (.i 0) ?_
    refine za8 (xs:=rc.Plays) (f:=cI) (z:=0) (u:=x) (by decide) rfl rfl zaP hx ?_
    refine Olp (.i x) zaf zal ?_
    refine zwb (bs:=[.agg (BoxW_.cells ⟨⟨wk,pr,ag,sp,rg,[rc]⟩⟩),.i x]) (x:=.i (q.1)) (j:=p) (off:=0+1) (cs:=[.ms w 0 1 1 1,.i age,.i cost]) (L':=([(p,.cells [.ms w 0 1 1 1,.i (q.1),.i cost]),(w,.cells [.i s1])]++Lo s)) 0 hS (by decide) rfl rfl rfl (zwc (by kernel_rfl) hS0 0 rfl (by omega)) (zil hq) rfl fun H hS=>?_
    refine Oi (.i (w64 (s1+q.2))) ?_
    refine zpC (xs:=[s1]) (z:=0) (u:=s1) (by decide) rfl rfl rfl zaP rfl ?_
    refine zaC (v:=.i (w64 (s1+q.2))) (ns:=[.i (w64 (s1+q.2))]) (L':=([(p,.cells [.ms w 0 1 1 1,.i (q.1),.i cost]),(w,.cells [.i (w64 (s1+q.2))])]++Lo s)) 1 hS rfl rfl (.st hS0 1 rfl (by omega)) rfl rfl zdV nlb rfl fun H hS=>?_
    refine Ni ?_
    refine ⟨⟨zrQ,zmu trivial (zmu (.inr (.inr ⟨by decide,zaI⟩)) (zmu (.inl (hS.ne (n:=0) (m:=1) rfl rfl (by decide))) zu7))⟩,?_⟩
    refine zas ?_
    refine zg8 [(0,f0),(2,.ep [.ptr p 0]),(3,.ep (BoxW_.cells ⟨⟨wk,pr,ag,sp,rg,[rc]⟩⟩)),(5,.i 0),(11,.sl .no 2 (([⟨k,[]⟩]:List WearWeek).map WearWeek.cells)),(12,.i 1),(13,.i 0),(66,.sl .no 4 ([rc].map WearRecord.cells)),(67,.i 1),(68,.i 0)] (.k (.k (.k (.k (.k (.k (.k (.k (.k (.k .nil)))))))))) ?_
    refine Rg 2 ?_
    refine Oi (.i 1) ?_
    refine Om (.i 1) ?_
    refine Ni ?_
    exact zbo (m:=0) true (by omega) (.k (.k (.k (.k (.k (.k (.k (.k (.k (.k .nil)))))))))) ⟨rfl,hS.up (by omega)⟩
   ·replace hS:St O H0 ([(p,.cells [.ms w 0 1 1 1,.i (q.1),.i cost]),(w,.cells [.i (w64 (s1+q.2))])]++Lo s) H g4:=hS
    change wpA _ _ _ _ (Fr.of [(0,f0),(2,.ep [.ptr p 0]),(3,.ep (BoxW_.cells ⟨⟨wk,pr,ag,sp,rg,[rc]⟩⟩)),(5,.i 0),(11,.sl .no 2 (([⟨k,[]⟩]:List WearWeek).map WearWeek.cells)),(12,.i 1),(13,.i 0),(66,.sl .no 4 ([rc].map WearRecord.cells)),(67,.i 1),(68,.i 1)]) _ _
    refine Sq ?_
    refine Rg 1 ?_
    refine Oi (.b false) ?_
    refine Ni ?_
    refine Ws ?_
    refine Sq ?_
    refine zeV (e:=false) rfl rfl ?_
    refine zb1 ?_
    refine zav ?_
    refine zau ?_
    refine zaD ?_
    refine Ws ?_
    refine Sq ?_
    refine Rg 4 ?_
    refine Om (f0) ?_
    refine Om (.i 0) ?_
    refine zgW (bs:=[.i 0]) (.inl rfl) hS (by decide) rfl rfl ((hf hy).le (.k .nil)) (hk _ _).ids (by omega) fun H hS=>?_
    refine zc5 (by decide) rfl ?_
    refine Ni ?_
    refine Ws ?_
    rcases bft (!y.1) with hb | hb
    ·refine Ct hb ?_
     refine zaS ?_
     refine zaV ?_
     refine zao ?_
     refine zbA ?_
     refine zaV ?_
     subst hO
     refine zdf (u:=()) (r:=()) (x:=.tup []) (f:=fun _=>.tup []) (fd:=fun _=>([(p,.cells [.ms w 0 1 1 1,.i (q.1),.i cost]),(w,.cells [.i (w64 (s1+q.2))])]++Lo y.2)) (.inr rfl) ?_ (.refl _) rfl hS 0 rfl
     exact rfl
    ·refine Cf hb ?_
     refine zay ?_
     refine zas ?_
     refine Ws ?_
     refine Rg 2 ?_
     refine Oi (.i 1) ?_
     refine Om (.i 1) ?_
     refine Ni ?_
     exact zbo (m:=0) true (by omega) (.k (.k (.k (.k (.k (.k .nil)))))) ⟨rfl,hS.up (by omega)⟩
  ·refine Sq ?_
   refine Rg 3 ?_
   refine Of ((WearWeek.cells ⟨k,[]⟩)) znN ?_
   refine Olp (.i k) zaf zal ?_
   refine Oi (.b (k==1)) ?_
   refine Ni ?_
   refine Ws ?_
   rcases bft (k==1) with hb | hb
   ·have hk1:k=1:=by simpa using hb
    have ea:age=0:=by rw [←hage,if_pos hk1]
    have ec:cost=w64 (s3+pr):=by rw [←hcost,if_pos hk1]
    refine Ct hb ?_
    have hS0:=hS
    refine zuU (n:=16) [(32,2),(32,28)] rfl (by kernel_rfl) (by kernel_rfl) ?_
    refine Olp (.ptr p 0) zgj zhy ?_
    refine Olp (.ptr p 0) zgj zhy ?_
    refine Olp (.ptr p 0) zgj zhy ?_
    refine zhr (by decide) rfl ?_
    refine zap (by decide) zk1 rfl ?_
    refine zaK (v:=.i s3) 0 hS (by decide) rfl rfl (.st hS0 0 rfl (by omega)) (po zaf zal) ?_
    refine Of ((BoxW_.cells ⟨⟨wk,pr,ag,sp,rg,[rc]⟩⟩)) zfo ?_
    refine Of ((BoxW_.cells ⟨⟨wk,pr,ag,sp,rg,[rc]⟩⟩)) znK ?_
    refine Olp (.i pr) zaf zal ?_
    refine Oi (.i (w64 (s3+pr))) ?_
    refine zhr (by decide) rfl ?_
    refine zap (by decide) zi2 rfl ?_
    refine zaC (v:=.i 0) (ns:=[.i 0]) (L':=([(p,.cells [.ms w 0 1 1 1,.i 0,.i s3]),(w,.cells [.i s1])]++Lo s)) 0 hS rfl rfl (.st hS0 0 rfl (by omega)) rfl rfl zmM nlb rfl fun H hS=>?_
    refine zhr (by decide) rfl ?_
    refine zap (by decide) zk1 rfl ?_
    refine zaC (v:=.i (w64 (s3+pr))) (ns:=[.i (w64 (s3+pr))]) (L':=([(p,.cells [.ms w 0 1 1 1,.i 0,.i (w64 (s3+pr))]),(w,.cells [.i s1])]++Lo s)) 0 hS rfl rfl (.st hS0 0 rfl (by omega)) rfl rfl zdV nlb rfl fun H hS=>?_
    refine Ni ?_
    refine ⟨(zpo trivial (zpo trivial zrQ)),?_⟩
    exact zai () (.k (.k (.k (.k (.k (.k (.k (.k .nil)))))))) (by rw [ea,ec];exact hS.up (by omega))
   ·have hk1:k≠1:=by simpa using hb
    have ea:age=s2:=by rw [←hage,if_neg hk1]
    have ec:cost=s3:=by rw [←hcost,if_neg hk1]
    refine Cf hb ?_
    refine zay ?_
    exact zai () (.k (.k (.k (.k (.k (.k (.k (.k .nil)))))))) (by rw [ea,ec];exact hS.up (by omega))
 ·replace hS:St O H0 ([(p,.cells [.ms w 0 1 1 1,.i (q.1),.i cost]),(w,.cells [.i (w64 (s1+q.2))])]++Lo y.2) H g1:=hS
  change wpA _ _ _ _ (Fr.of [(0,f0),(2,.ep [.ptr p 0]),(3,.ep (BoxW_.cells ⟨⟨wk,pr,ag,sp,rg,[rc]⟩⟩)),(11,.sl .no 2 (([⟨k,[]⟩]:List WearWeek).map WearWeek.cells)),(12,.i 1),(13,.i 1)]) _ _
  refine Sq ?_
  refine Rg 1 ?_
  refine Oi (.b false) ?_
  refine Ni ?_
  refine Ws ?_
  refine Sq ?_
  refine zeV (e:=false) rfl rfl ?_
  refine zb1 ?_
  refine zav ?_
  refine zau ?_
  refine zaD ?_
  subst hO
  refine zdf (u:=()) (r:=()) (x:=.tup []) (f:=fun _=>.tup []) (fd:=fun _=>([(p,.cells [.ms w 0 1 1 1,.i (q.1),.i cost]),(w,.cells [.i (w64 (s1+q.2))])]++Lo y.2)) (.inl rfl) ?_ (.refl _) rfl hS 0 rfl
  exact rfl
end Go.Proofs.Ytchhkifidbkjcaa
