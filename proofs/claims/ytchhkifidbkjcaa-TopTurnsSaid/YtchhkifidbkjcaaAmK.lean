/-
  The abstract machine: a region whose order is open does what it does in the text's order.
  Conditions: none; it speaks of any program.
-/
import Derived.Test.YtchhkifidbkjcaaAmJ
set_option linter.all false
namespace Go.AM
open Go Go.RowKit
section
variable {P:Program} {N g0:Nat} {ops:Array Oper} {ro:Option Nat} {nn:Nat}
theorem zez.foot {i:Nat} {o:Oper} {fr:Fr} {H:zaa} {r:AV} {wr:Option (Nat×Blk)} (h:zez P N g0 ops i o fr H r wr) :
  ∃rd,zrs g0 ops i (zlp ops i o.op) H rd wr/\∀H':zaa,(∀id,rd=some id->H' id=H id)->zez P N g0 ops i o fr H' r wr:=by
 unfold zez at h
 cases hc:zbz o.op with
 | some q =>
  obtain ⟨f,args⟩:=q
  simp only [hc] at h
  have hk0:zvU o.op=.makes:=by
   obtain ⟨ts,hop⟩:=zgV hc
   rw [hop]
   rfl
  have hnew:∀b,zrs g0 ops i (zlp ops i o.op) H none (some (g0+i,b)):=fun b=>by
   unfold zlp
   split
   ·exact .inr (.inl ⟨rfl,b,rfl⟩)
   ·rw [hk0]
    exact .inr ⟨rfl,b,rfl⟩
  cases ht:tgt (fr.ev N f) with
  | none=>simp [ht] at h
  | some q =>
   obtain ⟨k,first,cap⟩:=q
   simp only [ht] at h
   rcases h with ⟨hs,rfl⟩ | ⟨r',b,hs,hr,rfl⟩ | ⟨id,cs,ds,hm,hid,hs,rfl⟩ | ⟨id,d,cs,x,hm,ha,hid,hs,rfl⟩
   ·exact ⟨none,.inl ⟨rfl,rfl⟩,fun H' _=>by unfold zez;simp only [hc,ht];exact .inl ⟨hs,trivial⟩⟩
   ·refine ⟨none,?_,fun H' _=>by unfold zez;simp only [hc,ht];exact .inr (.inl ⟨r',b,hs,hr,rfl⟩)⟩
    cases b with
    | none=>exact .inl ⟨rfl,rfl⟩
    | some x=>exact hnew x
   ·refine ⟨some id,?_,fun H' hH=>by unfold zez;simp only [hc,ht];exact .inr (.inr (.inl ⟨id,cs,ds,hm,by rw [hH id rfl];exact hid,hs,rfl⟩))⟩
    simp only [zp6,Bool.and_eq_true] at hm
    unfold zlp
    rw [if_pos (by simp [hc,hm.1])]
    exact .inr (.inr ⟨id,cs,ds,rfl,rfl,hid,zhm hm.2⟩)
   ·refine ⟨some id,?_,fun H' hH=>by unfold zez;simp only [hc,ht];exact .inr (.inr (.inr ⟨id,d,cs,x,hm,ha,by rw [hH id rfl];exact hid,hs,rfl⟩))⟩
    simp only [zlD,Bool.and_eq_true] at hm
    unfold zlp
    rw [if_pos (by simp [hc,hm.1])]
    exact .inr (.inr ⟨id,cs,_,rfl,rfl,hid,zhm hm.2⟩)
 | none =>
  simp only [hc] at h
  obtain ⟨rd,h1,h2⟩:=zqm h.1 h.2
  have hk:zlp ops i o.op=zvU o.op:=by unfold zlp;rw [if_neg (by simp [hc])]
  rw [hk]
  exact ⟨rd,h1,fun H' hH=>by unfold zez;simp only [hc];exact ⟨h.1,h2 H' hH⟩⟩
theorem za7.foot {i:Nat} {o:Oper} {fr:Fr} {H:zaa} {r:AV} {wr:Option (Nat×Blk)} (h:za7 P N g0 ops i o fr H r wr) :
  ∃rd,zrs g0 ops i (zlp ops i o.op) H rd wr/\∀H':zaa,(∀id,rd=some id->H' id=H id)->za7 P N g0 ops i o fr H' r wr:=by
 unfold za7 at h
 cases hg:o.guard with
 | none =>
  simp only [hg] at h
  obtain ⟨rd,h1,h2⟩:=h.foot
  exact ⟨rd,h1,fun H' hH=>by unfold za7;simp only [hg];exact h2 H' hH⟩
 | some q =>
  obtain ⟨j,want⟩:=q
  simp only [hg] at h
  cases hb:gd ops N fr j with
  | none=>simp [hb] at h
  | some b =>
   simp only [hb] at h
   by_cases hw:b=some want
   ·rw [if_pos hw] at h
    obtain ⟨rd,h1,h2⟩:=h.foot
    exact ⟨rd,h1,fun H' hH=>by unfold za7;simp only [hg,hb];rw [if_pos hw];exact h2 H' hH⟩
   ·rw [if_neg hw] at h
    obtain ⟨rfl,rfl⟩:=h
    exact ⟨none,.inl ⟨rfl,rfl⟩,fun H' _=>by unfold za7;simp [hg,hb,hw]⟩
theorem zhM (H:zaa) (id:Nat) (b:Blk):(H.patch (some (id,b))) id=some b:=zaa.set_same H id b
theorem zhN (H:zaa) {wr:Option (Nat×Blk)} {x:Nat} (h:∀id b,wr=some (id,b)->x≠id):(H.patch wr) x=H x:=by
 cases wr with
 | none=>rfl
 | some q =>
  obtain ⟨id,b⟩:=q
  exact zaa.set_ne H b (h id b rfl)
theorem zkx {i j id:Nat} (hb:behind ops ops.size i j=false) (h:zml g0 ops i id):id≠g0+j:=by
 rintro rfl
 rcases h with h | ⟨h,_⟩
 ·omega
 ·rw [show g0+j-g0=j by omega,hb] at h
  cases h
theorem zov {j i:Nat} (hij:i≠j) {kj ki:Kd} {H:zaa} {rdj rdi:Option Nat} {wrj wri:Option (Nat×Blk)} (hk:zgQ ki kj=true) (hbi:behind ops ops.size i j=false) (hbj:behind ops ops.size j i=false)
  (hkj0:kj≠.mread/\kj≠.mwrite) (hki0:ki≠.mread/\ki≠.mwrite) (hj:zrs g0 ops j kj H rdj wrj) (hi:zrs g0 ops i ki (H.patch wrj) rdi wri) :
  (∀x,rdi=some x->∀id b,wrj=some (id,b)->x≠id)/\(∀x,rdj=some x->∀id b,wri=some (id,b)->x≠id)/\(∀x b,wrj=some (x,b)->∀y c,wri=some (y,c)->x≠y):=by
 have J:(wrj=none/\(rdj=none\/∃x cs,rdj=some x/\kj=.reads/\H x=some (.cells cs)/\zml g0 ops j x))\/(rdj=none/\∃b,wrj=some (g0+j,b)) \/
   (∃x cs ds,rdj=some x/\wrj=some (x,.cells ds)/\(kj=.writes\/kj=.calls)/\H x=some (.cells cs)/\zml g0 ops j x) \/
   (∃x e n m,rdj=some x/\wrj=some (x,.row e m)/\kj=.grows/\H x=some (.row e n)/\zml g0 ops j x):=by
  rcases hj with ⟨h1,h2⟩ | h
  ·exact .inl ⟨h2,.inl h1⟩
  ·cases kj with
   | pure=>exact h.elim
   | reads=>obtain ⟨x,cs,h1,h2,h3,h4⟩:=h;exact .inl ⟨h2,.inr ⟨x,cs,h1,rfl,h3,h4⟩⟩
   | makes=>exact .inr (.inl h)
   | writes=>obtain ⟨x,cs,ds,h1,h2,h3,h4⟩:=h;exact .inr (.inr (.inl ⟨x,cs,ds,h1,h2,.inl rfl,h3,h4⟩))
   | calls =>
    rcases h with h | ⟨x,cs,ds,h1,h2,h3,h4⟩
    ·exact .inr (.inl h)
    ·exact .inr (.inr (.inl ⟨x,cs,ds,h1,h2,.inr rfl,h3,h4⟩))
   | grows =>
    rcases h with h | ⟨x,e,n,m,h1,h2,h3,h4⟩
    ·exact .inr (.inl h)
    ·exact .inr (.inr (.inr ⟨x,e,n,m,h1,h2,rfl,h3,h4⟩))
   | mread=>exact absurd rfl hkj0.1
   | mwrite=>exact absurd rfl hkj0.2
 have I:(wri=none/\(rdi=none\/∃x cs,rdi=some x/\ki=.reads/\(H.patch wrj) x=some (.cells cs)/\zml g0 ops i x))\/(rdi=none/\∃b,wri=some (g0+i,b)) \/
   (∃x cs ds,rdi=some x/\wri=some (x,.cells ds)/\(ki=.writes\/ki=.calls)/\(H.patch wrj) x=some (.cells cs)/\zml g0 ops i x) \/
   (∃x e n m,rdi=some x/\wri=some (x,.row e m)/\ki=.grows/\(H.patch wrj) x=some (.row e n)/\zml g0 ops i x):=by
  rcases hi with ⟨h1,h2⟩ | h
  ·exact .inl ⟨h2,.inl h1⟩
  ·cases ki with
   | pure=>exact h.elim
   | reads=>obtain ⟨x,cs,h1,h2,h3,h4⟩:=h;exact .inl ⟨h2,.inr ⟨x,cs,h1,rfl,h3,h4⟩⟩
   | makes=>exact .inr (.inl h)
   | writes=>obtain ⟨x,cs,ds,h1,h2,h3,h4⟩:=h;exact .inr (.inr (.inl ⟨x,cs,ds,h1,h2,.inl rfl,h3,h4⟩))
   | calls =>
    rcases h with h | ⟨x,cs,ds,h1,h2,h3,h4⟩
    ·exact .inr (.inl h)
    ·exact .inr (.inr (.inl ⟨x,cs,ds,h1,h2,.inr rfl,h3,h4⟩))
   | grows =>
    rcases h with h | ⟨x,e,n,m,h1,h2,h3,h4⟩
    ·exact .inr (.inl h)
    ·exact .inr (.inr (.inr ⟨x,e,n,m,h1,h2,rfl,h3,h4⟩))
   | mread=>exact absurd rfl hki0.1
   | mwrite=>exact absurd rfl hki0.2
 have D1:∀x,rdi=some x->∀id b,wrj=some (id,b)->x≠id:=by
  intro x hx id b hw e
  subst e
  have hp:(H.patch wrj) x=some b:=by rw [hw];exact zhM H x b
  rcases J with ⟨h,_⟩ | ⟨_,b',h⟩ | ⟨y,cs,ds,_,h,hkj,_⟩ | ⟨y,e,n,m,_,h,hkj,_⟩
  ·rw [h] at hw;cases hw
  ·rw [h] at hw
   injection hw with hw
   injection hw with hw _
   rcases I with ⟨_,h' | ⟨z,cs,hz,_,_,ho⟩⟩ | ⟨h',_⟩ | ⟨z,cs,ds,hz,_,_,_,ho⟩ | ⟨z,e,n,m,hz,_,_,_,ho⟩
   ·rw [h'] at hx;cases hx
   ·rw [hz] at hx;injection hx with hx;subst hx;exact zkx hbi ho hw.symm
   ·rw [h'] at hx;cases hx
   ·rw [hz] at hx;injection hx with hx;subst hx;exact zkx hbi ho hw.symm
   ·rw [hz] at hx;injection hx with hx;subst hx;exact zkx hbi ho hw.symm
  ·rw [h] at hw
   injection hw with hw
   injection hw with hw1 hw2
   subst hw2
   rcases I with ⟨_,h' | ⟨z,cs',hz,hki,_⟩⟩ | ⟨h',_⟩ | ⟨z,cs',ds',hz,_,hki,_⟩ | ⟨z,e,n,m,hz,_,_,hr,_⟩
   ·rw [h'] at hx;cases hx
   ·first | (rw [hkj,hki] at hk;cases hk;done) | (rcases hkj with hkj | hkj<;>rw [hkj,hki] at hk<;>cases hk;done) | (rcases hki with hki | hki<;>rw [hkj,hki] at hk<;>cases hk;done) | (rcases hkj with hkj | hkj<;>rcases hki with hki | hki<;>rw [hkj,hki] at hk<;>cases hk;done)
   ·rw [h'] at hx;cases hx
   ·first | (rw [hkj,hki] at hk;cases hk;done) | (rcases hkj with hkj | hkj<;>rw [hkj,hki] at hk<;>cases hk;done) | (rcases hki with hki | hki<;>rw [hkj,hki] at hk<;>cases hk;done) | (rcases hkj with hkj | hkj<;>rcases hki with hki | hki<;>rw [hkj,hki] at hk<;>cases hk;done)
   ·rw [hz] at hx;injection hx with hx;subst hx;rw [hp] at hr;cases hr
  ·rw [h] at hw
   injection hw with hw
   injection hw with hw1 hw2
   subst hw2
   rcases I with ⟨_,h' | ⟨z,cs',hz,_,hr,_⟩⟩ | ⟨h',_⟩ | ⟨z,cs',ds',hz,_,_,hr,_⟩ | ⟨z,e',n',m',hz,_,hki,_⟩
   ·rw [h'] at hx;cases hx
   ·rw [hz] at hx;injection hx with hx;subst hx;rw [hp] at hr;cases hr
   ·rw [h'] at hx;cases hx
   ·rw [hz] at hx;injection hx with hx;subst hx;rw [hp] at hr;cases hr
   ·first | (rw [hkj,hki] at hk;cases hk;done) | (rcases hkj with hkj | hkj<;>rw [hkj,hki] at hk<;>cases hk;done) | (rcases hki with hki | hki<;>rw [hkj,hki] at hk<;>cases hk;done) | (rcases hkj with hkj | hkj<;>rcases hki with hki | hki<;>rw [hkj,hki] at hk<;>cases hk;done)
 have D2:∀x b,wrj=some (x,b)->∀y c,wri=some (y,c)->x≠y:=by
  intro x b hw y c hw' e
  subst e
  rcases I with ⟨h,_⟩ | ⟨_,b',h⟩ | ⟨z,cs,ds,hz,h,_⟩ | ⟨z,e,n,m,hz,h,_⟩
  ·rw [h] at hw';cases hw'
  ·rw [h] at hw'
   injection hw' with hw'
   injection hw' with hw' _
   rcases J with ⟨h',_⟩ | ⟨_,b'',h'⟩ | ⟨z,cs,ds,_,h',_,_,ho⟩ | ⟨z,e,n,m,_,h',_,_,ho⟩
   ·rw [h'] at hw;cases hw
   ·rw [h'] at hw;injection hw with hw;injection hw with hw _;omega
   ·rw [h'] at hw;injection hw with hw;injection hw with hw _;exact zkx hbj ho (by omega)
   ·rw [h'] at hw;injection hw with hw;injection hw with hw _;exact zkx hbj ho (by omega)
  ·rw [h] at hw';injection hw' with hw';injection hw' with hw' _;exact D1 z hz x b hw hw'
  ·rw [h] at hw';injection hw' with hw';injection hw' with hw' _;exact D1 z hz x b hw hw'
 refine ⟨D1,?_,D2⟩
 intro x hx id b hw e
 subst e
 rcases I with ⟨h,_⟩ | ⟨_,b',h⟩ | ⟨z,cs,ds,hz,h,hki,hr,_⟩ | ⟨z,e,n,m,hz,h,hki,hr,_⟩
 ·rw [h] at hw;cases hw
 ·rw [h] at hw
  injection hw with hw
  injection hw with hw _
  rcases J with ⟨_,h' | ⟨z,cs,hz,_,_,ho⟩⟩ | ⟨h',_⟩ | ⟨z,cs,ds,hz,_,_,_,ho⟩ | ⟨z,e,n,m,hz,_,_,_,ho⟩
  ·rw [h'] at hx;cases hx
  ·rw [hz] at hx;injection hx with hx;exact zkx hbj ho (by omega)
  ·rw [h'] at hx;cases hx
  ·rw [hz] at hx;injection hx with hx;exact zkx hbj ho (by omega)
  ·rw [hz] at hx;injection hx with hx;exact zkx hbj ho (by omega)
 ·rw [h] at hw
  injection hw with hw
  injection hw with hw1 hw2
  subst hw1
  rcases J with ⟨_,h' | ⟨y,cs',hy,hkj,_⟩⟩ | ⟨h',_⟩ | ⟨y,cs',ds',hy,_,hkj,_⟩ | ⟨y,e,n,m,hy,h',_⟩
  ·rw [h'] at hx;cases hx
  ·first | (rw [hkj,hki] at hk;cases hk;done) | (rcases hkj with hkj | hkj<;>rw [hkj,hki] at hk<;>cases hk;done) | (rcases hki with hki | hki<;>rw [hkj,hki] at hk<;>cases hk;done) | (rcases hkj with hkj | hkj<;>rcases hki with hki | hki<;>rw [hkj,hki] at hk<;>cases hk;done)
  ·rw [h'] at hx;cases hx
  ·first | (rw [hkj,hki] at hk;cases hk;done) | (rcases hkj with hkj | hkj<;>rw [hkj,hki] at hk<;>cases hk;done) | (rcases hki with hki | hki<;>rw [hkj,hki] at hk<;>cases hk;done) | (rcases hkj with hkj | hkj<;>rcases hki with hki | hki<;>rw [hkj,hki] at hk<;>cases hk;done)
  ·rw [hy] at hx;injection hx with hx;subst hx;exact D1 _ hz _ _ h' rfl
 ·rw [h] at hw
  injection hw with hw
  injection hw with hw1 hw2
  subst hw1
  rcases J with ⟨h0,h' | ⟨y,cs',hy,hkj,hr',_⟩⟩ | ⟨h',_⟩ | ⟨y,cs',ds',hy,h',_⟩ | ⟨y,e',n',m',hy,_,hkj,_⟩
  ·rw [h'] at hx;cases hx
  ·rw [hy] at hx
   injection hx with hx
   subst hx
   rw [h0] at hr
   change H y=_ at hr
   rw [hr'] at hr
   cases hr
  ·rw [h'] at hx;cases hx
  ·rw [hy] at hx;injection hx with hx;subst hx;exact D1 _ hz _ _ h' rfl
  ·first | (rw [hkj,hki] at hk;cases hk;done) | (rcases hkj with hkj | hkj<;>rw [hkj,hki] at hk<;>cases hk;done) | (rcases hki with hki | hki<;>rw [hkj,hki] at hk<;>cases hk;done) | (rcases hkj with hkj | hkj<;>rcases hki with hki | hki<;>rw [hkj,hki] at hk<;>cases hk;done)
theorem zmm {j:Nat} {k:Kd} {H:zaa} {rd:Option Nat} {wr:Option (Nat×Blk)} (hk:k=.mread\/k=.mwrite) (h:zrs g0 ops j k H rd wr):(rd=none/\wr=none)\/∃z p,rd=some z/\H z=some (.obj none p)/\zml g0 ops j z/\(wr=none\/k=.mwrite/\∃p',wr=some (z,.obj none p')):=by
 rcases h with h | h
 ·exact .inl h
 ·rcases hk with rfl | rfl
  ·obtain ⟨z,p,h1,h2,h3,h4⟩:=h;exact .inr ⟨z,p,h1,h3,h4,.inl h2⟩
  ·obtain ⟨z,p,p',h1,h2,h3,h4⟩:=h;exact .inr ⟨z,p,h1,h3,h4,.inr ⟨rfl,p',h2⟩⟩
theorem zhO {j:Nat} {k:Kd} {H:zaa} {rd:Option Nat} {wr:Option (Nat×Blk)} (hk:k≠.mread/\k≠.mwrite) (h:zrs g0 ops j k H rd wr):(rd=none/\(wr=none\/∃b,wr=some (g0+j,b)))\/∃z b,rd=some z/\H z=some b/\(∀p,b≠.obj none p)/\(wr=none\/∃b',wr=some (z,b')/\∀p,b'≠.obj none p):=by
 rcases h with h | h
 ·exact .inl ⟨h.1,.inl h.2⟩
 ·cases k with
  | pure=>exact h.elim
  | reads=>obtain ⟨x,cs,h1,h2,h3,h4⟩:=h;exact .inr ⟨x,_,h1,h3,fun p e=>(by cases e),.inl h2⟩
  | makes=>exact .inl ⟨h.1,.inr h.2⟩
  | writes=>obtain ⟨x,cs,ds,h1,h2,h3,h4⟩:=h;exact .inr ⟨x,_,h1,h3,fun p e=>(by cases e),.inr ⟨_,h2,fun p e=>by cases e⟩⟩
  | calls =>
   rcases h with h | ⟨x,cs,ds,h1,h2,h3,h4⟩
   ·exact .inl ⟨h.1,.inr h.2⟩
   ·exact .inr ⟨x,_,h1,h3,fun p e=>(by cases e),.inr ⟨_,h2,fun p e=>by cases e⟩⟩
  | grows =>
   rcases h with h | ⟨x,e,n,m,h1,h2,h3,h4⟩
   ·exact .inl ⟨h.1,.inr h.2⟩
   ·exact .inr ⟨x,_,h1,h3,fun p e=>(by cases e),.inr ⟨_,h2,fun p e=>by cases e⟩⟩
  | mread=>exact absurd rfl hk.1
  | mwrite=>exact absurd rfl hk.2
theorem zqn {j i:Nat} (hij:i≠j) {kj ki:Kd} {H:zaa} {rdj rdi:Option Nat} {wrj wri:Option (Nat×Blk)} (hk:zgQ ki kj=true) (hbi:behind ops ops.size i j=false) (hbj:behind ops ops.size j i=false)
  (hj:zrs g0 ops j kj H rdj wrj) (hi:zrs g0 ops i ki (H.patch wrj) rdi wri) :
  (∀x,rdi=some x->∀id b,wrj=some (id,b)->x≠id)/\(∀x,rdj=some x->∀id b,wri=some (id,b)->x≠id)/\(∀x b,wrj=some (x,b)->∀y c,wri=some (y,c)->x≠y):=by
 by_cases mi:ki=.mread\/ki=.mwrite
 ·rcases zmm mi hi with ⟨rfl,rfl⟩ | ⟨z,p,rfl,hz,hoz,hwi⟩
  ·exact ⟨fun x h=>(by cases h),fun x _ id b h=>(by cases h),fun x b _ y c h=>(by cases h)⟩
  by_cases mj:kj=.mread\/kj=.mwrite
  ·rcases zmm mj hj with ⟨rfl,rfl⟩ | ⟨y,q,rfl,hy,hoy,hwj⟩
   ·exact ⟨fun x _ id b h=>(by cases h),fun x h=>(by cases h),fun x b h=>(by cases h)⟩
   have hnj:wrj=none:=by
    rcases hwj with h | ⟨rfl,_⟩
    ·exact h
    ·rcases mi with rfl | rfl<;>cases hk
   have hni:wri=none:=by
    rcases hwi with h | ⟨rfl,_⟩
    ·exact h
    ·rcases mj with rfl | rfl<;>cases hk
   subst hnj hni
   exact ⟨fun x _ id b h=>(by cases h),fun x _ id b h=>(by cases h),fun x b h=>(by cases h)⟩
  ·have mj':kj≠.mread/\kj≠.mwrite:=⟨fun e=>mj (.inl e),fun e=>mj (.inr e)⟩
   have D1:∀id b,wrj=some (id,b)->z≠id:=by
    intro id b hw e
    subst e
    have hp:(H.patch wrj) z=some b:=by rw [hw];exact zhM H z b
    rw [hz] at hp
    injection hp with hp
    rcases zhO mj' hj with ⟨_,h | ⟨b',h⟩⟩ | ⟨y,b0,_,_,_,h | ⟨b',h,hb'⟩⟩
    ·rw [h] at hw;cases hw
    ·rw [h] at hw;injection hw with hw;injection hw with hw _;exact zkx hbi hoz hw.symm
    ·rw [h] at hw;cases hw
    ·rw [h] at hw;injection hw with hw;injection hw with _ hw;exact hb' p (hw.trans hp.symm)
   refine ⟨fun x hx id b hw=>by injection hx with hx;subst hx;exact D1 id b hw,fun x hx id b hw e=>?_,fun x b hw y c hw' e=>?_⟩
   ·rcases hwi with h | ⟨_,p',h⟩
    ·rw [h] at hw;cases hw
    ·rw [h] at hw;injection hw with hw;injection hw with hw _
     subst e
     rcases zhO mj' hj with ⟨h',_⟩ | ⟨y,b0,hy,hyb,hnb,h' | ⟨b',h',hb'⟩⟩
     ·rw [h'] at hx;cases hx
     ·rw [hy] at hx;injection hx with hx;subst hx hw
      rw [h'] at hz
      change H z=_ at hz
      rw [hyb] at hz
      injection hz with hz
      exact hnb p hz
     ·rw [hy] at hx;injection hx with hx;subst hx
      exact D1 y b' h' hw
   ·rcases hwi with h | ⟨_,p',h⟩
    ·rw [h] at hw';cases hw'
    ·rw [h] at hw';injection hw' with hw';injection hw' with hw' _
     exact D1 x b hw (hw'.trans e.symm)
 ·have mi':ki≠.mread/\ki≠.mwrite:=⟨fun e=>mi (.inl e),fun e=>mi (.inr e)⟩
  by_cases mj:kj=.mread\/kj=.mwrite
  ·rcases zmm mj hj with ⟨rfl,rfl⟩ | ⟨y,q,rfl,hy,hoy,hwj⟩
   ·exact ⟨fun x _ id b h=>(by cases h),fun x h=>(by cases h),fun x b h=>(by cases h)⟩
   have hpy:∃p,(H.patch wrj) y=some (.obj none p):=by
    rcases hwj with h | ⟨_,p',h⟩
    ·subst h;exact ⟨q,hy⟩
    ·subst h;exact ⟨p',zhM H y _⟩
   obtain ⟨p,hpy⟩:=hpy
   have hwj':∀id b,wrj=some (id,b)->id=y:=fun id b hw=>by
    rcases hwj with h | ⟨_,p',h⟩
    ·rw [h] at hw;cases hw
    ·rw [h] at hw;injection hw with hw;injection hw with hw _;exact hw.symm
   have D3:∀id b,wri=some (id,b)->y≠id:=by
    intro id b hw e
    subst e
    rcases zhO mi' hi with ⟨_,h | ⟨b',h⟩⟩ | ⟨z,b0,_,hz,hnb,h | ⟨b',h,hb'⟩⟩
    ·rw [h] at hw;cases hw
    ·rw [h] at hw;injection hw with hw;injection hw with hw _;exact zkx hbj hoy hw.symm
    ·rw [h] at hw;cases hw
    ·rw [h] at hw;injection hw with hw;injection hw with hw _
     rw [hw,hpy] at hz
     injection hz with hz
     exact hnb p hz.symm
   refine ⟨fun x hx id b hw e=>?_,fun x hx id b hw=>by injection hx with hx;subst hx;exact D3 id b hw,fun x b hw z c hw' e=>D3 z c hw' (by rw [←e];exact (hwj' x b hw).symm)⟩
   have e2:=hwj' id b hw
   subst e2
   subst e
   rcases zhO mi' hi with ⟨h,_⟩ | ⟨z,b0,h,hz,hnb,_⟩
   ·rw [h] at hx;cases hx
   ·rw [h] at hx;injection hx with hx;subst hx
    rw [hpy] at hz
    injection hz with hz
    exact hnb p hz.symm
  ·exact zov hij hk hbi hbj ⟨fun e=>mj (.inl e),fun e=>mj (.inr e)⟩ mi' hj hi
theorem put_comm (fr:Fr) {d e:Option Tmp} (h:∀x,d=some x->e≠some x) (r s:AV):(fr.put N d r).put N e s=(fr.put N e s).put N d r:=by
 cases d with
 | none=>rfl
 | some x =>
  cases e with
  | none=>rfl
  | some y =>
   have hne:y≠x:=fun h'=>h x rfl (by rw [h'])
   unfold Fr.put
   by_cases hx:x<N<;>by_cases hy:y<N<;>simp only [if_pos,if_neg,hx,hy,not_false_eq_true]
   funext t
   by_cases h1:t=y
   ·subst h1
    rw [if_pos rfl,if_neg hne,if_pos rfl]
   ·rw [if_neg h1]
    by_cases h2:t=x
    ·rw [if_pos h2,if_pos h2]
    ·rw [if_neg h2,if_neg h2,if_neg h1]
theorem zbD (fr:Fr) {d:Option Tmp} {t:Nat} (h:∀x,d=some x->t≠x) (r:AV):fr.put N d r t=fr t:=by
 cases d with
 | none=>rfl
 | some x =>
  simp only [Fr.put]
  split
  ·simp only [if_neg (h x rfl)]
  ·rfl
theorem zlN (H:zaa) {a b:Option (Nat×Blk)} (h:∀x c,a=some (x,c)->∀y d,b=some (y,d)->x≠y):(H.patch a).patch b=(H.patch b).patch a:=by
 cases a with
 | none=>rfl
 | some p =>
  cases b with
  | none=>rfl
  | some q =>
   obtain ⟨x,c⟩:=p
   obtain ⟨y,d⟩:=q
   have hne:=h x c rfl y d rfl
   funext t
   show ((H.set x c).set y d) t=((H.set y d).set x c) t
   unfold zaa.set
   by_cases h1:t=y
   ·subst h1
    rw [if_pos rfl,if_neg (Ne.symm hne),if_pos rfl]
   ·rw [if_neg h1]
    by_cases h2:t=x
    ·rw [if_pos h2,if_pos h2]
    ·rw [if_neg h2,if_neg h2,if_neg h1]
theorem zfg {j:Nat} {oj:Oper} (hoj:ops[j]?=some oj) (fr:Fr) (r:AV) (k:Nat):still ops (fr.put N oj.dst r) k=still ops fr k:=by
 unfold still
 cases hk:ops[k]? with
 | none=>rfl
 | some o =>
  simp only
  split
  ·rfl
  ·rfl
  ·rename_i t s hop
   by_cases ha:(ops.toList.all fun o'=>o'.dst != some s)=true
   ·have hm:oj∈ops.toList:=by
     obtain ⟨h1,h2⟩:=Array.getElem?_eq_some_iff.1 hoj
     rw [←h2]
     simp
    have hne:=List.all_eq_true.1 ha oj hm
    rw [zbD fr (fun x hx e=>by subst e;rw [hx] at hne;simp at hne) r]
   ·rw [show (ops.toList.all fun o'=>o'.dst != some s)=false by simpa using ha,Bool.and_false,Bool.and_false]
  ·rfl
theorem zhP {i:Nat} {o:Oper} {K K':Fr->zaa->Nat->Prop} {fr fr':Fr} {H:zaa} {g:Nat} (hfr:∀t,t∈o.looksAt ops->fr t=fr' t) (hs:∀k,still ops fr k=still ops fr' k) (hK:∀r H g,K (fr.put N o.dst r) H g->K' (fr'.put N o.dst r) H g)
  (h:zbs P N (some g0) g0 ops i o K fr H g):zbs P N (some g0) g0 ops i o K' fr' H g:=by
 have hx:∀x,x∈o.op.operands->fr.ev N x=fr'.ev N x:=fun x hx=>zj0 fun t ht=>hfr t (ziy (ht▸hx))
 have hp:zfe ops fr i=zfe ops fr' i:=by
  unfold zfe
  simp only [hs]
 have key:zhk P N g0 ops i o K fr H g->zhk P N g0 ops i o K' fr' H g:=by
  intro h
  unfold zhk at h ⊢
  refine ⟨hp▸h.1,?_⟩
  replace h:=h.2
  split at h
  ·rename_i f args hco
   obtain ⟨ts,hop⟩:=zgV hco
   rw [hop] at hx
   have h1:fr.ev N f=fr'.ev N f:=hx f (by simp [Op.operands,Call.operands])
   have h2:args.toList.map (fr.ev N)=args.toList.map (fr'.ev N):=zd0 fun x hx'=>hx x (by simp only [Op.operands,Call.operands];exact Array.mem_append.2 (.inr hx'))
   rw [h1,h2] at h
   try simp only [hco]
   split at h
   ·rename_i k first cap ht
    try simp only [ht]
    exact h.mono fun _ _ _ b=>hK _ _ _ b
   ·rename_i ht
    try simp only [ht]
    obtain ⟨q,M,r,M',a,b,c,d⟩:=h
    exact ⟨q,M,r,M',a,b,c,hK _ _ _ d⟩
  ·rename_i hco
   try simp only [hco]
   obtain ⟨r,wr,a,b⟩:=h
   exact ⟨r,wr,by rw [←zkw hx];exact a,hK _ _ _ b⟩
 rcases zba.1 h with ⟨r,wr,a,b⟩ | h
 ·exact zba.2 (.inl ⟨r,wr,a.congr hfr,hK _ _ _ b⟩)
 ·refine zba.2 (.inr ?_)
  unfold zeS at h ⊢
  cases hg:o.guard with
  | none=>simp only [hg] at h ⊢;exact key h
  | some q =>
   obtain ⟨j,want⟩:=q
   simp only [hg] at h ⊢
   have hgd:gd ops N fr j=gd ops N fr' j:=by
    unfold gd
    cases hd:(ops[j]?).bind (·.dst) with
    | none=>rfl
    | some d =>
     simp only
     rw [zj0 (fr:=fr) (fr':=fr') fun t ht=>hfr t ?_]
     injection ht with ht
     subst ht
     unfold Oper.looksAt
     exact List.mem_append.2 (.inr (by simp [hg,hd]))
   exact ⟨hgd▸h.1,key h.2⟩
theorem znp {j:Nat} {oj:Oper} (hoj:ops[j]?=some oj) {fr:Fr} (hs:still ops fr j=true):∃e:Option AV,∀(K:Fr->zaa->Nat->Prop) (H:zaa) (g:Nat),zbs P N (some g0) g0 ops j oj K fr H g↔∃r,e=some r/\K (fr.put N oj.dst r) H g:=by
 have key:∃e:Option AV,zbz oj.op=none/\zjS oj.op=none/\∀H,zat P (g0+j) oj.op (fr.ev N) H=e.map fun r=>(r,none):=by
  unfold still at hs
  rw [hoj] at hs
  simp only at hs
  split at hs
  ·rename_i x hop
   exact ⟨some (fr.ev N x),by rw [hop];rfl,by rw [hop];rfl,fun H=>by rw [hop];rfl⟩
  ·rename_i x hop
   exact ⟨some (fr.ev N x),by rw [hop];rfl,by rw [hop];rfl,fun H=>by rw [hop];rfl⟩
  ·rename_i t s hop
   simp only [Bool.and_eq_true] at hs
   split at hs
   ·rename_i cs hep
    by_cases hN:s<N
    ·refine ⟨zdZ P t cs 0,by rw [hop];rfl,by rw [hop];rfl,fun H=>?_⟩
     rw [hop]
     simp only [zat,Fr.ev,if_pos hN,hep]
    ·refine ⟨none,by rw [hop];rfl,by rw [hop];rfl,fun H=>?_⟩
     rw [hop]
     simp only [zat,Fr.ev,if_neg hN]
     rfl
   ·exact absurd hs.1 (by simp)
  ·cases hs
 obtain ⟨e,k1,k2,k3⟩:=key
 have op:∃e':Option AV,∀(K:Fr->zaa->Nat->Prop) (H:zaa) (g:Nat),opQ P N (some g0) g0 ops j oj K fr H g↔∃r,e'=some r/\K (fr.put N oj.dst r) H g:=by
  by_cases ho:old (some g0) ops j oj.op (fr.ev N)=true
  ·refine ⟨e,fun K H g=>?_⟩
   unfold opQ
   simp only [k1,if_pos ho,k3]
   cases e with
   | none=>simp
   | some r =>
    simp only [Option.map_some,Option.some.injEq,exists_eq_left',reduceCtorEq,false_and,or_false]
    rfl
  ·by_cases hp:zfe ops fr j=true
   ·refine ⟨e,fun K H g=>?_⟩
    unfold opQ
    simp only [k1,if_neg ho,k3]
    constructor
    ·rintro ⟨_,r,wr,a,b⟩
     cases e with
     | none=>cases a
     | some r' =>
      injection a with a
      injection a with a1 a2
      subst a1 a2
      exact ⟨_,rfl,b⟩
    ·rintro ⟨r,rfl,b⟩
     exact ⟨hp,r,none,rfl,b⟩
   ·refine ⟨none,fun K H g=>?_⟩
    unfold opQ
    simp only [k1,if_neg ho]
    constructor
    ·rintro ⟨a,_⟩;exact (hp a).elim
    ·rintro ⟨r,a,_⟩;cases a
 obtain ⟨e',op⟩:=op
 cases hg:oj.guard with
 | none=>exact ⟨e',fun K H g=>by unfold zbs;simp only [hg];exact op K H g⟩
 | some q =>
  obtain ⟨k,want⟩:=q
  cases hb:gd ops N fr k with
  | none =>
   refine ⟨none,fun K H g=>?_⟩
   unfold zbs
   simp only [hg,hb]
   exact ⟨fun h=>h.elim,fun ⟨r,a,_⟩=>by cases a⟩
  | some b =>
   by_cases hw:b=some want
   ·exact ⟨e',fun K H g=>by unfold zbs;simp only [hg,hb,if_pos hw];exact op K H g⟩
   ·refine ⟨some (.tup []),fun K H g=>?_⟩
    unfold zbs
    simp only [hg,hb,if_neg hw]
    exact ⟨fun h=>⟨_,rfl,h⟩,fun ⟨r,a,h⟩=>by injection a with a;subst a;exact h⟩
theorem zow {i:Nat} {o:Oper} {K:Fr->zaa->Nat->Prop} {fr:Fr} {H:zaa} {g:Nat} (h:zbs P N (some g0) g0 ops i o K fr H g):∃r H' g',K (fr.put N o.dst r) H' g':=by
 rcases zba.1 h with ⟨r,wr,_,h⟩ | h
 ·exact ⟨r,_,_,h⟩
 ·have key:zhk P N g0 ops i o K fr H g->∃r H' g',K (fr.put N o.dst r) H' g':=fun h=>by
   unfold zhk at h
   replace h:=h.2
   split at h
   ·split at h
    ·exact h.2.1
    ·obtain ⟨_,_,r,_,_,_,_,h⟩:=h;exact ⟨r,_,_,h⟩
   ·obtain ⟨r,wr,_,h⟩:=h;exact ⟨r,_,_,h⟩
  unfold zeS at h
  split at h
  ·exact key h
  ·exact key h.2
theorem zqo {i j:Nat} {oi oj:Oper} (hoi:ops[i]?=some oi) (hoj:ops[j]?=some oj) (hap:oi.apart ops oj=true)
  {K:Fr->zaa->Nat->Prop} {fr:Fr} {H:zaa} {g:Nat} (hs:still ops fr i=true\/still ops fr j=true) (h:zbs P N (some g0) g0 ops j oj (zbs P N (some g0) g0 ops i oi K) fr H g) :
  zbs P N (some g0) g0 ops i oi (zbs P N (some g0) g0 ops j oj K) fr H g:=by
 obtain ⟨a1,a2,a3⟩:=Oper.apart_spec hap
 have mvi:∀r:AV,∀t,t∈oi.looksAt ops->(fr.put N oj.dst r) t=fr t:=fun r t ht=>zbD fr (fun x hx e=>a3 x hx (e▸ht)) r
 have mvj:∀(r:AV),∀t,t∈oj.looksAt ops->(fr.put N oi.dst r) t=fr t:=fun r t ht=>zbD fr (fun x hx e=>a1 x hx (e▸ht)) r
 rcases hs with hs | hs
 ·obtain ⟨e,he⟩:=znp (P:=P) (N:=N) (g0:=g0) hoi hs
  have back:∀rj (H:zaa) (g:Nat),zbs P N (some g0) g0 ops i oi K (fr.put N oj.dst rj) H g->∃r,e=some r/\K ((fr.put N oi.dst r).put N oj.dst rj) H g:=fun rj H g hq =>
   (he (fun f H g=>K (f.put N oj.dst rj) H g) H g).1 (zhP (mvi rj) (fun k=>zfg hoj fr rj k) (fun r H g hk=>by rw [put_comm fr a2];exact hk) hq)
  obtain ⟨rj,H1,g1,hl⟩:=zow h
  obtain ⟨r,e1,_⟩:=back rj H1 g1 hl
  refine (he _ H g).2 ⟨r,e1,zhP (fun t ht=>(mvj r t ht).symm) (fun k=>(zfg hoi fr r k).symm) (fun rj' H' g' hk=>?_) h⟩
  obtain ⟨r',e2,hk'⟩:=back rj' H' g' hk
  rw [e1] at e2
  injection e2 with e2
  subst e2
  exact hk'
 ·obtain ⟨e,he⟩:=znp (P:=P) (N:=N) (g0:=g0) hoj hs
  obtain ⟨r,e1,hk⟩:=(he _ H g).1 h
  refine zhP (K:=K) (mvi r) (fun k=>zfg hoj fr r k) (fun ri H' g' hk'=>?_) hk
  refine zhP (K:=fun f H g=>K (f.put N oi.dst ri) H g) (fun t ht=>(mvj ri t ht).symm) (fun k=>(zfg hoi fr ri k).symm) (fun rj H2 g2 hk2=>?_) ((he _ H' g').2 ⟨r,e1,hk'⟩)
  rw [←put_comm fr a2] at hk2
  exact hk2
theorem zgb {fr:Fr} {a b:Nat} (hab:a≠b) (hb:b<ops.size) (h1:behind ops ops.size a b=false) (h2:behind ops ops.size b a=false) (hs:still ops fr b=false):zfe ops fr a≠true:=fun h3=>by
 have:=List.all_eq_true.1 h3 b (List.mem_range.2 hb)
 simp [h1,h2,Ne.symm hab,hs] at this
theorem swap {i j:Nat} (hij:i≠j) (his:i<ops.size) (hjs:j<ops.size) {oi oj:Oper} (hap:oi.apart ops oj=true) (hk:zgQ (zlp ops i oi.op) (zlp ops j oj.op)=true) (hbi:behind ops ops.size i j=false) (hbj:behind ops ops.size j i=false)
  {K:Fr->zaa->Nat->Prop} {fr:Fr} (qj:ops[j]?=some oj) (hsi:still ops fr i=false) (hsj:still ops fr j=false) {H:zaa} {g:Nat} (h:zbs P N (some g0) g0 ops j oj (zbs P N (some g0) g0 ops i oi K) fr H g) :
  zbs P N (some g0) g0 ops i oi (zbs P N (some g0) g0 ops j oj K) fr H g:=by
 obtain ⟨a1,a2,a3⟩:=Oper.apart_spec hap
 obtain ⟨rj,wrj,hoj,h⟩:=(zba.1 h).resolve_right fun h=>zgb (Ne.symm hij) his hbj hbi hsi h.piv
 obtain ⟨ri,wri,hoi,hK⟩:=(zba.1 h).resolve_right fun h=>zgb hij hjs hbi hbj ((zfg qj fr rj j).trans hsj) h.piv
 have hoi':za7 P N g0 ops i oi fr (H.patch wrj) ri wri:=hoi.congr fun t ht=>zbD fr (fun x hx e=>a3 x hx (e▸ht)) rj
 obtain ⟨rdj,fj,lj⟩:=hoj.foot
 obtain ⟨rdi,fi,li⟩:=hoi'.foot
 obtain ⟨D1,D3,D2⟩:=zqn hij hk hbi hbj fj fi
 refine zba.2 (.inl ⟨ri,wri,li H (fun id hid=>(zhN H (D1 id hid)).symm),zba.2 (.inl ⟨rj,wrj,?_,?_⟩)⟩)
 ·exact (lj (H.patch wri) (fun id hid=>zhN H (D3 id hid))).congr fun t ht=>(zbD fr (fun x hx e=>a1 x hx (e▸ht)) ri).symm
 ·rw [put_comm fr a2,zlN H (fun x c hx y d hy=>Ne.symm (D2 y d hy x c hx))]
  exact hK
theorem za7.addr {i:Nat} {o:Oper} {fr:Fr} {H:zaa} {r:AV} {wr:Option (Nat×Blk)} {t:Nat} (ha:addrOf o.op=some t) (h:za7 P N g0 ops i o fr H r wr) :
  (wr=none/\∀H',za7 P N g0 ops i o fr H' r wr)\/∃b off,fr.ev N (.tmp t)=.ptr b off/\(∀id c,wr=some (id,c)->id=b)/\∀H':zaa,H' b=H b->za7 P N g0 ops i o fr H' r wr:=by
 have key:zez P N g0 ops i o fr H r wr->(wr=none/\∀H',zez P N g0 ops i o fr H' r wr)\/∃b off,fr.ev N (.tmp t)=.ptr b off/\(∀id c,wr=some (id,c)->id=b)/\∀H':zaa,H' b=H b->zez P N g0 ops i o fr H' r wr:=by
  intro h
  unfold zez at h ⊢
  unfold addrOf at ha
  split at ha
  ·rename_i ty' t' hop
   injection ha with ha
   subst ha
   simp only [hop,zbz] at h ⊢
   obtain ⟨ho,he⟩:=h
   simp only [zat] at he ⊢
   cases hx:fr.ev N (.tmp t') with
   | ptr b off =>
    simp only [hx] at he ⊢
    refine .inr ⟨b,off,rfl,fun id c hw=>?_,fun H' hH=>⟨ho,by rw [hH];exact he⟩⟩
    split at he
    ·obtain ⟨_,_,he⟩:=Option.map_eq_some_iff.1 he
     injection he with _ he
     rw [hw] at he
     cases he
    ·cases he
   | ep cs =>
    simp only [hx] at he ⊢
    refine .inl ⟨?_,fun H'=>⟨ho,he⟩⟩
    obtain ⟨_,_,he⟩:=Option.map_eq_some_iff.1 he
    injection he with _ he
    exact he.symm
   | _=>simp only [hx] at he;cases he
  ·rename_i ty' t' y' hop
   injection ha with ha
   subst ha
   simp only [hop,zbz] at h ⊢
   obtain ⟨ho,he⟩:=h
   simp only [zat] at he ⊢
   cases hx:fr.ev N (.tmp t') with
   | ptr b off =>
    simp only [hx] at he ⊢
    refine .inr ⟨b,off,rfl,fun id c hw=>?_,fun H' hH=>⟨ho,by rw [hH];exact he⟩⟩
    split at he
    ·obtain ⟨_,_,he⟩:=Option.bind_eq_some_iff.1 he
     split at he
     ·injection he with he
      injection he with _ he
      rw [hw] at he
      injection he with he
      injection he with he _
      exact he.symm
     ·cases he
    ·cases he
   | _=>simp only [hx] at he;cases he
  ·cases ha
 unfold za7 at h ⊢
 cases hg:o.guard with
 | none=>simp only [hg] at h ⊢;exact key h
 | some q =>
  obtain ⟨j,want⟩:=q
  simp only [hg] at h ⊢
  cases hb:gd ops N fr j with
  | none=>simp [hb] at h
  | some b =>
   simp only [hb] at h ⊢
   by_cases hw:b=some want
   ·simp only [if_pos hw] at h ⊢;exact key h
   ·simp only [if_neg hw] at h ⊢;exact .inl ⟨h.2,fun _=>h⟩
theorem zjD {fr:Fr} {t b off:Nat} (h:fr.ev N (.tmp t)=.ptr b off):fr t=.ptr b off:=by
 simp only [Fr.ev] at h
 split at h
 ·exact h
 ·cases h
theorem ztt {i j s t:Nat} (hij:i≠j) (his:i<ops.size) (hjs:j<ops.size) {oi oj:Oper} (hap:oi.apart ops oj=true) (hbi:behind ops ops.size i j=false) (hbj:behind ops ops.size j i=false)
  {K:Fr->zaa->Nat->Prop} {fr:Fr} (qj:ops[j]?=some oj) (hsi:still ops fr i=false) (hsj:still ops fr j=false) {H:zaa} {g:Nat} (hi:addrOf oi.op=some s) (hj:addrOf oj.op=some t) (hsep:zkf (fr s) (fr t)) (h:zbs P N (some g0) g0 ops j oj (zbs P N (some g0) g0 ops i oi K) fr H g) :
  zbs P N (some g0) g0 ops i oi (zbs P N (some g0) g0 ops j oj K) fr H g:=by
 obtain ⟨a1,a2,a3⟩:=Oper.apart_spec hap
 obtain ⟨rj,wrj,hoj,h⟩:=(zba.1 h).resolve_right fun h=>zgb (Ne.symm hij) his hbj hbi hsi h.piv
 obtain ⟨ri,wri,hoi,hK⟩:=(zba.1 h).resolve_right fun h=>zgb hij hjs hbi hbj ((zfg qj fr rj j).trans hsj) h.piv
 have hoi':za7 P N g0 ops i oi fr (H.patch wrj) ri wri:=hoi.congr fun t ht=>zbD fr (fun x hx e=>a3 x hx (e▸ht)) rj
 have fi:=hoi'.addr hi
 have fj:=hoj.addr hj
 have ci:za7 P N g0 ops i oi fr H ri wri:=by
  rcases fi with ⟨_,l⟩ | ⟨b,off,hb,_,l⟩
  ·exact l H
  ·refine l H (zhN H fun id c hw e=>?_).symm
   rcases fj with ⟨hn,_⟩ | ⟨b',off',hb',hw',_⟩
   ·rw [hn] at hw;cases hw
   ·rw [zjD hb,zjD hb'] at hsep
    exact hsep (e.trans (hw' id c hw))
 have cj:za7 P N g0 ops j oj fr (H.patch wri) rj wrj:=by
  rcases fj with ⟨_,l⟩ | ⟨b,off,hb,_,l⟩
  ·exact l _
  ·refine l _ (zhN H fun id c hw e=>?_)
   rcases fi with ⟨hn,_⟩ | ⟨b',off',hb',hw',_⟩
   ·rw [hn] at hw;cases hw
   ·rw [zjD hb,zjD hb'] at hsep
    exact hsep ((hw' id c hw).symm.trans e.symm)
 have D2:∀x c,wrj=some (x,c)->∀y d,wri=some (y,d)->x≠y:=fun x c hx y d hy e=>by
  rcases fi with ⟨hn,_⟩ | ⟨b,off,hb,hw,_⟩
  ·rw [hn] at hy;cases hy
  ·rcases fj with ⟨hn,_⟩ | ⟨b',off',hb',hw',_⟩
   ·rw [hn] at hx;cases hx
   ·rw [zjD hb,zjD hb'] at hsep
    exact hsep ((hw y d hy).symm.trans (e.symm.trans (hw' x c hx)))
 refine zba.2 (.inl ⟨ri,wri,ci,zba.2 (.inl ⟨rj,wrj,?_,?_⟩)⟩)
 ·exact cj.congr fun t ht=>(zbD fr (fun x hx e=>a1 x hx (e▸ht)) ri).symm
 ·rw [put_comm fr a2,zlN H (fun x c hx y d hy=>Ne.symm (D2 y d hy x c hx))]
  exact hK
theorem zrt {i j:Nat} {oi oj:Oper} (hi:ops[i]?=some oi) (hj:ops[j]?=some oj) (h:zvV ops i j=true):∃t m k,oi.op=.mapEntry t (.tmp m) (.tmp k)/\oj.op=.lookup t (.tmp m) (.tmp k) false/\oi.guard=none/\oj.guard=none:=by
 unfold zvV at h
 simp only [hi,hj] at h
 split at h
 ·rename_i t m k t' m' k' h1 h2 h3 h4
  simp only [Bool.and_eq_true,beq_iff_eq] at h
  obtain ⟨⟨rfl,rfl⟩,rfl⟩:=h
  exact ⟨t,m,k,h1,h2,h3,h4⟩
 ·cases h
theorem zru {i j:Nat} (hij:i≠j) (his:i<ops.size) (hjs:j<ops.size) {oi oj:Oper} (hap:oi.apart ops oj=true) (hbi:behind ops ops.size i j=false) (hbj:behind ops ops.size j i=false) {t m k:Nat}
  (e1:oi.op=.mapEntry t (.tmp m) (.tmp k)) (e2:oj.op=.lookup t (.tmp m) (.tmp k) false) (g1:oi.guard=none) (g2:oj.guard=none)
  {K:Fr->zaa->Nat->Prop} {fr:Fr} (qj:ops[j]?=some oj) (hsi:still ops fr i=false) (hsj:still ops fr j=false) {H:zaa} {g:Nat} (h:zbs P N (some g0) g0 ops j oj (zbs P N (some g0) g0 ops i oi K) fr H g) :
  zbs P N (some g0) g0 ops i oi (zbs P N (some g0) g0 ops j oj K) fr H g:=by
 obtain ⟨a1,a2,a3⟩:=Oper.apart_spec hap
 obtain ⟨rj,wrj,hoj,h⟩:=(zba.1 h).resolve_right fun h=>zgb (Ne.symm hij) his hbj hbi hsi h.piv
 obtain ⟨ri,wri,hoi,hK⟩:=(zba.1 h).resolve_right fun h=>zgb hij hjs hbi hbj ((zfg qj fr rj j).trans hsj) h.piv
 have hoi':za7 P N g0 ops i oi fr (H.patch wrj) ri wri:=hoi.congr fun t ht=>zbD fr (fun x hx e=>a3 x hx (e▸ht)) rj
 have uj:∀(H:zaa) r wr,za7 P N g0 ops j oj fr H r wr↔(old (some g0) ops j oj.op (fr.ev N)=true/\zat P (g0+j) oj.op (fr.ev N) H=some (r,wr)):=fun H r wr=>by
  unfold za7 zez
  simp only [g2,e2,zbz]
 have ui:∀(H:zaa) r wr,za7 P N g0 ops i oi fr H r wr↔(old (some g0) ops i oi.op (fr.ev N)=true/\zat P (g0+i) oi.op (fr.ev N) H=some (r,wr)):=fun H r wr=>by
  unfold za7 zez
  simp only [g1,e1,zbz]
 obtain ⟨oj1,oj2⟩:=(uj _ _ _).1 hoj
 rw [e2] at oj2
 simp only [zat,Bool.false_eq_true,if_false] at oj2
 obtain ⟨q,hq,hjr⟩:=Option.map_eq_some_iff.1 oj2
 injection hjr with hj1 hj2
 subst hj2
 have hi2:zat P (g0+i) oi.op (fr.ev N) H=some (ri,wri):=((ui _ _ _).1 hoi').2
 have hi3:=hi2
 rw [e1] at hi3
 simp only [zat,hq,Option.map_some] at hi3
 refine zba.2 (.inl ⟨ri,wri,(ui _ _ _).2 ⟨((ui _ _ _).1 hoi').1,hi2⟩,zba.2 (.inl ⟨rj,none,?_,?_⟩)⟩)
 ·refine za7.congr (fr:=fr) (fun t ht=>(zbD fr (fun x hx e=>a1 x hx (e▸ht)) ri).symm) ((uj _ _ _).2 ⟨oj1,?_⟩)
  rw [e2]
  simp only [zat,Bool.false_eq_true,if_false]
  cases hf:zex q.2.1 q.2.2.1 with
  | some x =>
   simp only [hf] at hi3
   injection hi3 with hi3
   injection hi3 with _ hi3
   have hp:(H.patch wri) q.1=H q.1:=by rw [←hi3,zuR hq];exact zhM H _ _
   rw [zjf hp hq,Option.map_some,hj1]
  | none =>
   simp only [hf] at hi3
   injection hi3 with hi3
   injection hi3 with _ hi3
   have hp:(H.patch wri) q.1=some (.obj none (zag (q.2.1++[(q.2.2.1,q.2.2.2)]))):=by rw [←hi3];exact zhM H _ _
   rw [ztr hq hf hp,Option.map_some,←hj1]
   simp [zpb,hf,zqf hf]
 ·rw [put_comm fr a2]
  exact hK
theorem zlO {lim:Option Nat} {i:Nat} {o:Oper} {K K':Fr->zaa->Nat->Prop} (hK:∀fr H g,K fr H g->K' fr H g) {fr:Fr} {H:zaa} {g:Nat} (hl:lim=some g0) (h:zbs P N lim g0 ops i o K fr H g):zbs P N lim g0 ops i o K' fr H g:=by
 subst hl
 rcases zba.1 h with ⟨r,wr,h1,h2⟩ | h
 ·exact zba.2 (.inl ⟨r,wr,h1,hK _ _ _ h2⟩)
 ·exact zba.2 (.inr (h.mono hK))
theorem zox {i:Nat} {o:Oper} {fr:Fr} {H:zaa} {g:Nat} (h:zbs P N (some g0) g0 ops i o (fun _ _ _=>False) fr H g):False:=by
 rcases zba.1 h with ⟨r,wr,h1,h2⟩ | h
 ·exact h2
 ·have key:∀{i:Nat} {o:Oper} {fr:Fr} {H:zaa} {g:Nat},zhk P N g0 ops i o (fun _ _ _=>False) fr H g->False:=fun {i o fr H g} h=>by
   unfold zhk at h
   replace h:=h.2
   split at h
   ·split at h
    ·obtain ⟨_,_,_,h⟩:=h.2.1;exact h
    ·obtain ⟨_,_,_,_,_,_,_,h⟩:=h;exact h
   ·obtain ⟨_,_,_,h⟩:=h;exact h
  unfold zeS at h
  split at h
  ·exact key h
  ·exact key h.2
def zrv (P:Program) (N g0:Nat) (ops:Array Oper) (K:Fr->zaa->Nat->Prop):List Nat->Fr->zaa->Nat->Prop
 | []=>K
 | i::r=>fun fr H g=>match ops[i]? with
  | some o=>zbs P N (some g0) g0 ops i o (zrv P N g0 ops K r) fr H g
  | none=>False
theorem zjE {K:Fr->zaa->Nat->Prop}:∀(n i:Nat),ops.size=i+n->∀(fr:Fr) (H:zaa) (g:Nat),zaL P N (some g0) g0 ops K i (ops.toList.drop i) fr H g->zrv P N g0 ops K (List.range' i n) fr H g
 | 0,i,hn,fr,H,g,h=>by
  rw [List.drop_eq_nil_of_le (by simp;omega)] at h
  exact h
 | n+1,i,hn,fr,H,g,h=>by
  have hi:i<ops.toList.length:=by simp;omega
  rw [List.drop_eq_getElem_cons hi] at h
  simp only [zaL] at h
  have ho:ops[i]?=some ops.toList[i]:=by simp at hi;simp [hi]
  rw [List.range'_succ]
  simp only [zrv,ho]
  exact zlO (fun fr H g h=>zjE n (i+1) (by omega) fr H g h) rfl h
theorem zgx {i:Nat} {o:Oper} {K:Fr->zaa->Nat->Prop} {fr:Fr} {H:zaa} {g:Nat} (h:zbs P N (some g0) g0 ops i o K fr H g):∃r H' g',K (fr.put N o.dst r) H' g':=by
 rcases zba.1 h with ⟨r,wr,_,h⟩ | h
 ·exact ⟨r,_,_,h⟩
 ·have key:zhk P N g0 ops i o K fr H g->∃r H' g',K (fr.put N o.dst r) H' g':=fun h=>by
   unfold zhk at h
   replace h:=h.2
   split at h
   ·split at h
    ·exact h.2.1
    ·obtain ⟨_,_,r,_,_,_,_,h⟩:=h;exact ⟨r,_,_,h⟩
   ·obtain ⟨r,wr,_,h⟩:=h;exact ⟨r,_,_,h⟩
  unfold zeS at h
  split at h
  ·exact key h
  ·exact key h.2
theorem zky {K:Fr->zaa->Nat->Prop}:∀(l:List Nat) (fr:Fr) (H:zaa) (g:Nat),zrv P N g0 ops K l fr H g->∃fr' H' g',K fr' H' g'/\∀t,(∀k o,k∈l->ops[k]?=some o->o.dst≠some t)->fr' t=fr t
 | [],fr,H,g,h=>⟨fr,H,g,h,fun _ _=>rfl⟩
 | i::l,fr,H,g,h=>by
  simp only [zrv] at h
  cases ho:ops[i]? with
  | none=>simp [ho] at h
  | some o =>
   simp only [ho] at h
   obtain ⟨r,H1,g1,h1⟩:=zgx h
   obtain ⟨fr',H',g',h2,h3⟩:=zky l _ _ _ h1
   refine ⟨fr',H',g',h2,fun t ht=>?_⟩
   rw [h3 t fun k o' hk hk'=>ht k o' (by simp [hk]) hk']
   refine zbD fr (fun x hx e=>?_) r
   subst e
   exact ht i o (by simp) ho hx
theorem zcK {t n k:Nat} {o:Oper} (h:early ops t n=true) (hk:ops[k]?=some o) (hn:n<=k):o.dst≠some t:=fun e=>by
 have:=List.all_eq_true.1 h k (List.mem_range.2 (Array.getElem?_eq_some_iff.1 hk).1)
 simp only [hk,e,bne_self_eq_false,Bool.false_or,decide_eq_true_eq] at this
 omega
theorem ztu {i j:Nat} {oi oj:Oper} {q:Nat×Nat} (hi:ops[i]?=some oi) (hj:ops[j]?=some oj) (h:exc ops i j=some q):addrOf oi.op=some q.1/\addrOf oj.op=some q.2/\early ops q.1 i=true/\early ops q.2 j=true:=by
 unfold exc at h
 simp only [hi,hj] at h
 split at h
 ·rename_i s t h1 h2
  split at h
  ·rename_i hc
   injection h with h
   subst h
   simp only [Bool.and_eq_true] at hc
   exact ⟨h1,h2,hc.1,hc.2⟩
  ·cases h
 ·cases h
theorem zlP {o:Oper} {t:Nat} (h:addrOf o.op=some t):t∈o.looksAt ops:=by
 refine ziy ?_
 unfold addrOf at h
 split at h
 ·rename_i hop
  injection h with h
  subst h
  rw [hop]
  simp [Op.operands]
 ·rename_i hop
  injection h with h
  subst h
  rw [hop]
  simp [Op.operands]
 ·cases h
theorem zlQ {i s:Nat} {oi:Oper} (hi:ops[i]?=some oi) (h:znd ops i=some s):∃k args,zbz oi.op=some (.func k,args)/\args[0]?=some (.tmp s)/\quiet ops i=false:=by
 unfold znd at h
 simp only [hi] at h
 split at h
 ·rename_i k args hc
  split at h
  ·rename_i s' ha
   split at h
   ·rename_i hq
    injection h with h
    subst h
    simp only [Bool.and_eq_true,Bool.not_eq_true'] at hq
    exact ⟨k,args,hc,ha,hq.1⟩
   ·cases h
  ·cases h
 ·cases h
theorem znq {i j:Nat} {oi oj:Oper} {q:Nat×Nat×TypeId} (hi:ops[i]?=some oi) (hj:ops[j]?=some oj) (h:tame ops i j=some q):q.1∈oi.looksAt ops/\oj.op=.load q.2.2 (.tmp q.2.1)/\early ops q.1 i=true/\early ops q.2.1 j=true:=by
 unfold tame at h
 simp only [hj] at h
 split at h
 ·rename_i s y hs hy
  injection hy with hy
  subst hy
  split at h
  ·rename_i ty t hop
   split at h
   ·rename_i hc
    injection h with h
    subst h
    simp only [Bool.and_eq_true] at hc
    obtain ⟨k,args,hco,ha,_⟩:=zlQ hi hs
    obtain ⟨ts,hcl⟩:=zgV hco
    refine ⟨ziy ?_,hop,hc.1,hc.2⟩
    rw [hcl]
    simp only [Op.operands,Call.operands]
    exact Array.mem_append.2 (.inr (Array.mem_of_getElem? ha))
   ·cases h
  ·cases h
 ·cases h
theorem zrw {i j:Nat} {q:Nat×Nat×TypeId} (h:tame ops i j=some q):znd ops i=some q.1:=by
 unfold tame at h
 split at h
 ·rename_i s y hs hy
  split at h
  ·split at h
   ·injection h with h
    subst h
    exact hs
   ·cases h
  ·cases h
 ·cases h
theorem getElem?_set_drop {cs:List AV} {d off:Nat} {x:AV} (h:d<off):(cs.set d x).drop off=cs.drop off:=by
 rw [List.drop_set_of_lt h]
theorem ztv {ty:TypeId} {cs:List AV} {d off:Nat} {x:AV} (h:d<off\/(off<d/\zax P ty=none)):zdZ P ty (cs.set d x) off=zdZ P ty cs off:=by
 unfold zdZ
 rcases h with h | ⟨h,hn⟩
 ·rw [getElem?_set_drop h,List.length_set,List.getElem?_set_ne (by omega)]
 ·simp only [hn]
  rw [List.getElem?_set_ne (by omega)]
theorem za7.load {j:Nat} {o:Oper} {fr:Fr} {H:zaa} {r:AV} {wr:Option (Nat×Blk)} {ty:TypeId} {t:Nat} (hop:o.op=.load ty (.tmp t)) (h:za7 P N g0 ops j o fr H r wr) :
  wr=none/\((∀H',za7 P N g0 ops j o fr H' r none)\/∃b off cs,fr t=.ptr b off/\H b=some (.cells cs)/\zdZ P ty cs off=some r/\zml g0 ops j b/\∀(H':zaa) cs',H' b=some (.cells cs')->zdZ P ty cs' off=some r->za7 P N g0 ops j o fr H' r none):=by
 have key:zez P N g0 ops j o fr H r wr->wr=none/\((∀H',zez P N g0 ops j o fr H' r none)\/∃b off cs,fr t=.ptr b off/\H b=some (.cells cs)/\zdZ P ty cs off=some r/\zml g0 ops j b/\∀(H':zaa) cs',H' b=some (.cells cs')->zdZ P ty cs' off=some r->zez P N g0 ops j o fr H' r none):=by
  intro h
  unfold zez at h ⊢
  simp only [hop,zbz] at h ⊢
  obtain ⟨ho,he⟩:=h
  simp only [zat] at he ⊢
  cases hx:fr.ev N (.tmp t) with
  | ptr b off =>
   simp only [hx] at he ⊢
   split at he
   ·rename_i cs hcs
    obtain ⟨r',hr,he⟩:=Option.map_eq_some_iff.1 he
    injection he with he1 he2
    subst he1
    have hok:zml g0 ops j b:=by
     simp only [old,hx] at ho
     exact zhm ho
    exact ⟨he2.symm,.inr ⟨b,off,cs,zjD hx,hcs,hr,hok,fun H' cs' h1 h2=>⟨ho,by simp [h1,h2]⟩⟩⟩
   ·cases he
  | ep cs =>
   simp only [hx] at he ⊢
   obtain ⟨r',hr,he⟩:=Option.map_eq_some_iff.1 he
   injection he with he1 he2
   subst he1
   exact ⟨he2.symm,.inl fun H'=>⟨ho,by simp [hr]⟩⟩
  | _=>simp only [hx] at he;cases he
 unfold za7 at h ⊢
 cases hg:o.guard with
 | none=>simp only [hg] at h ⊢;exact key h
 | some q =>
  obtain ⟨k,want⟩:=q
  simp only [hg] at h ⊢
  cases hb:gd ops N fr k with
  | none=>simp [hb] at h
  | some b =>
   simp only [hb] at h ⊢
   by_cases hw:b=some want
   ·simp only [if_pos hw] at h ⊢;exact key h
   ·simp only [if_neg hw] at h ⊢;exact ⟨h.2,.inl fun _=>⟨h.1,trivial⟩⟩
theorem za7.tame {i s:Nat} {o:Oper} {fr:Fr} {H:zaa} {r:AV} {wr:Option (Nat×Blk)} (hoi:ops[i]?=some o) (ht:znd ops i=some s) (h:za7 P N g0 ops i o fr H r wr) :
  wr=none\/(∃b,wr=some (g0+i,b))\/∃id d cs x,fr s=.ptr id d/\H id=some (.cells cs)/\wr=some (id,.cells (cs.set d x)):=by
 obtain ⟨k0,args,hco,ha,hq⟩:=zlQ hoi ht
 have key:zez P N g0 ops i o fr H r wr->wr=none\/(∃b,wr=some (g0+i,b))\/∃id d cs x,fr s=.ptr id d/\H id=some (.cells cs)/\wr=some (id,.cells (cs.set d x)):=by
  intro h
  unfold zez at h
  simp only [hco,Fr.ev,tgt] at h
  rcases h with ⟨_,rfl⟩ | ⟨r',b,_,_,rfl⟩ | ⟨id,cs,ds,hm,_⟩ | ⟨id,d,cs,x,_,h0,hc,_,rfl⟩
  ·exact .inl rfl
  ·cases b with
   | none=>exact .inl rfl
   | some x=>exact .inr (.inl ⟨x,rfl⟩)
  ·simp [zp6,hq] at hm
  ·refine .inr (.inr ⟨id,d,cs,x,?_,hc,rfl⟩)
   simp only [List.nil_append,List.append_nil,List.getElem?_map] at h0
   rw [show args.toList[0]?=args[0]? from by simp,ha] at h0
   simp only [Option.map_some,Option.some.injEq] at h0
   exact zjD h0
 unfold za7 at h
 cases hg:o.guard with
 | none=>simp only [hg] at h;exact key h
 | some q =>
  obtain ⟨k,want⟩:=q
  simp only [hg] at h
  cases hb:gd ops N fr k with
  | none=>simp [hb] at h
  | some b =>
   simp only [hb] at h
   by_cases hw:b=some want
   ·simp only [if_pos hw] at h;exact key h
   ·simp only [if_neg hw] at h;exact .inl h.2
theorem zrx {i j:Nat} (hij:i≠j) (his:i<ops.size) (hjs:j<ops.size) {oi oj:Oper} (hap:oi.apart ops oj=true) (hbi:behind ops ops.size i j=false) (hbj:behind ops ops.size j i=false)
  {K:Fr->zaa->Nat->Prop} {fr:Fr} (qi:ops[i]?=some oi) (qj:ops[j]?=some oj) (hsi:still ops fr i=false) (hsj:still ops fr j=false) {H:zaa} {g:Nat} {q:Nat×Nat×TypeId} (ht:tame ops i j=some q) (hsep:zhZ P q.2.2 (fr q.1) (fr q.2.1)) (h:zbs P N (some g0) g0 ops j oj (zbs P N (some g0) g0 ops i oi K) fr H g) :
  zbs P N (some g0) g0 ops i oi (zbs P N (some g0) g0 ops j oj K) fr H g:=by
 obtain ⟨a1,a2,a3⟩:=Oper.apart_spec hap
 obtain ⟨_,hload,_,_⟩:=znq qi qj ht
 obtain ⟨rj,wrj,hoj,h⟩:=(zba.1 h).resolve_right fun h=>zgb (Ne.symm hij) his hbj hbi hsi h.piv
 obtain ⟨ri,wri,hoi,hK⟩:=(zba.1 h).resolve_right fun h=>zgb hij hjs hbi hbj ((zfg qj fr rj j).trans hsj) h.piv
 have hoi':za7 P N g0 ops i oi fr (H.patch wrj) ri wri:=hoi.congr fun t ht=>zbD fr (fun x hx e=>a3 x hx (e▸ht)) rj
 obtain ⟨hw,hl⟩:=hoj.load hload
 subst hw
 have ci:za7 P N g0 ops i oi fr H ri wri:=hoi'
 have cj:za7 P N g0 ops j oj fr (H.patch wri) rj none:=by
  rcases hl with hl | ⟨b,off,cs,e1,e2,e3,e4,hl⟩
  ·exact hl _
  ·have hcall:=ci.tame qi (zrw ht)
   rcases hcall with rfl | ⟨x,rfl⟩ | ⟨id,d,cs',x,f1,f2,rfl⟩
   ·exact hl H cs e2 e3
   ·refine hl _ cs ?_ e3
    rw [zhN H fun id c hw e=>?_]
    ·exact e2
    ·injection hw with hw
     injection hw with hw _
     exact zkx hbj e4 (e.trans hw.symm)
   ·by_cases e:b=id
    ·subst e
     rw [e2] at f2
     injection f2 with f2
     injection f2 with f2
     subst f2
     refine hl _ _ (zhM H b _) ?_
     rw [f1,e1] at hsep
     rw [ztv (hsep.resolve_left (fun h=>h rfl))]
     exact e3
    ·refine hl _ cs ?_ e3
     rw [zhN H fun id' c hw e'=>?_]
     ·exact e2
     ·injection hw with hw
      injection hw with hw _
      exact e (e'.trans hw.symm)
 refine zba.2 (.inl ⟨ri,wri,ci,zba.2 (.inl ⟨rj,none,?_,?_⟩)⟩)
 ·exact cj.congr fun t ht=>(zbD fr (fun x hx e=>a1 x hx (e▸ht)) ri).symm
 ·rw [put_comm fr a2]
  exact hK
theorem zlR {K:Fr->zaa->Nat->Prop} {i:Nat} (hK:∀fr H g,K fr H g->(∀q,q∈zth ops->zkf (fr q.1) (fr q.2))/\∀q,q∈zlr ops->zhZ P q.2.2 (fr q.1) (fr q.2.1)) (l2:List Nat):∀(l1:List Nat) (fr:Fr) (H:zaa) (g:Nat),(l1++i::l2).Pairwise (·<·) ->
  (∀j,j∈l1->i≠j/\∀oi oj,ops[i]?=some oi->ops[j]?=some oj->oi.apart ops oj=true/\(zgQ (zlp ops i oi.op) (zlp ops j oj.op)=true\/zvV ops i j=true\/(∃q,q∈zth ops/\exc ops i j=some q)\/∃q,q∈zlr ops/\tame ops i j=some q)/\behind ops ops.size i j=false/\behind ops ops.size j i=false) ->
  zrv P N g0 ops K (l1++i::l2) fr H g->zrv P N g0 ops K (i::(l1++l2)) fr H g
 | [],fr,H,g,_,_,h=>h
 | j::l1,fr,H,g,hpw,hj,h=>by
  simp only [List.cons_append,zrv] at h ⊢
  cases hoj:ops[j]? with
  | none=>simp [hoj] at h
  | some oj =>
   simp only [hoj] at h
   have h1:=zlO (fun fr H g h=>zlR hK l2 l1 fr H g (List.pairwise_cons.1 hpw).2 (fun k hk=>hj k (by simp [hk])) h) rfl h
   simp only [zrv] at h1
   cases hoi:ops[i]? with
   | none =>
    simp only [hoi] at h1
    exact (zox h1).elim
   | some oi =>
    simp only [hoi] at h1 ⊢
    obtain ⟨hij,hc⟩:=hj j (by simp)
    obtain ⟨c1,c2,c3,c4⟩:=hc oi oj hoi hoj
    by_cases hst:still ops fr i=true\/still ops fr j=true
    ·exact zqo hoi hoj c1 hst h1
    have hsi:still ops fr i=false:=by simpa using fun e=>hst (.inl e)
    have hsj:still ops fr j=false:=by simpa using fun e=>hst (.inr e)
    rcases c2 with c2 | c2 | ⟨q,hq,he⟩ | ⟨q,hq,he⟩
    rotate_left
    ·obtain ⟨t,m,k,e1,e2,e3,e4⟩:=zrt hoi hoj c2
     exact zru hij (Array.getElem?_eq_some_iff.1 hoi).1 (Array.getElem?_eq_some_iff.1 hoj).1 c1 c3 c4 e1 e2 e3 e4 hoj hsi hsj h1
    rotate_left
    rotate_left
    ·exact swap hij (Array.getElem?_eq_some_iff.1 hoi).1 (Array.getElem?_eq_some_iff.1 hoj).1 c1 c2 c3 c4 hoj hsi hsj h1
    ·obtain ⟨e1,e2,e3,e4⟩:=ztu hoi hoj he
     refine ztt hij (Array.getElem?_eq_some_iff.1 hoi).1 (Array.getElem?_eq_some_iff.1 hoj).1 c1 c3 c4 hoj hsi hsj e1 e2 ?_ h1
     obtain ⟨r1,H1,g1,h2⟩:=zgx h1
     obtain ⟨r2,H2,g2,h3⟩:=zgx h2
     obtain ⟨fr',H',g',h4,h5⟩:=zky _ _ _ _ h3
     have h6:=(hK _ _ _ h4).1 q hq
     have hji:j<i:=(List.pairwise_cons.1 hpw).1 i (by simp)
     obtain ⟨a1,a2,a3⟩:=Oper.apart_spec c1
     have hlt2:∀k,k∈l2->i<k:=fun k hk=>(List.pairwise_cons.1 (List.pairwise_append.1 (List.pairwise_cons.1 hpw).2).2.1).1 k hk
     have hlt1:∀k,k∈l1->j<k:=fun k hk=>(List.pairwise_cons.1 hpw).1 k (by simp [hk])
     have k1:fr' q.1=fr q.1:=by
      rw [h5 q.1 fun k o hk hk' e=>?_,zbD _ (fun x hx e=>zcK e3 hoi (Nat.le_refl _) (by rw [hx,←e])) r2,zbD _ (fun x hx e=>a3 x hx (e▸zlP e1)) r1]
      rcases List.mem_append.1 hk with hk | hk
      ·obtain ⟨b1,_⟩:=(hj k (by simp [hk])).2 oi o hoi hk'
       obtain ⟨_,_,b3⟩:=Oper.apart_spec b1
       exact b3 _ e (zlP e1)
      ·exact zcK e3 hk' (Nat.le_of_lt (hlt2 k hk)) e
     have k2:fr' q.2=fr q.2:=by
      rw [h5 q.2 fun k o hk hk' e=>?_,zbD _ (fun x hx e=>zcK e4 hoi (Nat.le_of_lt hji) (by rw [hx,←e])) r2,zbD _ (fun x hx e=>zcK e4 hoj (Nat.le_refl _) (by rw [hx,←e])) r1]
      rcases List.mem_append.1 hk with hk | hk
      ·exact zcK e4 hk' (Nat.le_of_lt (hlt1 k hk)) e
      ·exact zcK e4 hk' (Nat.le_of_lt (Nat.lt_trans hji (hlt2 k hk))) e
     rw [k1,k2] at h6
     exact h6
    ·obtain ⟨e1,e2,e3,e4⟩:=znq hoi hoj he
     refine zrx hij (Array.getElem?_eq_some_iff.1 hoi).1 (Array.getElem?_eq_some_iff.1 hoj).1 c1 c3 c4 hoi hoj hsi hsj he ?_ h1
     obtain ⟨r1,H1,g1,h2⟩:=zgx h1
     obtain ⟨r2,H2,g2,h3⟩:=zgx h2
     obtain ⟨fr',H',g',h4,h5⟩:=zky _ _ _ _ h3
     have h6:=(hK _ _ _ h4).2 q hq
     have hji:j<i:=(List.pairwise_cons.1 hpw).1 i (by simp)
     obtain ⟨a1,a2,a3⟩:=Oper.apart_spec c1
     have hlt2:∀k,k∈l2->i<k:=fun k hk=>(List.pairwise_cons.1 (List.pairwise_append.1 (List.pairwise_cons.1 hpw).2).2.1).1 k hk
     have hlt1:∀k,k∈l1->j<k:=fun k hk=>(List.pairwise_cons.1 hpw).1 k (by simp [hk])
     have k1:fr' q.1=fr q.1:=by
      rw [h5 q.1 fun k o hk hk' e=>?_,zbD _ (fun x hx e=>zcK e3 hoi (Nat.le_refl _) (by rw [hx,←e])) r2,zbD _ (fun x hx e=>a3 x hx (e▸e1)) r1]
      rcases List.mem_append.1 hk with hk | hk
      ·obtain ⟨b1,_⟩:=(hj k (by simp [hk])).2 oi o hoi hk'
       obtain ⟨_,_,b3⟩:=Oper.apart_spec b1
       exact b3 _ e e1
      ·exact zcK e3 hk' (Nat.le_of_lt (hlt2 k hk)) e
     have k2:fr' q.2.1=fr q.2.1:=by
      rw [h5 q.2.1 fun k o hk hk' e=>?_,zbD _ (fun x hx e=>zcK e4 hoi (Nat.le_of_lt hji) (by rw [hx,←e])) r2,zbD _ (fun x hx e=>zcK e4 hoj (Nat.le_refl _) (by rw [hx,←e])) r1]
      rcases List.mem_append.1 hk with hk | hk
      ·exact zcK e4 hk' (Nat.le_of_lt (hlt1 k hk)) e
      ·exact zcK e4 hk' (Nat.le_of_lt (Nat.lt_trans hji (hlt2 k hk))) e
     rw [k1,k2] at h6
     exact h6
theorem ziz {listed:Array Bool} (hcl:∀i o,listed.getD i false=true->ops[i]?=some o->∀e,e∈o.after->Region.binds .any e=true->listed.getD e.on false=true) :
  ∀(n i j:Nat),(∀o,ops[i]?=some o->∀e,e∈o.after->Region.binds .any e=true->listed.getD e.on false=true)->behind ops n i j=true->listed.getD j false=true
 | 0,i,j,_,h=>by simp [behind] at h
 | n+1,i,j,hi,h=>by
  simp only [behind] at h
  cases ho:ops[i]? with
  | none=>simp [ho] at h
  | some o =>
   simp only [ho] at h
   obtain ⟨e,he,h⟩:=Array.any_eq_true'.1 h
   simp only [Bool.and_eq_true,Bool.or_eq_true,beq_iff_eq] at h
   have hl:=hi o ho e he h.1
   rcases h.2 with h2 | h2
   ·rw [←h2];exact hl
   ·exact ziz hcl n e.on j (fun o' ho'=>hcl e.on o' hl ho') h2
theorem zoy (h:zkg ops=true):(∀i o,ops[i]?=some o->∀e,e∈o.after->Region.binds .any e=true->e.on<i) /\
  ∀i j x y,j<i->ops[i]?=some x->ops[j]?=some y->behind ops ops.size i j=true\/(x.apart ops y=true/\(zgQ (zlp ops i x.op) (zlp ops j y.op)=true\/zvV ops i j=true\/(∃q,q∈zth ops/\exc ops i j=some q)\/∃q,q∈zlr ops/\tame ops i j=some q)/\behind ops ops.size j i=false):=by
 unfold zkg at h
 have hall:=List.all_eq_true.1 h
 refine ⟨fun i o ho e he hb=>?_,fun i j x y hji hx hy=>?_⟩
 ·have hi:i<ops.size:=(Array.getElem?_eq_some_iff.1 ho).1
  have:=hall i (List.mem_range.2 hi)
  simp only [Bool.and_eq_true,ho] at this
  have h2:=Array.all_eq_true_iff_forall_mem.1 this.1 e he
  simpa [hb] using h2
 ·have hi:i<ops.size:=(Array.getElem?_eq_some_iff.1 hx).1
  have:=hall i (List.mem_range.2 hi)
  simp only [Bool.and_eq_true] at this
  have h2:=List.all_eq_true.1 this.2 j (List.mem_range.2 hji)
  simp only [hx,hy,Bool.or_eq_true,Bool.and_eq_true,Bool.not_eq_true'] at h2
  by_cases hbij:behind ops ops.size i j=true
  ·exact .inl hbij
  refine .inr ?_
  have h3:=h2.resolve_left hbij
  refine ⟨h3.1.1,?_,h3.2⟩
  by_cases hka:zgQ (zlp ops i x.op) (zlp ops j y.op)=true
  ·exact .inl hka
  ·by_cases htw:zvV ops i j=true
   ·exact .inr (.inl htw)
   by_cases hte:(tame ops i j).isSome=true
   ·obtain ⟨q,hq⟩:=Option.isSome_iff_exists.1 hte
    refine .inr (.inr (.inr ⟨q,?_,hq⟩))
    unfold zlr
    refine List.mem_flatMap.2 ⟨i,List.mem_range.2 hi,List.mem_filterMap.2 ⟨j,List.mem_range.2 hji,?_⟩⟩
    simp only [hx,hy]
    rw [if_neg (by simp only [Bool.or_eq_true,not_or];exact ⟨hbij,hka⟩)]
    exact hq
   obtain ⟨q,hq⟩:=Option.isSome_iff_exists.1 (((h3.1.2.resolve_right hte).resolve_right htw).resolve_left hka)
   refine .inr (.inr (.inl ⟨q,?_,hq⟩))
   unfold zth
   refine List.mem_flatMap.2 ⟨i,List.mem_range.2 hi,List.mem_filterMap.2 ⟨j,List.mem_range.2 hji,?_⟩⟩
   simp only [hx,hy]
   rw [if_neg (by simp only [Bool.or_eq_true,not_or];exact ⟨hbij,hka⟩)]
   exact hq
variable {G0:Gh} {H0:zaa} {w0:World}
def zb6 (ops:Array Oper) (listed:Array Bool):List Nat:=(List.range ops.size).filter fun i=>!listed.getD i true
theorem zde {listed:Array Bool} {i:Nat}:i∈zb6 ops listed↔i<ops.size/\listed.getD i true=false:=by
 simp [zb6]
theorem zfQ (listed:Array Bool):(zb6 ops listed).Pairwise (·<·):=List.Pairwise.filter _ List.pairwise_lt_range
theorem znr {listed:Array Bool} {l1 l2:List Nat} {i:Nat} (hs:listed.size=ops.size) (h:zb6 ops listed=l1++i::l2):zb6 ops (listed.setIfInBounds i true)=l1++l2:=by
 have hsort:=zfQ (ops:=ops) listed
 have hi:i∈zb6 ops listed:=by rw [h];simp
 have hil:=(zde.1 hi).1
 have h1:zb6 ops (listed.setIfInBounds i true)=(zb6 ops listed).filter fun k=>k != i:=by
  unfold zb6
  rw [List.filter_filter]
  apply List.filter_congr
  intro k hk
  by_cases hki:k=i
  ·subst hki
   simp [hs,List.mem_range.1 hk]
  ·rw [getD_set_ne true (Ne.symm hki)]
   simp [hki]
 rw [h1,h]
 rw [h] at hsort
 have hnd:(l1++i::l2).Nodup:=hsort.imp (fun hlt=>Nat.ne_of_lt hlt)
 rw [List.filter_append,List.filter_cons]
 simp only [bne_self_eq_false,Bool.false_eq_true,if_false]
 have n1:∀k,k∈l1->k≠i:=fun k hk e=>by
  subst e
  exact (List.nodup_append.1 hnd).2.2 k hk k (by simp) rfl
 have n2:∀k,k∈l2->k≠i:=fun k hk e=>by
  subst e
  exact (List.nodup_cons.1 (List.nodup_append.1 hnd).2.1).1 hk
 rw [List.filter_eq_self.2 (fun k hk=>by simp [n1 k hk]),List.filter_eq_self.2 (fun k hk=>by simp [n2 k hk])]
theorem zqp (hok:zkg ops=true) {K:Fr->zaa->Nat->Prop} {Q:Exit->Act->World->Prop} (hKs:∀fr H g,K fr H g->(∀q,q∈zth ops->zkf (fr q.1) (fr q.2))/\∀q,q∈zlr ops->zhZ P q.2.2 (fr q.1) (fr q.2.1))
  (hK:∀fr' H' g' a' w',K fr' H' g'->Sim G0 H0 w0 N fr' H' a' w'->za2 H' g'->Q .normal a' w') :
  ∀(fuel:Nat) (listed:Array Bool) (fr:Fr) (H:zaa) (g:Nat) (a:Act) (w:World),listed.size=ops.size ->
   (∀i o,listed.getD i false=true->ops[i]?=some o->∀e,e∈o.after->Region.binds .any e=true->listed.getD e.on false=true) ->
   zrv P N g0 ops K (zb6 ops listed) fr H g->Sim G0 H0 w0 N fr H a w->za2 H g->g0+ops.size<=g->(∀i,i∈zb6 ops listed->H (g0+i)=none) ->
   (zb6 ops listed).length<=fuel->wpAnyIn (FR ro) nn P .any ops Q fuel listed a w:=by
 obtain ⟨hback,hpair⟩:=zoy hok
 have hready:∀(listed:Array Bool),listed.size=ops.size->Region.ready .any ops listed=[]->zb6 ops listed=[]:=by
  intro listed hs hr
  cases hu:zb6 ops listed with
  | nil=>rfl
  | cons i l =>
   have hi:i∈zb6 ops listed:=by rw [hu];simp
   obtain ⟨hil,hif⟩:=zde.1 hi
   have:i∈Region.ready .any ops listed:=by
    refine mem_ready.2 ⟨hif,ops[i],Array.getElem?_eq_getElem hil,fun e he hb=>?_⟩
    have hlt:=hback i ops[i] (Array.getElem?_eq_getElem hil) e he hb
    cases hx:listed.getD e.on true with
    | false =>
     have hmem:e.on∈zb6 ops listed:=zde.2 ⟨by omega,hx⟩
     rw [hu] at hmem
     have hsort:=zfQ (ops:=ops) listed
     rw [hu] at hsort
     rcases List.mem_cons.1 hmem with h | h
     ·omega
     ·have:=(List.pairwise_cons.1 hsort).1 _ h
      omega
    | true =>
     have hin:e.on<listed.size:=by omega
     rw [Array.getD_eq_getD_getElem?,Array.getElem?_eq_getElem hin] at hx ⊢
     exact hx
   rw [hr] at this
   cases this
 intro fuel
 induction fuel with
 | zero =>
  intro listed fr H g a w hs hcl h S hf hg hj hfuel
  have hnil:zb6 ops listed=[]:=List.eq_nil_of_length_eq_zero (by omega)
  rw [hnil] at h
  refine ⟨?_,hK _ _ _ _ _ h S hf⟩
  cases hr:Region.ready .any ops listed with
  | nil=>rfl
  | cons i l =>
   have hi:i∈Region.ready .any ops listed:=by rw [hr];simp
   obtain ⟨h1,o,ho,_⟩:=mem_ready.1 hi
   have:i∈zb6 ops listed:=zde.2 ⟨(Array.getElem?_eq_some_iff.1 ho).1,h1⟩
   rw [hnil] at this
   cases this
 | succ fuel ih =>
  intro listed fr H g a w hs hcl h S hf hg hj hfuel
  refine ⟨fun hr=>?_,fun i hi=>?_⟩
  ·have hnil:=hready listed hs hr
   rw [hnil] at h
   exact hK _ _ _ _ _ h S hf
  ·obtain ⟨h1,o,ho,hdeps⟩:=mem_ready.1 hi
   have hmem:i∈zb6 ops listed:=zde.2 ⟨(Array.getElem?_eq_some_iff.1 ho).1,h1⟩
   obtain ⟨l1,l2,hsplit⟩:=List.append_of_mem hmem
   have hsort:=zfQ (ops:=ops) listed
   rw [hsplit] at hsort h
   have hlt:∀j,j∈l1->j<i:=fun j hj=>(List.pairwise_append.1 hsort).2.2 j hj i (by simp)
   have hfront:=zlR hKs l2 l1 fr H g hsort (fun j hjm=>⟨by have:=hlt j hjm;omega,fun oi oj hoi hoj=>by
    have hjl:listed.getD j true=false:=(zde.1 (by rw [hsplit];simp [hjm])).2
    have hnb:behind ops ops.size i j=false:=by
     cases hb:behind ops ops.size i j with
     | false=>rfl
     | true =>
      have:=ziz hcl ops.size i j (fun o' ho'=>by rw [ho] at ho';injection ho' with ho';subst ho';exact hdeps) hb
      have hjs:j<listed.size:=by rw [hs];exact (Array.getElem?_eq_some_iff.1 hoj).1
      rw [Array.getD_eq_getD_getElem?,Array.getElem?_eq_getElem hjs] at this hjl
      simp only [Option.getD_some] at this hjl
      rw [this] at hjl
      cases hjl
    rcases hpair i j oi oj (hlt j hjm) hoi hoj with h2 | h2
    ·rw [hnb] at h2;cases h2
    ·exact ⟨h2.1,h2.2.1,hnb,h2.2.2⟩⟩) h
   simp only [zrv,ho] at hfront
   refine zkv ho hfront S (hj i hmem) hf (by have:=(zde.1 hmem).1;omega) fun fr' H' g' a' w' hk S' hon=>?_
   have hu':=znr hs hsplit
   refine ih (listed.setIfInBounds i true) fr' H' g' a' w' (by simpa using hs) (fun k ok hk1 hok e he hb=>?_) (by rw [hu'];exact hk) S' hon.1 (Nat.le_trans hg hon.2.1) (fun k hk1=>?_) ?_
   ·by_cases hki:k=i
    ·subst hki
     rw [ho] at hok
     injection hok with hok
     subst hok
     exact getD_set_true (hdeps e he hb)
    ·rw [getD_set_ne false (Ne.symm hki)] at hk1
     exact getD_set_true (hcl k ok hk1 hok e he hb)
   ·rw [hu'] at hk1
    have hk2:k∈zb6 ops listed:=by rw [hsplit];rcases List.mem_append.1 hk1 with h | h<;>simp [h]
    have hki:k≠i:=by
     rintro rfl
     have hnd:(l1++k::l2).Nodup:=hsort.imp (fun hlt=>Nat.ne_of_lt hlt)
     rcases List.mem_append.1 hk1 with h | h
     ·exact (List.nodup_append.1 hnd).2.2 k h k (by simp) rfl
     ·exact (List.nodup_cons.1 (List.nodup_append.1 hnd).2.1).1 h
    have:=(zde.1 hk2).1
    exact hon.2.2 _ (by omega) (by omega) (hj k hk2)
   ·rw [hu']
    rw [hsplit] at hfuel
    simp only [List.length_append,List.length_cons] at hfuel ⊢
    omega
end
end Go.AM
