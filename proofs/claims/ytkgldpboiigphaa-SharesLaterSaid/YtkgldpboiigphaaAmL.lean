/-
  The abstract machine: code, and the contract of a function.
  Conditions: none; it speaks of any program.
-/
import Derived.Test.YtkgldpboiigphaaAmK
set_option linter.all false
namespace Go.AM
open Go Go.RowKit

theorem least {p : Nat → Prop} (h : ∃ n, p n) : ∃ n, p n ∧ ∀ m, p m → n ≤ m := by
  obtain ⟨n, hn⟩ := h
  induction n using Nat.strongRecOn with
  | _ n ih =>
    by_cases hx : ∃ m, m < n ∧ p m
    · obtain ⟨m, hm, hpm⟩ := hx
      exact ih m hm hpm
    · exact ⟨n, hn, fun m hm => by
        rcases Nat.lt_or_ge m n with h | h
        · exact absurd ⟨m, h, hm⟩ hx
        · exact h⟩

theorem wp_loop_n {P : Program} {c : Code} {Q : Exit → Act → World → Prop} {a : Act} {w : World} (J : Nat → Act → World → Prop) (h0 : ∃ n, J n a w)
    (round : ∀ n a w, J n a w → c.wp P (Exit.then (fun a' w' => ∃ m, m < n ∧ J m a' w') Q) a w) : (Code.loop c).wp P Q a w := by
  classical
  let μ : Act → World → Nat := fun a w => if h : ∃ n, J n a w then Classical.choose (least h) else 0
  have hμ : ∀ a w, (∃ n, J n a w) → J (μ a w) a w ∧ ∀ m, J m a w → μ a w ≤ m := fun a w h => by
    have := Classical.choose_spec (least h)
    simp only [μ, dif_pos h]
    exact this
  refine wp_loop (fun a w => ∃ n, J n a w) μ h0 fun a w h => ?_
  refine wp_mono (round (μ a w) a w (hμ a w h).1) fun e a' w' he => ?_
  cases e with
  | normal =>
    obtain ⟨m, hm, hj⟩ := he
    exact ⟨⟨m, hj⟩, Nat.lt_of_le_of_lt ((hμ a' w' ⟨m, hj⟩).2 m hj) hm⟩
  | exit id => exact he
  | goto l => exact he
  | ret => exact he
  | panic ch => exact he
  | outgrown => exact he

section
variable {P : Program} {G0 : Gh} {H0 : Heap} {w0 : World} {N : Nat}

theorem Sim.le {fr fr' : Fr} {H : Heap} {a : Act} {w : World} (h : FrLe fr' fr) (S : Sim G0 H0 w0 N fr H a w) : Sim G0 H0 w0 N fr' H a w := by
  obtain ⟨G, h1, h2, h3, h4, h5⟩ := S
  exact ⟨G, h1, h2, h3, h4, fun t ht => (h5 t ht).le (h t)⟩

theorem Sim.drew {fr : Fr} {H : Heap} {a : Act} {w : World} (S : Sim G0 H0 w0 N fr H a w) : Sim G0 H0 w0 N fr H a { w with drawn := w.drawn + 1 } := by
  obtain ⟨G, h1, h2, h3, h4, h5⟩ := S
  obtain ⟨q1, q2⟩ := same_heap (w' := { w with drawn := w.drawn + 1 }) h1 rfl rfl rfl rfl
  exact ⟨G, q1, h2.trans q2, h3, h4, fun t ht => (h5 t ht).evo q2.evo⟩

theorem Sim.down {fr fr' : Fr} {H H' : Heap} {g g' : Nat} {a : Act} {w : World} (h : Down fr H g fr' H' g') (hf : Fresh H g) (S : Sim G0 H0 w0 N fr H a w) : Sim G0 H0 w0 N fr' H' a w ∧ Fresh H' g' := by
  obtain ⟨G, h1, h2, h3, h4, h5⟩ := S
  obtain ⟨hf', h⟩ := h hf
  obtain ⟨G', p1, p2, p3⟩ := h G w h1
  exact ⟨⟨G', p1, h2.trans p2, h3, h4, fun t ht => p3 t _ (h5 t ht)⟩, hf'⟩

theorem wpA_sound (hm : P.follows .mixedOrders = true) (c : Code) : ∀ (Q : Exit → Fr → Heap → Nat → Prop) (fr : Fr) (H : Heap) (g : Nat) (a : Act) (w : World) (C : Exit → Act → World → Prop),
    wpA P N c Q fr H g → Sim G0 H0 w0 N fr H a w → Fresh H g → (∀ e fr' H' g' a' w', Q e fr' H' g' → Sim G0 H0 w0 N fr' H' a' w' → Fresh H' g' → C e a' w') → c.wp P C a w := by
  induction c with
  | skip => exact fun Q fr H g a w C h S hf hC => wp_skip (hC _ _ _ _ _ _ h S hf)
  | label l => exact fun Q fr H g a w C h S hf hC => wp_label (hC _ _ _ _ _ _ h S hf)
  | exit id => exact fun Q fr H g a w C h S hf hC => wp_exit (hC _ _ _ _ _ _ h S hf)
  | ret => exact fun Q fr H g a w C h S hf hC => wp_ret (hC _ _ _ _ _ _ h S hf)
  | goto l => exact fun Q fr H g a w C h S hf hC => h.elim
  | refuse l => exact fun Q fr H g a w C h S hf hC => h.elim
  | scope b ih => exact fun Q fr H g a w C h S hf hC => h.elim
  | rangeFunc f ps x y ihx ihy => exact fun Q fr H g a w C h S hf hC => h.elim
  | region id ops draw =>
    intro Q fr H g a w C h S hf hC
    simp only [wpA] at h
    have hf' : Fresh H (g + ops.size) := fun i hi => hf i (by omega)
    cases draw with
    | false =>
      simp only [Bool.false_eq_true, if_false] at h
      refine wp_region ?_
      rw [List.range_eq_range']
      exact runQ_sound (fun fr' H' g' a' w' hk S' hf' => hC _ _ _ _ _ _ hk S' hf') ops.size 0 fr H _ a w (by omega) h S hf' (Nat.le_refl _) fun j _ _ => hf _ (by omega)
    | true =>
      simp only [if_true] at h
      refine wp_region_any hm ?_
      have hu : unlisted ops (Array.replicate ops.size false) = List.range' 0 ops.size := by
        rw [← List.range_eq_range']
        unfold unlisted
        refine List.filter_eq_self.2 fun i hi => ?_
        have := List.mem_range.1 hi
        simp [this]
      refine open_sound h.1 (fun fr' H' g' a' w' hk S' hf' => hC _ _ _ _ _ _ hk S' hf') ops.size _ fr H (g + ops.size) a _ (by simp) (fun i o hi => ?_) ?_ S.drew hf' (Nat.le_refl _) (fun i hi => hf _ (by omega)) (by rw [hu]; simp)
      · exfalso
        rw [Array.getD_eq_getD_getElem?, Array.getElem?_replicate] at hi
        split at hi <;> cases hi
      · rw [hu]
        exact runI_of_runQ ops.size 0 (by omega) _ _ _ h.2
  | seq x y ihx ihy =>
    intro Q fr H g a w C h S hf hC
    refine wp_seq (ihx _ fr H g a w _ h S hf fun e fr' H' g' a' w' hq S' hf' => ?_)
    cases e with
    | normal =>
      obtain ⟨fr0, H0, g0, hd, hq⟩ := hq
      obtain ⟨S1, hf1⟩ := S'.down hd hf'
      exact ihy Q fr0 H0 g0 a' w' C hq S1 hf1 hC
    | exit id => exact hC _ _ _ _ _ _ hq S' hf'
    | goto l => exact hC _ _ _ _ _ _ hq S' hf'
    | ret => exact hC _ _ _ _ _ _ hq S' hf'
    | panic ch => exact hC _ _ _ _ _ _ hq S' hf'
    | outgrown => exact hC _ _ _ _ _ _ hq S' hf'
  | cond c x y ihx ihy =>
    intro Q fr H g a w C h S hf hC
    simp only [wpA] at h
    split at h
    · rename_i t hc
      have hcv : a.eval c = .bool t := by
        obtain ⟨G, _, _, _, _, h5⟩ := S
        have := ev_vr h5 c
        rw [hc] at this
        exact v_inv this
      cases t with
      | true => exact wp_cond_true hcv (ihx Q fr H g a w C (by simpa using h) S hf hC)
      | false => exact wp_cond_false hcv (ihy Q fr H g a w C (by simpa using h) S hf hC)
    · exact h.elim
  | block id c ih =>
    intro Q fr H g a w C h S hf hC
    refine wp_block (ih _ fr H g a w _ h S hf fun e fr' H' g' a' w' hq S' hf' => ?_)
    cases e with
    | exit id' =>
      simp only [Exit.inBlockA] at hq
      simp only [Exit.inBlock]
      split
      · rename_i he
        rw [if_pos he] at hq
        exact hC _ _ _ _ _ _ hq S' hf'
      · rename_i he
        rw [if_neg he] at hq
        exact hC _ _ _ _ _ _ hq S' hf'
    | normal => exact hC _ _ _ _ _ _ hq S' hf'
    | goto l => exact hC _ _ _ _ _ _ hq S' hf'
    | ret => exact hC _ _ _ _ _ _ hq S' hf'
    | panic ch => exact hC _ _ _ _ _ _ hq S' hf'
    | outgrown => exact hC _ _ _ _ _ _ hq S' hf'
  | loop c ih =>
    intro Q fr H g a w C h S hf hC
    obtain ⟨I, ⟨n, fr0, hle, hI⟩, hround⟩ := h
    refine wp_loop_n (fun n a w => ∃ fr H g, I n fr H g ∧ Sim G0 H0 w0 N fr H a w ∧ Fresh H g) ⟨n, fr0, H, g, hI, S.le hle, hf⟩ ?_
    rintro n a w ⟨fr, H, g, hI, S, hf⟩
    refine ih _ fr H g a w _ (hround n fr H g hI hf) S hf fun e fr' H' g' a' w' hq S' hf' => ?_
    cases e with
    | normal =>
      obtain ⟨m, fr0, hm, hle, hI'⟩ := hq
      exact ⟨m, hm, fr0, H', g', hI', S'.le hle, hf'⟩
    | exit id => exact hC _ _ _ _ _ _ hq S' hf'
    | goto l => exact hC _ _ _ _ _ _ hq S' hf'
    | ret => exact hC _ _ _ _ _ _ hq S' hf'
    | panic ch => exact hC _ _ _ _ _ _ hq S' hf'
    | outgrown => exact hC _ _ _ _ _ _ hq S' hf'

/-! ### The results -/
def resS (tmps : Array Value) : ResultVar → Sem Value
  | .tmp t => pure (tmps.getD t undef)
  | .cell b t => do loadVar t (← asAddr (tmps.getD b undef))

theorem results_eq (fn : Func) (tmps : Array Value) : results fn tmps = (do
    let vs ← fn.results.mapM (resS tmps)
    pure (if h : vs.size = 1 then vs[0] else .tuple vs)) := by
  unfold results
  congr 1

theorem run_resOf {G : Gh} {H : Heap} {w : World} {a : Act} {fr : Fr} (hp : Hp G H w) (hv : ∀ t, t < N → VR G H w (fr t) (a.tmps.getD t undef)) {rv : ResultVar} {x : AV} (h : resOf P N fr H rv = some x) :
    ∃ v, (resS a.tmps rv).run P w = .ok v w ∧ VR G H w x v := by
  cases rv with
  | tmp t =>
    simp only [resOf] at h
    injection h with h
    subst h
    exact ⟨_, rfl, ev_vr hv (.tmp t)⟩
  | cell b t =>
    simp only [resOf] at h
    have hb := ev_vr hv (.tmp b)
    split at h
    · rename_i i off hx
      rw [hx] at hb
      split at h
      · rename_i cs hcs
        generalize hva : a.eval (.tmp b) = vb at hb
        cases hb with
        | ptr _ _ cs' hcs' =>
          obtain ⟨v, h1, h2⟩ := part_load (P := P) (o := 0) h (hp.range hcs)
          rw [Nat.zero_add] at h1
          refine ⟨v, ?_, h2⟩
          change a.tmps.getD b undef = _ at hva
          simp only [resS, hva, asAddr, Sem.run_bind, Sem.run_pure, Result.andThen_ok, h1]
      · cases h
    · cases h

theorem run_results {G : Gh} {H : Heap} {w : World} {a : Act} {fr : Fr} {fn : Func} (hp : Hp G H w) (hv : ∀ t, t < N → VR G H w (fr t) (a.tmps.getD t undef)) {x : AV} (h : resA P N fr H fn.results.toList = some x) :
    ∃ v, (results fn a.tmps).run P w = .ok v w ∧ VR G H w x v := by
  have key : ∀ (rs : List ResultVar) (l : List AV), rs.mapM (resOf P N fr H) = some l → ∃ vs : List Value, (rs.mapM (resS a.tmps)).run P w = .ok vs w ∧
      vs.length = l.length ∧ ∀ (i : Nat) (c : AV) (y : Value), l[i]? = some c → vs[i]? = some y → VR G H w c y := by
    intro rs
    induction rs with
    | nil =>
      intro l hl
      simp at hl
      subst hl
      exact ⟨[], by simp, rfl, fun i c y hc => by simp at hc⟩
    | cons rv rs ih =>
      intro l hl
      rw [List.mapM_cons] at hl
      cases h1 : resOf P N fr H rv with
      | none => simp [h1] at hl
      | some c0 =>
        cases h2 : rs.mapM (resOf P N fr H) with
        | none => simp [h1, h2] at hl
        | some l' =>
          simp only [h1, h2, Option.bind_eq_bind, Option.bind_some, Option.pure_def] at hl
          injection hl with hl
          subst hl
          obtain ⟨v, r1, r2⟩ := run_resOf hp hv h1
          obtain ⟨vs, s1, s2, s3⟩ := ih l' h2
          refine ⟨v :: vs, ?_, by simp [s2], fun i c y hc hy => ?_⟩
          · rw [List.mapM_cons]
            simp only [Sem.run_bind, r1, Result.andThen_ok, s1, Sem.run_pure]
          · cases i with
            | zero => simp at hc hy; subst hc hy; exact r2
            | succ i => exact s3 i c y (by simpa using hc) (by simpa using hy)
  unfold resA at h
  cases hm : fn.results.toList.mapM (resOf P N fr H) with
  | none => simp [hm] at h
  | some l =>
    obtain ⟨vs, s1, s2, s3⟩ := key _ l hm
    have hrun : (results fn a.tmps).run P w = .ok (if h : vs.toArray.size = 1 then vs.toArray[0] else .tuple vs.toArray) w := by
      rw [results_eq]
      simp only [Sem.run_bind, Array.mapM_eq_mapM_toList, Sem.run_map, s1, Result.andThen_ok, Sem.run_pure]
    rw [hm] at h
    refine ⟨_, hrun, ?_⟩
    match l, s2, s3, h with
    | [c], s2, s3, h =>
      simp only at h
      injection h with h
      subst h
      obtain ⟨v, rfl⟩ : ∃ v, vs = [v] := by
        match vs, s2 with
        | [v], _ => exact ⟨v, rfl⟩
      exact s3 0 c v rfl rfl
    | [], s2, s3, h =>
      simp only at h
      injection h with h
      subst h
      have : vs = [] := List.eq_nil_of_length_eq_zero s2
      subst this
      exact .tup [] #[] rfl fun i c y hc => by simp at hc
    | c :: d :: l, s2, s3, h =>
      simp only at h
      injection h with h
      subst h
      rw [dif_neg (by simp [s2])]
      exact .tup _ _ (by simp [s2]) fun i e y hc hy => s3 i e y hc (by simpa using hy)

/-! ### A smaller heap -/
/-- All that a value names is in the heap. -/
inductive In (H : Heap) : AV → Prop
  | any : In H .any
  | v (x : Value) : In H (.v x)
  | agg (cs : List AV) (h : ∀ c, c ∈ cs → In H c) : In H (.agg cs)
  | tup (cs : List AV) (h : ∀ c, c ∈ cs → In H c) : In H (.tup cs)
  | ptr (i off : Nat) (cs : List AV) (h : H i = some (.cells cs)) : In H (.ptr i off)
  | sl (t : Tag) (k : Nat) (es : List (List AV)) (ht : ∀ τ, t = .id τ → ∃ e n, H τ = some (.row e n)) (h : ∀ e, e ∈ es → ∀ c, c ∈ e → In H c) : In H (.sl t k es)
  | ep (cs : List AV) (h : ∀ c, c ∈ cs → In H c) : In H (.ep cs)
  | fn (f : Fn) (first cap : List AV) (h1 : ∀ c, c ∈ first → In H c) (h2 : ∀ c, c ∈ cap → In H c) : In H (.fn f first cap)

theorem VR.inH {G : Gh} {H : Heap} {w : World} {a : AV} {x : Value} (h : VR G H w a x) : In H a := by
  induction h with
  | any => exact .any
  | v => exact .v _
  | agg cs vs hl h1 h ih =>
    refine .agg cs fun c hc => ?_
    obtain ⟨i, hi⟩ := List.getElem?_of_mem hc
    have hlt := (List.getElem?_eq_some_iff.1 hi).1
    exact ih i c vs[i] hi (Array.getElem?_eq_getElem (by omega))
  | tup cs vs hl h ih =>
    refine .tup cs fun c hc => ?_
    obtain ⟨i, hi⟩ := List.getElem?_of_mem hc
    have hlt := (List.getElem?_eq_some_iff.1 hi).1
    exact ih i c vs[i] hi (Array.getElem?_eq_getElem (by omega))
  | ptr i off cs h => exact .ptr i off cs h
  | sl t k es a cap b o f hcap hs ha hc hv ht ih =>
    refine .sl t k es (fun τ e => ?_) fun e he c hc => ?_
    · subst e
      obtain ⟨e, n, hn, _⟩ := ht
      exact ⟨e, n, hn⟩
    · obtain ⟨i, hi⟩ := List.getElem?_of_mem he
      obtain ⟨j, hj⟩ := List.getElem?_of_mem hc
      exact ih i j e c hi hj
  | ep cs b o f ha hc hv ih =>
    refine .ep cs fun c hc => ?_
    obtain ⟨j, hj⟩ := List.getElem?_of_mem hc
    exact ih j c hj
  | fn f first cap v1 v2 h1 h2 hf hc ihf ihc =>
    refine .fn f first cap (fun c hc => ?_) fun c hc => ?_
    · obtain ⟨i, hi⟩ := List.getElem?_of_mem hc
      have hlt := (List.getElem?_eq_some_iff.1 hi).1
      exact ihf i c v1[i] hi (Array.getElem?_eq_getElem (by omega))
    · obtain ⟨i, hi⟩ := List.getElem?_of_mem hc
      have hlt := (List.getElem?_eq_some_iff.1 hi).1
      exact ihc i c v2[i] hi (Array.getElem?_eq_getElem (by omega))

theorem Pure.inH {H : Heap} {a : AV} (h : Pure a) : In H a := by
  induction h with
  | any => exact .any
  | v => exact .v _
  | agg cs h ih => exact .agg cs ih
  | tup cs h ih => exact .tup cs ih
  | sl k es h ih => exact .sl .no k es (fun τ e => by cases e) ih
  | clip k es h ih => exact .sl .clip k es (fun τ e => by cases e) ih
  | nil k es h ih => exact .sl .nil k es (fun τ e => by cases e) ih
  | fn f a b h1 h2 ih1 ih2 => exact .fn f a b ih1 ih2

theorem In.mono {H H' : Heap} (hc : ∀ i cs, H i = some (.cells cs) → ∃ cs', H' i = some (.cells cs')) (hr : ∀ i e n, H i = some (.row e n) → ∃ n', H' i = some (.row e n')) {a : AV} (h : In H a) : In H' a := by
  induction h with
  | any => exact .any
  | v => exact .v _
  | agg cs h ih => exact .agg cs ih
  | tup cs h ih => exact .tup cs ih
  | ptr i off cs h => obtain ⟨cs', h'⟩ := hc i cs h; exact .ptr i off cs' h'
  | sl t k es ht h ih => exact .sl t k es (fun τ e => by obtain ⟨e', n, hn⟩ := ht τ e; obtain ⟨n', h'⟩ := hr τ e' n hn; exact ⟨e', n', h'⟩) ih
  | ep cs h ih => exact .ep cs ih
  | fn f a b h1 h2 ih1 ih2 => exact .fn f a b ih1 ih2

theorem Free.sub {G : Gh} {H H' : Heap} {b n : Nat} (hsub : ∀ i x, H' i = some x → H i = some x) (h : Free G H b n) : Free G H' b n :=
  ⟨fun i cs hi => h.1 i cs (hsub i _ hi), fun i e m hi => h.2 i e m (hsub i _ hi)⟩

theorem VR.back {G : Gh} {H H' : Heap} {w : World} (hsub : ∀ i x, H' i = some x → H i = some x) {a : AV} {x : Value} (hin : In H' a) (h : VR G H w a x) : VR G H' w a x := by
  induction h with
  | any x => exact .any x
  | v x => exact .v x
  | agg cs vs hl h1 _ ih => cases hin with | agg _ hi => exact .agg cs vs hl h1 fun i c x hc hx => ih i c x hc hx (hi c (List.mem_of_getElem? hc))
  | tup cs vs hl _ ih => cases hin with | tup _ hi => exact .tup cs vs hl fun i c x hc hx => ih i c x hc hx (hi c (List.mem_of_getElem? hc))
  | ptr i off cs h => cases hin with | ptr _ _ cs' h' => exact .ptr i off cs' h'
  | sl t k es a cap b o f hcap hs ha hc hv ht ih =>
    cases hin with
    | sl _ _ _ hti hi =>
      refine .sl t k es a cap b o f hcap hs (fun hne => ⟨(ha hne).1, (ha hne).2.1, (ha hne).2.2.sub hsub⟩) hc (fun i j e c he hc => ih i j e c he hc (hi e (List.mem_of_getElem? he) c (List.mem_of_getElem? hc))) ?_
      cases t with
      | no => trivial
      | clip => exact ht
      | nil => exact ht
      | id τ =>
        obtain ⟨e, n, hn, r1, r2, r3⟩ := ht
        obtain ⟨e', n', hn'⟩ := hti τ rfl
        have := hsub τ _ hn'
        rw [hn] at this
        injection this with this
        injection this with q1 q2
        subst q1 q2
        exact ⟨e, n, hn', r1, r2, r3⟩
  | ep cs b o f ha hc hv ih => cases hin with | ep _ hi => exact .ep cs b o f (fun hne => (ha hne).sub hsub) hc fun j c hj => ih j c hj (hi c (List.mem_of_getElem? hj))
  | fn f first cap v1 v2 h1 h2 _ _ ihf ihc =>
    cases hin with
    | fn _ _ _ i1 i2 => exact .fn f first cap v1 v2 h1 h2 (fun i c x hc hx => ihf i c x hc hx (i1 c (List.mem_of_getElem? hc))) (fun i c x hc hx => ihc i c x hc hx (i2 c (List.mem_of_getElem? hc)))

theorem restrict {G G1 : Gh} {H H1 H' : Heap} {w w1 : World} (hp : Hp G H w) (hp1 : Hp G1 H1 w1) (hE : Ext G H w G1 H1 w1) (hsub : ∀ i x, H' i = some x → H1 i = some x)
    (hc : ∀ i cs, H i = some (.cells cs) → ∃ cs', H' i = some (.cells cs')) (hr : ∀ i e n, H i = some (.row e n) → ∃ n', H' i = some (.row e n'))
    (hcl : ∀ i cs, H' i = some (.cells cs) → H i = some (.cells cs) ∨ ∀ c, c ∈ cs → In H' c) : Hp G1 H' w1 ∧ Ext G H w G1 H' w1 := by
  have him : ∀ b, Im G1 H' b → Im G1 H1 b := fun b h => by
    rcases h with ⟨i, cs, hi, h⟩ | ⟨i, e, n, hi, h⟩
    · exact .inl ⟨i, cs, hsub i _ hi, h⟩
    · exact .inr ⟨i, e, n, hsub i _ hi, h⟩
  refine ⟨⟨fun i cs hi => ?_, fun i e n hi => hp1.rows i e n (hsub i _ hi), fun i j cs ds hi hj => hp1.inj i j cs ds (hsub i _ hi) (hsub j _ hj), fun i j cs e n hi hj => hp1.sep i j cs e n (hsub i _ hi) (hsub j _ hj), fun i j d m e n b hi hj => hp1.own i j d m e n b (hsub i _ hi) (hsub j _ hj)⟩,
    ⟨⟨fun i cs hi => ⟨(hE.evo.cells i cs hi).1, hc i cs hi⟩, fun i e n hi => ?_, fun b n hf => ⟨(hE.evo.keep b n hf).1, fun hb => ((hE.evo.keep b n hf).2 hb).sub hsub⟩⟩, hE.os, hE.tape, hE.output, hE.size, hE.block, fun b h => hE.im b (him b h)⟩⟩
  · obtain ⟨vs, ty, hg, hs, h1, hv⟩ := hp1.cells i cs (hsub i _ hi)
    refine ⟨vs, ty, hg, hs, h1, fun j c x hcj hx => (hv j c x hcj hx).back hsub ?_⟩
    rcases hcl i cs hi with h | h
    · obtain ⟨us, tu, _, hus, _, huv⟩ := hp.cells i cs h
      have hlt : j < us.size := by have := (List.getElem?_eq_some_iff.1 hcj).1; omega
      exact ((huv j c us[j] hcj (Array.getElem?_eq_getElem hlt)).inH).mono hc hr
    · exact h c (List.mem_of_getElem? hcj)
  · obtain ⟨h1, n', h2, h3, h4⟩ := hE.evo.row i e n hi
    obtain ⟨n'', h5⟩ := hr i e n hi
    have := hsub i _ h5
    rw [h2] at this
    injection this with this
    injection this with _ this
    subst this
    exact ⟨h1, n', h5, h3, h4⟩

/-! ### The contract of a function -/
theorem init_sim {as : List AV} {H : Heap} {G : Gh} {w : World} {vs : Array Value} {fn : Func} (hN : fn.ntmps = N) (hlen : as.length ≤ N) (hp : Hp G H w) (ha : VRs G H w as vs) :
    Sim G H w N (frame0 as) H { tmps := vs ++ Array.replicate (fn.ntmps - vs.size) undef, defers := [] } w := by
  have hs := ha.1
  refine ⟨G, hp, .refl _ _ _, rfl, by simp; omega, fun t ht => ?_⟩
  unfold frame0
  by_cases h1 : t < as.length
  · rw [List.getElem?_eq_getElem h1, Option.getD_some, Array.getD_eq_getD_getElem?]
    show VR G H w as[t] ((vs ++ _)[t]?.getD undef)
    rw [Array.getElem?_append_left (by omega), Array.getElem?_eq_getElem (by omega), Option.getD_some]
    exact ha.2 t _ _ (List.getElem?_eq_getElem h1) (Array.getElem?_eq_getElem (by omega))
  · rw [List.getElem?_eq_none (by omega)]
    exact .any _

/-- A function that leaves the heap behind it as H'. -/
theorem sat_of_wp (hm : P.follows .mixedOrders = true) {f : FuncId} {fn : Func} {c : Code} (hf : P.funcs[f]? = some fn) (hb : fn.body = some c) (hname : fn.name ≠ "runtime.NumGoroutine") (hN : fn.ntmps = N)
    {as : List AV} (hlen : as.length ≤ N) {H H' : Heap} {g g' : Nat} {r : AV} (hfr : Fresh H g) (hfr' : Fresh H' g') (hgg : g ≤ g') (hin : In H' r)
    (hc : ∀ i cs, H i = some (.cells cs) → ∃ cs', H' i = some (.cells cs')) (hr : ∀ i e n, H i = some (.row e n) → ∃ n', H' i = some (.row e n')) (hno : ∀ i, i < g → H i = none → H' i = none)
    (hcl : ∀ i cs, H' i = some (.cells cs) → H i = some (.cells cs) ∨ ∀ c, c ∈ cs → In H' c)
    {Q : Exit → Fr → Heap → Nat → Prop} (h : wpA P N c Q (frame0 as) H g)
    (hQ : ∀ e fr H1 g1, Q e fr H1 g1 → (e = .normal ∨ e = .ret) ∧ (∃ x, resA P N fr H1 fn.results.toList = some x ∧ Le r x) ∧ ∀ i x, H' i = some x → H1 i = some x) : Sat P f as H g r H' g' := by
  refine ⟨⟨fn, c, hf, hb, hname⟩, fun G w vs hp ha => ?_⟩
  refine calls_of_wp hf hb (wpA_sound (G0 := G) (H0 := H) (w0 := w) hm c _ _ _ _ _ _ _ h (init_sim hN hlen hp ha) hfr fun e fr H1 g1 a' w' hq S' _ => ?_)
  obtain ⟨he, ⟨x, hx, hle⟩, hsub⟩ := hQ _ _ _ _ hq
  obtain ⟨G1, hp1, hE, hd, _, hv⟩ := S'
  obtain ⟨v, hrun, hvr⟩ := run_results (P := P) (fn := fn) hp1 hv hx
  obtain ⟨q1, q2⟩ := restrict hp hp1 hE hsub hc hr hcl
  have hfin : a'.defers = [] ∧ ∃ v, (results fn a'.tmps).run P w' = .ok v w' ∧ ∃ v' G', Ending.returned v = .returned v' ∧ Hp G' H' w' ∧ (Fresh H' g' ∧ g ≤ g' ∧ ∀ i, i < g → H i = none → H' i = none) ∧ Ext G H w G' H' w' ∧ VR G' H' w' r v' :=
    ⟨hd, v, hrun, v, G1, rfl, q1, ⟨hfr', hgg, hno⟩, q2, (hvr.le hle).back hsub hin⟩
  rcases he with rfl | rfl
  · exact hfin
  · exact hfin

/-- A function that leaves the heap as it was. -/
theorem pure_of_wp (hm : P.follows .mixedOrders = true) {f : FuncId} {fn : Func} {c : Code} (hf : P.funcs[f]? = some fn) (hb : fn.body = some c) (hname : fn.name ≠ "runtime.NumGoroutine") (hN : fn.ntmps = N)
    {as : List AV} (hlen : as.length ≤ N) {r : AV} (hp : Pure r)
    (h : ∀ H g, Fresh H g → wpA P N c (fun e fr H1 _ => (e = .normal ∨ e = .ret) ∧ (∃ x, resA P N fr H1 fn.results.toList = some x ∧ Le r x) ∧ ∀ i, i < g → H1 i = H i) (frame0 as) H g) : PureSat P f as r := fun H g hfr =>
  sat_of_wp hm hf hb hname hN hlen hfr hfr (Nat.le_refl _) hp.inH (fun i cs h => ⟨cs, h⟩) (fun i e n h => ⟨n, h⟩) (fun _ _ h => h) (fun i cs h => .inl h)
    (h H g hfr) fun e fr H1 g1 hq => ⟨hq.1, hq.2.1, fun i x hi => by
      have hlt : i < g := by
        rcases Nat.lt_or_ge i g with h | h
        · exact h
        · rw [hfr i h] at hi; cases hi
      rw [hq.2.2 i hlt]
      exact hi⟩
end
end Go.AM
