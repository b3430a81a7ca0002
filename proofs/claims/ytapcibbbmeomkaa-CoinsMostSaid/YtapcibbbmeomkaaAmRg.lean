/-
  The abstract machine: ranges over functions of two values, and functions that may be nil.
  Conditions: none; it speaks of any program.
-/
import Derived.Test.YtapcibbbmeomkaaAmLw
set_option linter.all false
namespace Go.AM
open Go Go.RowKit
theorem rFr_two {N p p2 : Nat} (hp : p < N) (hp2 : p2 < N) (x x2 : AV) (l2 : List (Nat × AV)) : rFr N [p, p2] (l2.map (·.1)) (l2.map (·.2)) [x, x2] = Fr.of ((p2, x2) :: (p, x) :: l2) := by
  have h1 := rFr_one hp x l2
  have e : rFr N [p, p2] (l2.map (·.1)) (l2.map (·.2)) [x, x2] = (rFr N [p] (l2.map (·.1)) (l2.map (·.2)) [x]).put N (some p2) x2 := rfl
  rw [e, h1, put_of hp2]
theorem w_rangeD {P : Program} {N : Nat} {Q : Exit → Fr → Heap → Nat → Prop} {l : List (Nat × AV)} {H : Heap} {g : Nat} {O : Nat → Prop} {H0 : Heap} {L L' : BL} {b : Nat}
    {gop : Operand} {p p2 : Nat} {asg body : Code} {k : FuncId} {first cap : List AV} {S : Type} (Lo : S → BL) (pe : S → Option Code) (R : AV → AV → S → Bool → S → Prop) (s0 sF : S) {A A' : BL} {rv : AV} (l2 : List (Nat × AV)) (ns : List Nat)
    (hS : St O H0 L H b) (hb : b ≤ g) (hev : evL N l gop = .fn (.func k) first cap) (hna : noRF asg = true) (hnb : noRF body = true) (hpe : pe s0 = none)
    (hA : At L ns (A ++ Lo s0) (A' ++ Lo sF)) (hns : ns.Nodup) (hL : putsAt L ns (A' ++ Lo sF) = L')
    (hkA : KinL A A') (hk : ∀ s s', KinL (Lo s) (Lo s')) (hin : ∀ s, InB In (Lo s)) (hcs : ∀ s H, Has H (Lo s) → ∀ c, c ∈ l2.map (·.2) → In H c)
    (hl2 : FLe l l2) (hN : l2.all (fun q => decide (q.1 < N)) = true) (hp : p < N) (hp2 : p2 < N) (hpl : (l2.map (·.1)).contains p = false) (hpl2 : (l2.map (·.1)).contains p2 = false)
    (hround : ∀ x x2 s b s', R x x2 s b s' → pe s = none ∧ ∀ H' g', Fresh H' g' → Has H' (Lo s) →
      wpA P N asg (fun e fr2 H2 g2 => e = .normal ∧ ∃ l3 B, FrLe (Fr.of l3) fr2 ∧ St (fun i => i < g') H' B H2 g2 ∧
        ∀ Hb H3, St (fun i => i < g' ∧ i ∉ ids (Lo s)) Hb (B ++ Lo s) H3 g2 → wpA P N body (fun e _ H4 _ => (match pe s' with | none => b = true ∧ e = .normal | some c => b = false ∧ jumpOf c = some e) ∧
          ∃ b4, St (fun i => i < g' ∧ i ∉ ids (Lo s)) Hb (Lo s') H4 b4) (Fr.of l3) H3 g2) (Fr.of ((p2, x2) :: (p, x) :: l2)) H' g')
    (hcon : ∀ (F : AV) (Lx : S → BL), (∀ s s', KinL (Lx s) (Lx s')) → (∀ s, (ids A ++ ids (Lx s)).Nodup) → (∀ s, InB In (Lx s)) → (∀ s H, Has H (Lx s) → In H F) → cellsOf F = some [F] →
      (∀ x x2 s b s', R x x2 s b s' → CSat P F [x, x2] (Lx s) (.v (.bool b)) (Lx s')) → HSat P k (first ++ [F] ++ cap) (A ++ Lx s0) rv (A' ++ Lx sF))
    (hafter : ∀ H', St O H0 L' H' (g + 1) → match pe sF with | none => Q .normal (Fr.of l) H' (g + 1) | some c => ∃ e, jumpOf c = some e ∧ Q e (Fr.of l) H' (g + 1)) :
    wpA P N (.rangeFunc gop #[p, p2] asg body) Q (Fr.of l) H g := by
  simp only [wpA]
  have hgf : Fresh H g := fun j hj => hS.fr j (Nat.le_trans hb hj)
  have hHas := hA.has hS
  have hnd0 : (ids (A ++ Lo s0)).Nodup := hS.nd_at hA hns
  have hgn : ∀ s, g ∉ ids (A ++ Lo s) := fun s hm => by
    rw [show ids (A ++ Lo s) = ids A ++ ids (Lo s) by simp [ids], (hk s s0).ids, show ids A ++ ids (Lo s0) = ids (A ++ Lo s0) by simp [ids]] at hm
    obtain ⟨x, hx⟩ := mem_ids hm
    have := hHas _ hx
    rw [hgf g (Nat.le_refl _)] at this
    cases this
  refine ⟨hna, hnb, k, first, cap, by rw [← ev_of] at hev; exact hev, S, Lo, A, A', pe, fun xs s b s' => ∃ x x2, xs = [x, x2] ∧ R x x2 s b s', s0, l2.map (·.1), l2.map (·.2), hpe, hHas, hnd0, hkA, hk, hin, ?_, ?_, ?_, ?_, ?_⟩
  · intro j t c h1 h2
    rw [List.getElem?_map] at h1 h2
    cases hq : l2[j]? with
    | none => rw [hq] at h1; cases h1
    | some q =>
      rw [hq] at h1 h2
      simp only [Option.map_some, Option.some.injEq] at h1 h2
      subst h1 h2
      have hm := List.mem_of_getElem? hq
      refine ⟨by have := List.all_eq_true.1 hN q hm; simpa using this, ?_⟩
      have : ∀ {l2 : List (Nat × AV)}, FLe l l2 → q ∈ l2 → Le q.2 (lk l q.1) := fun {l2} h hm => by
        induction l2 with
        | nil => simp at hm
        | cons p l2 ih =>
          rcases List.mem_cons.1 hm with rfl | hm
          · exact h.1
          · exact ih h.2 hm
      exact this hl2 hm
  · intro t ht
    simp at ht
    rcases ht with rfl | rfl
    · exact hp
    · exact hp2
  · intro j t h1 ht
    simp at ht
    have := List.mem_of_getElem? h1
    rcases ht with rfl | rfl
    · have h2 : ¬ (l2.map (·.1)).contains t = true := by rw [hpl]; simp
      exact h2 (List.contains_iff_mem.2 this)
    · have h2 : ¬ (l2.map (·.1)).contains t = true := by rw [hpl2]; simp
      exact h2 (List.contains_iff_mem.2 this)
  · rintro xs s b' s' ⟨x, x2, rfl, hr⟩
    obtain ⟨h1, h2⟩ := hround x x2 s b' s' hr
    refine ⟨h1, rfl, fun H' g' hf' hh' hgg => ?_⟩
    rw [rFr_two hp hp2]
    refine wpA_up (h2 H' g' hf' hh') ?_
    rintro e fr2 H2 g2 ⟨rfl, l3, B, hle, hSB, hbody⟩
    refine ⟨rfl, fun i hi => (hSB.old i hi).2, Fr.of l3, hle, fun q => ?_⟩
    have hg2 : g' ≤ g2 := by
      rcases Nat.lt_or_ge g2 g' with h | h
      · have := (hSB.old g2 h).1; omega
      · exact h
    have hgs : g ∉ ids (Lo s) := fun hm => hgn s (by rw [show ids (A ++ Lo s) = ids A ++ ids (Lo s) by simp [ids]]; exact List.mem_append.2 (.inr hm))
    have hlo : ∀ q, q ∈ Lo s → q.1 < g' ∧ H' q.1 = some q.2 := fun q hq => by
      have h3 := hh' q hq
      refine ⟨?_, h3⟩
      rcases Nat.lt_or_ge q.1 g' with h | h
      · exact h
      · rw [hf' _ h] at h3; cases h3
    have hBg : ∀ q, q ∈ B → g' ≤ q.1 := fun q hq => by
      have := (hSB.has q hq).1
      omega
    have hidlo : ∀ q, q ∈ Lo s → q.1 ∈ ids (Lo s) := fun q hq => List.mem_map_of_mem (f := (·.1)) hq
    have hS3 : St (fun i => i < g' ∧ i ∉ ids (Lo s)) (H'.set g (.obj (some q) (recB q))) (B ++ Lo s) (H2.set g (.obj (some q) (recB q))) g2 := by
      refine ⟨fun i hi => ⟨by have := hi.1; omega, ?_⟩, fun q' hq => ?_, ?_, fun i hi => ?_⟩
      · by_cases hig : i = g
        · subst hig; rw [Heap.set_same, Heap.set_same]
        · rw [Heap.set_ne _ _ hig, Heap.set_ne _ _ hig]; exact (hSB.old i hi.1).2
      · rcases List.mem_append.1 hq with hq | hq
        · have h3 := hSB.has q' hq
          have h4 := hBg q' hq
          exact ⟨fun h => by have := h.1; omega, h3.2.1, by rw [Heap.set_ne _ _ (by omega)]; exact h3.2.2⟩
        · obtain ⟨h3, h4⟩ := hlo q' hq
          exact ⟨fun h => h.2 (hidlo q' hq), by omega, by rw [Heap.set_ne _ _ (show q'.1 ≠ g from fun e => hgs (e ▸ hidlo q' hq)), (hSB.old _ h3).2]; exact h4⟩
      · rw [List.map_append, List.nodup_append]
        refine ⟨hSB.nd, ?_, fun a ha c hc e => ?_⟩
        · have h5 : (ids A ++ ids (Lo s0)).Nodup := by simpa [ids] using hnd0
          have := (List.nodup_append.1 h5).2.1
          rw [(hk s0 s).ids] at this
          exact this
        · subst e
          obtain ⟨q1, h3, rfl⟩ := List.mem_map.1 ha
          obtain ⟨q2, h4, h5⟩ := List.mem_map.1 hc
          have h6 := hBg q1 h3
          have h7 := (hlo q2 h4).1
          omega
      · rw [Heap.set_ne _ _ (by omega)]; exact hSB.fr i hi
    refine wpA_up (hbody _ _ hS3) ?_
    rintro e _ H4 _ ⟨hm, b4, hS4⟩
    exact ⟨hm, fun q' hq => (hS4.has q' hq).2.2, fun i hi => (hS4.old i hi).2⟩
  · intro q hq
    refine ⟨rv, sF, fun hy => ?_, fun H' hf' hh' hold => ?_⟩
    · refine hcon (.yld g (l2.map (·.1)) (l2.map (·.2))) (fun s => (g, .obj (some q) (recP q (pe s))) :: Lo s) (fun s s' => ⟨rfl, rfl, hk s s'⟩) (fun s => ?_) (fun s p' cs hp' he c hc H' hH' => ?_) (fun s H' hH' => ?_) rfl (fun x x2 s b' s' hr => show YSat P _ _ _ _ _ _ _ from hy [x, x2] s b' s' ⟨x, x2, rfl, hr⟩) |> fun h => by simp only [hpe] at h; exact h
      · show (ids A ++ g :: ids (Lo s)).Nodup
        have h1 : (ids A ++ ids (Lo s0)).Nodup := by simpa [ids] using hnd0
        rw [← (hk s s0).ids] at h1
        have h2 := List.nodup_append.1 h1
        have h3 := hgn s
        rw [show ids (A ++ Lo s) = ids A ++ ids (Lo s) by simp [ids], List.mem_append, not_or] at h3
        refine List.nodup_append.2 ⟨h2.1, List.nodup_cons.2 ⟨h3.2, h2.2.1⟩, fun a ha c hc e => ?_⟩
        subst e
        rcases List.mem_cons.1 hc with rfl | hc
        · exact h3.1 ha
        · exact h2.2.2 a ha a hc rfl
      · rcases List.mem_cons.1 hp' with rfl | hp'
        · cases he
        · exact hin s p' cs hp' he c hc H' fun x hx => hH' x (by simp [hx])
      · refine .yld _ _ _ q _ (hH' (g, .obj (some q) (recP q (pe s))) (by simp)) fun j t c h1 h2 => hcs s H' (fun x hx => hH' x (by simp [hx])) c (List.mem_of_getElem? h2)
    · refine hafter H' ?_
      have hS1 := hS.puts hA
      rw [hL] at hS1
      have hidF : ids (A' ++ Lo sF) = ids (A ++ Lo s0) := by
        rw [show ids (A' ++ Lo sF) = ids A' ++ ids (Lo sF) by simp [ids], ← hkA.ids, (hk sF s0).ids]; simp [ids]
      have hagree : ∀ i, i < g → H' i = (H.puts (A' ++ Lo sF)) i := fun i hi => by
        by_cases hm : i ∈ ids (A ++ Lo s0)
        · rw [← hidF] at hm
          obtain ⟨x, hx⟩ := mem_ids hm
          rw [hh' _ hx, puts_in H (by rw [hidF]; exact hnd0) _ hx]
        · rw [hold i ⟨hi, hm⟩, puts_not _ (by rw [hidF]; exact hm)]
      refine ⟨fun i hi => ⟨?_, ?_⟩, fun p' hp' => ?_, hS1.nd, hf'⟩
      · have := (hS1.old i hi).1; omega
      · rw [hagree i (by have := (hS1.old i hi).1; omega)]; exact (hS1.old i hi).2
      · have h1 := hS1.has p' hp'
        have h2 : p'.1 < b := h1.2.1
        exact ⟨h1.1, Nat.lt_succ_of_lt (Nat.lt_of_lt_of_le h2 hb), by rw [hagree _ (Nat.lt_of_lt_of_le h2 hb)]; exact h1.2.2⟩
theorem w_range0D {P : Program} {N : Nat} {Q : Exit → Fr → Heap → Nat → Prop} {l : List (Nat × AV)} {H : Heap} {g : Nat} {O : Nat → Prop} {H0 : Heap} {L L' : BL} {b : Nat}
    {gop : Operand} {p p2 : Nat} {asg body : Code} {k : FuncId} {first cap : List AV} {S : Type} {Lo : S → BL} {R : AV → AV → S → Bool → S → Prop} {s0 sF : S} {A A' : BL} {rv : AV} (l2 : List (Nat × AV)) (ns : List Nat)
    (hS : St O H0 L H b) (hb : b ≤ g) (hev : evL N l gop = .fn (.func k) first cap) (hna : noRF asg = true) (hnb : noRF body = true)
    (hA : At L ns (A ++ Lo s0) (A' ++ Lo sF)) (hns : ns.Nodup) (hL : putsAt L ns (A' ++ Lo sF) = L')
    (hkA : KinL A A') (hk : ∀ s s', KinL (Lo s) (Lo s')) (hin : ∀ s, InB In (Lo s)) (hcs : ∀ s H, Has H (Lo s) → ∀ c, c ∈ l2.map (·.2) → In H c)
    (hl2 : FLe l l2) (hN : l2.all (fun q => decide (q.1 < N)) = true) (hp : p < N) (hp2 : p2 < N) (hpl : (l2.map (·.1)).contains p = false) (hpl2 : (l2.map (·.1)).contains p2 = false)
    (hround : ∀ x x2 s b s', R x x2 s b s' → true = true ∧ ∀ H' g', Fresh H' g' → Has H' (Lo s) →
      wpA P N asg (fun e fr2 H2 g2 => e = .normal ∧ ∃ l3 B, FrLe (Fr.of l3) fr2 ∧ St (fun i => i < g') H' B H2 g2 ∧
        ∀ Hb H3, St (fun i => i < g' ∧ i ∉ ids (Lo s)) Hb (B ++ Lo s) H3 g2 → wpA P N body (fun e _ H4 _ => RbPost false b e ∧ ∃ b4, St (fun i => i < g' ∧ i ∉ ids (Lo s)) Hb (Lo s') H4 b4) (Fr.of l3) H3 g2) (Fr.of ((p2, x2) :: (p, x) :: l2)) H' g')
    (hcon : ∀ (F : AV) (Lx : S → BL), (∀ s s', KinL (Lx s) (Lx s')) → (∀ s, (ids A ++ ids (Lx s)).Nodup) → (∀ s, InB In (Lx s)) → (∀ s H, Has H (Lx s) → In H F) → cellsOf F = some [F] →
      (∀ x x2 s b s', R x x2 s b s' → CSat P F [x, x2] (Lx s) (.v (.bool b)) (Lx s')) → HSat P k (first ++ [F] ++ cap) (A ++ Lx s0) rv (A' ++ Lx sF))
    (hafter : ∀ H', St O H0 L' H' (g + 1) → Q .normal (Fr.of l) H' (g + 1)) :
    wpA P N (.rangeFunc gop #[p, p2] asg body) Q (Fr.of l) H g := by
  refine w_rangeD Lo (fun _ => none) R s0 sF l2 ns hS hb hev hna hnb rfl hA hns hL hkA hk hin hcs hl2 hN hp hp2 hpl hpl2 (fun x x2 s b s' hr => ⟨rfl, fun H' g' hf hh => ?_⟩) hcon hafter
  refine wpA_up ((hround x x2 s b s' hr).2 H' g' hf hh) ?_
  rintro e fr2 H2 g2 ⟨h1, l3, B, h2, h3, h4⟩
  refine ⟨h1, l3, B, h2, h3, fun Hb H3 h5 => wpA_up (h4 Hb H3 h5) ?_⟩
  rintro e _ H4 _ ⟨h6, h7⟩
  refine ⟨?_, h7⟩
  rcases h6 with ⟨_, h8, h9⟩ | ⟨h8, _⟩
  · exact ⟨h8, h9⟩
  · cases h8
theorem w_rangeRD {P : Program} {N : Nat} {Q : Exit → Fr → Heap → Nat → Prop} {l : List (Nat × AV)} {H : Heap} {g : Nat} {O : Nat → Prop} {H0 : Heap} {L L' : BL} {b : Nat}
    {gop : Operand} {p p2 : Nat} {asg body : Code} {k : FuncId} {first cap : List AV} {S : Type} {Lo : S → BL} {fl : S → Bool} {R : AV → AV → S → Bool → S → Prop} {s0 sF : S} {A A' : BL} {rv : AV} (l2 : List (Nat × AV)) (ns : List Nat)
    (hS : St O H0 L H b) (hb : b ≤ g) (hev : evL N l gop = .fn (.func k) first cap) (hna : noRF asg = true) (hnb : noRF body = true) (hfl : fl s0 = false)
    (hA : At L ns (A ++ Lo s0) (A' ++ Lo sF)) (hns : ns.Nodup) (hL : putsAt L ns (A' ++ Lo sF) = L')
    (hkA : KinL A A') (hk : ∀ s s', KinL (Lo s) (Lo s')) (hin : ∀ s, InB In (Lo s)) (hcs : ∀ s H, Has H (Lo s) → ∀ c, c ∈ l2.map (·.2) → In H c)
    (hl2 : FLe l l2) (hN : l2.all (fun q => decide (q.1 < N)) = true) (hp : p < N) (hp2 : p2 < N) (hpl : (l2.map (·.1)).contains p = false) (hpl2 : (l2.map (·.1)).contains p2 = false)
    (hround : ∀ x x2 s b s', R x x2 s b s' → fl s = false ∧ ∀ H' g', Fresh H' g' → Has H' (Lo s) →
      wpA P N asg (fun e fr2 H2 g2 => e = .normal ∧ ∃ l3 B, FrLe (Fr.of l3) fr2 ∧ St (fun i => i < g') H' B H2 g2 ∧
        ∀ Hb H3, St (fun i => i < g' ∧ i ∉ ids (Lo s)) Hb (B ++ Lo s) H3 g2 → wpA P N body (fun e _ H4 _ => RbPost (fl s') b e ∧ ∃ b4, St (fun i => i < g' ∧ i ∉ ids (Lo s)) Hb (Lo s') H4 b4) (Fr.of l3) H3 g2) (Fr.of ((p2, x2) :: (p, x) :: l2)) H' g')
    (hcon : ∀ (F : AV) (Lx : S → BL), (∀ s s', KinL (Lx s) (Lx s')) → (∀ s, (ids A ++ ids (Lx s)).Nodup) → (∀ s, InB In (Lx s)) → (∀ s H, Has H (Lx s) → In H F) → cellsOf F = some [F] →
      (∀ x x2 s b s', R x x2 s b s' → CSat P F [x, x2] (Lx s) (.v (.bool b)) (Lx s')) → HSat P k (first ++ [F] ++ cap) (A ++ Lx s0) rv (A' ++ Lx sF))
    (hafter : ∀ H', St O H0 L' H' (g + 1) → (fl sF = false → Q .normal (Fr.of l) H' (g + 1)) ∧ (fl sF = true → Q .ret (Fr.of l) H' (g + 1))) :
    wpA P N (.rangeFunc gop #[p, p2] asg body) Q (Fr.of l) H g := by
  refine w_rangeD Lo (fun s => cond (fl s) (some .ret) none) R s0 sF l2 ns hS hb hev hna hnb (by simp [hfl]) hA hns hL hkA hk hin hcs hl2 hN hp hp2 hpl hpl2 (fun x x2 s b s' hr => ⟨by simp [(hround x x2 s b s' hr).1], fun H' g' hf hh => ?_⟩) hcon (fun H' h => ?_)
  · refine wpA_up ((hround x x2 s b s' hr).2 H' g' hf hh) ?_
    rintro e fr2 H2 g2 ⟨h1, l3, B, h2, h3, h4⟩
    refine ⟨h1, l3, B, h2, h3, fun Hb H3 h5 => wpA_up (h4 Hb H3 h5) ?_⟩
    rintro e _ H4 _ ⟨h6, h7⟩
    refine ⟨?_, h7⟩
    rcases h6 with ⟨h8, h9, h10⟩ | ⟨h8, h9, h10⟩
    · rw [h8]; exact ⟨h9, h10⟩
    · rw [h8, h10]; exact ⟨h9, rfl⟩
  · have h1 := hafter H' h
    cases hx : fl sF with
    | false => rw [hx] at h1; exact h1.1 rfl
    | true => rw [hx] at h1; exact ⟨.ret, rfl, h1.2 rfl⟩
def fA {α : Type} (f : α → AV) : Option α → AV
  | none => .v .nilFunc
  | some x => f x
theorem fA_some {α : Type} {f : α → AV} {o : Option α} {u : α} (h : o = some u) : fA f o = f u := by subst h; rfl
theorem cellsOf_fA {α : Type} {f : α → AV} (h : ∀ x, cellsOf (f x) = some [f x]) (o : Option α) : cellsOf (fA f o) = some [fA f o] := by
  cases o with
  | none => rfl
  | some x => exact h x
theorem pure_fA {α : Type} {f : α → AV} (h : ∀ x, Pure (f x)) (o : Option α) : Pure (fA f o) := by
  cases o with
  | none => exact .v _
  | some x => exact h x
end Go.AM
