/-
  The abstract machine: functions that change several blocks, or a state that a given function keeps.
  Conditions: none; it speaks of any program.
-/
import Derived.Test.YtkgldpboiigphaaAmO
set_option linter.all false
namespace Go.AM
open Go Go.RowKit

/-- Blocks of cells. -/
abbrev Bs := List (Nat × List AV)
def tx (L : Bs) : List (Nat × Blk) := L.map fun p => (p.1, .cells p.2)
def ids (L : Bs) : List Nat := L.map (·.1)
theorem tx_ids (L : Bs) : (tx L).map (·.1) = ids L := by simp [tx, ids]
def Heap.puts (H : Heap) : Bs → Heap
  | [] => H
  | p :: L => (Heap.puts H L).set p.1 (.cells p.2)
theorem puts_not (H : Heap) {L : Bs} {i : Nat} (h : i ∉ ids L) : (H.puts L) i = H i := by
  induction L with
  | nil => rfl
  | cons p L ih =>
    simp only [ids, List.map_cons, List.mem_cons, not_or] at h
    show ((H.puts L).set p.1 _) i = _
    rw [Heap.set_ne _ _ h.1]
    exact ih h.2
theorem puts_in (H : Heap) {L : Bs} (hn : (ids L).Nodup) {i : Nat} {cs : List AV} (h : (i, cs) ∈ L) : (H.puts L) i = some (.cells cs) := by
  induction L with
  | nil => simp at h
  | cons p L ih =>
    simp only [ids, List.map_cons, List.nodup_cons] at hn
    show ((H.puts L).set p.1 _) i = _
    rcases List.mem_cons.1 h with rfl | h
    · exact Heap.set_same _ _ _
    · rw [Heap.set_ne _ _ (fun e => hn.1 (by rw [← e]; exact List.mem_map_of_mem (f := (·.1)) h))]
      exact ih hn.2 h
theorem puts_cases {H : Heap} {L : Bs} {i : Nat} {x : Blk} (h : (H.puts L) i = some x) : (∃ cs, (i, cs) ∈ L ∧ x = .cells cs) ∨ (i ∉ ids L ∧ H i = some x) := by
  induction L with
  | nil => exact .inr ⟨by simp [ids], h⟩
  | cons p L ih =>
    rcases Heap.set_cases h with ⟨rfl, hx⟩ | ⟨hne, hx⟩
    · exact .inl ⟨p.2, by simp, hx⟩
    · rcases ih hx with ⟨cs, h1, h2⟩ | ⟨h1, h2⟩
      · exact .inl ⟨cs, by simp [h1], h2⟩
      · exact .inr ⟨by simp [ids]; exact ⟨hne, by simpa [ids] using h1⟩, h2⟩
theorem mem_ids {L : Bs} {i : Nat} (h : i ∈ ids L) : ∃ cs, (i, cs) ∈ L := by
  obtain ⟨p, hp, rfl⟩ := List.mem_map.1 h
  exact ⟨p.2, hp⟩

/-- The call turns these blocks into those, and changes nothing else. -/
def HSat (P : Program) (f : FuncId) (as : List AV) (L : Bs) (r : AV) (L' : Bs) : Prop :=
  ∀ H g, Fresh H g → (∀ i cs, (i, cs) ∈ L → H i = some (.cells cs)) → Sat P f as H g r (H.puts L') g
theorem HSat.le {P : Program} {k : FuncId} {as bs : List AV} {L L' : Bs} {r : AV} (h : HSat P k as L r L') (hl : LeL as bs) : HSat P k bs L r L' := fun H g hf hc =>
  ⟨(h H g hf hc).1, fun G w vs hp hv => (h H g hf hc).2 G w vs hp (hv.le hl)⟩

theorem hsat_of_wp {P : Program} {N : Nat} (hm : P.follows .mixedOrders = true) {f : FuncId} {fn : Func} {c : Code} (hf : P.funcs[f]? = some fn) (hb : fn.body = some c) (hname : fn.name ≠ "runtime.NumGoroutine") (hN : fn.ntmps = N)
    {as : List AV} (hlen : as.length ≤ N) {r : AV} {L L' : Bs} (hids : ids L' = ids L) (hnd : (ids L).Nodup) (hp : Pure r) (hds : ∀ p, p ∈ L' → ∀ c, c ∈ p.2 → Pure c)
    (h : ∀ H g, Fresh H g → (∀ i cs, (i, cs) ∈ L → H i = some (.cells cs)) → wpA P N c (fun e fr H1 _ => (e = .normal ∨ e = .ret) ∧ (∃ x, resA P N fr H1 fn.results.toList = some x ∧ Le r x) ∧ (∀ i, i < g ∧ i ∉ ids L → H1 i = H i) ∧ ∀ i cs, (i, cs) ∈ L' → H1 i = some (.cells cs)) (frame0 as) H g) : HSat P f as L r L' := fun H g hfr hid => by
  have hlt : ∀ i x, H i = some x → i < g := fun i x hi => by
    rcases Nat.lt_or_ge i g with h | h
    · exact h
    · rw [hfr i h] at hi; cases hi
  have hold : ∀ i, i ∈ ids L → ∃ cs, H i = some (.cells cs) := fun i hi => by
    obtain ⟨cs, hc⟩ := mem_ids hi
    exact ⟨cs, hid i cs hc⟩
  have hnd' : (ids L').Nodup := hids ▸ hnd
  refine sat_of_wp hm hf hb hname hN hlen hfr (fun i hi => ?_) (Nat.le_refl _) hp.inH (fun i cs hq => ?_) (fun i e n hq => ?_) (fun i _ hq => ?_) (fun i cs' hq => ?_)
    (h H g hfr hid) fun e fr H1 g1 hq => ⟨hq.1, hq.2.1, fun i x hi => ?_⟩
  · rw [puts_not]
    · exact hfr i hi
    · rw [hids]
      intro hm
      obtain ⟨cs, hc⟩ := hold i hm
      rw [hfr i hi] at hc
      cases hc
  · by_cases e : i ∈ ids L'
    · obtain ⟨ds, hd⟩ := mem_ids e
      exact ⟨ds, puts_in H hnd' hd⟩
    · exact ⟨cs, by rw [puts_not H e]; exact hq⟩
  · have e' : i ∉ ids L' := fun e' => by
      rw [hids] at e'
      obtain ⟨cs, hc⟩ := hold i e'
      rw [hc] at hq
      cases hq
    exact ⟨n, by rw [puts_not H e']; exact hq⟩
  · rw [puts_not]
    · exact hq
    · rw [hids]
      intro hm
      obtain ⟨cs, hc⟩ := hold i hm
      rw [hc] at hq
      cases hq
  · rcases puts_cases hq with ⟨ds, h1, h2⟩ | ⟨_, h2⟩
    · injection h2 with h2
      subst h2
      exact .inr fun c hc => (hds _ h1 c hc).inH
    · exact .inl h2
  · rcases puts_cases hi with ⟨ds, h1, rfl⟩ | ⟨h1, h2⟩
    · exact hq.2.2.2 i ds h1
    · rw [hq.2.2.1 i ⟨hlt i x h2, by rw [← hids]; exact h1⟩]
      exact h2

theorem St.startH {g : Nat} {H : Heap} {L : Bs} (hf : Fresh H g) (hnd : (ids L).Nodup) (hp : ∀ i cs, (i, cs) ∈ L → H i = some (.cells cs)) : St (fun i => i < g ∧ i ∉ ids L) H (tx L) H g := by
  refine ⟨fun _ h => ⟨h.1, rfl⟩, fun q hq => ?_, by rw [tx_ids]; exact hnd, hf⟩
  obtain ⟨p, hpm, rfl⟩ := List.mem_map.1 hq
  have h1 := hp p.1 p.2 hpm
  refine ⟨fun h => h.2 (List.mem_map_of_mem (f := (·.1)) hpm), ?_, h1⟩
  show p.1 < g
  rcases Nat.lt_or_ge p.1 g with h | h
  · exact h
  · rw [hf _ h] at h1; cases h1

theorem w_endH {α : Type} {P : Program} {N : Nat} {fr : Fr} {H H0 : Heap} {g b : Nat} {I : List Nat} {L : List (Nat × Blk)} {rs : List ResultVar} {e : Exit} {x : AV} {f : α → AV} {fd : α → Bs} {u r : α} (he : e = .normal ∨ e = .ret) (hx : resA P N fr H rs = some x) (hl : Le (f u) x) (hu : u = r) (hS : St (fun i => i < g ∧ i ∉ I) H0 L H b)
    (m : List Bool) (hn : keepBy m L = tx (fd u)) :
    (e = .normal ∨ e = .ret) ∧ (∃ x, resA P N fr H rs = some x ∧ Le (f r) x) ∧ (∀ i, i < g ∧ i ∉ I → H i = H0 i) ∧ ∀ i cs, (i, cs) ∈ fd r → H i = some (.cells cs) := by
  subst hu
  refine ⟨he, ⟨x, hx, hl⟩, fun i hi => (hS.old i hi).2, fun i cs hm => ?_⟩
  have h := hS.keep m hn
  exact (h.has (i, .cells cs) (List.mem_map.2 ⟨(i, cs), hm, rfl⟩)).2.2

theorem hs_nil : ∀ p, p ∈ ([] : Bs) → ∀ c, c ∈ p.2 → Pure c := fun _ h => by simp at h
theorem hs_cons {i : Nat} {cs : List AV} {L : Bs} (h : ∀ c, c ∈ cs → Pure c) (t : ∀ p, p ∈ L → ∀ c, c ∈ p.2 → Pure c) : ∀ p, p ∈ (i, cs) :: L → ∀ c, c ∈ p.2 → Pure c := fun p hp => by
  rcases List.mem_cons.1 hp with rfl | hp
  · exact h
  · exact t p hp

theorem w_endS {α : Type} {P : Program} {N : Nat} {fr : Fr} {H H0 : Heap} {g b : Nat} {I : List Nat} {L : List (Nat × Blk)} {rs : List ResultVar} {e : Exit} {x : AV} {f : α → AV} {fd : α → Bs} {u r : α} (he : e = .normal ∨ e = .ret) (hx : resA P N fr H rs = some x) (hl : Le (f u) x) (hu : u = r) (hS : St (fun i => i < g ∧ i ∉ I) H0 L H b)
    (n : Nat) (hn : L.drop n = tx (fd u)) :
    (e = .normal ∨ e = .ret) ∧ (∃ x, resA P N fr H rs = some x ∧ Le (f r) x) ∧ (∀ i, i < g ∧ i ∉ I → H i = H0 i) ∧ ∀ i cs, (i, cs) ∈ fd r → H i = some (.cells cs) := by
  subst hu
  refine ⟨he, ⟨x, hx, hl⟩, fun i hi => (hS.old i hi).2, fun i cs hm => ?_⟩
  have h := hS.sub (hn ▸ List.drop_sublist n L : (tx (fd u)).Sublist L)
  exact (h.has (i, .cells cs) (List.mem_map.2 ⟨(i, cs), hm, rfl⟩)).2.2
theorem lel_mid (u w : List AV) {as bs : List AV} (h : LeL as bs) : LeL (u ++ as ++ w) (u ++ bs ++ w) := by
  induction u with
  | nil =>
    simp only [List.nil_append]
    induction as generalizing bs with
    | nil => cases bs with
      | nil => exact LeL.refl w
      | cons b bs => exact h.elim
    | cons a as ih => cases bs with
      | nil => exact h.elim
      | cons b bs => exact ⟨h.1, ih h.2⟩
  | cons a u ih => exact ⟨.refl a, ih⟩

/-- Where some blocks stand in the list. -/
def At (L : List (Nat × Blk)) : List Nat → Bs → Bs → Prop
  | [], [], [] => True
  | n :: ns, p :: M, q :: M' => L[n]? = some (p.1, .cells p.2) ∧ q.1 = p.1 ∧ At L ns M M'
  | _, _, _ => False
theorem At.nil {L : List (Nat × Blk)} : At L [] [] [] := trivial
theorem At.cons {L : List (Nat × Blk)} {n i : Nat} {cs ds : List AV} {ns : List Nat} {M M' : Bs} (h : L[n]? = some (i, .cells cs)) (t : At L ns M M') : At L (n :: ns) ((i, cs) :: M) ((i, ds) :: M') := ⟨h, rfl, t⟩
def putsAt (L : List (Nat × Blk)) : List Nat → Bs → List (Nat × Blk)
  | n :: ns, p :: M' => putAt (putsAt L ns M') n (.cells p.2)
  | _, _ => L
theorem putAt_get {L : List (Nat × Blk)} {n m i : Nat} {x b : Blk} (h : L[n]? = some (i, x)) : ∃ y, (putAt L m b)[n]? = some (i, y) := by
  induction L generalizing n m with
  | nil => simp at h
  | cons p L ih =>
    cases m with
    | zero =>
      cases n with
      | zero => simp at h; subst h; exact ⟨b, rfl⟩
      | succ n => exact ⟨x, by simpa [putAt] using h⟩
    | succ m =>
      cases n with
      | zero => exact ⟨x, by simpa [putAt] using h⟩
      | succ n => simpa [putAt] using ih (by simpa using h)
theorem putsAt_get {L : List (Nat × Blk)} (ns : List Nat) (M : Bs) {n i : Nat} {x : Blk} (h : L[n]? = some (i, x)) : ∃ y, (putsAt L ns M)[n]? = some (i, y) := by
  induction ns generalizing M with
  | nil => exact ⟨x, by simpa [putsAt] using h⟩
  | cons k ns ih =>
    cases M with
    | nil => exact ⟨x, by simpa [putsAt] using h⟩
    | cons p M =>
      obtain ⟨y, hy⟩ := ih M
      exact putAt_get hy
theorem St.puts {O : Nat → Prop} {H0 H : Heap} {L : List (Nat × Blk)} {b : Nat} (hS : St O H0 L H b) {ns : List Nat} {M M' : Bs} (h : At L ns M M') : St O H0 (putsAt L ns M') (H.puts M') b := by
  induction ns generalizing M M' with
  | nil =>
    cases M with
    | nil => cases M' with
      | nil => exact hS
      | cons q M' => exact h.elim
    | cons p M => exact h.elim
  | cons n ns ih =>
    cases M with
    | nil => exact h.elim
    | cons p M =>
      cases M' with
      | nil => exact h.elim
      | cons q M' =>
        obtain ⟨h1, h2, h3⟩ := h
        obtain ⟨y, hy⟩ := putsAt_get ns M' h1
        have := (ih h3).put hy (.cells q.2)
        show St O H0 (putAt (putsAt L ns M') n _) ((H.puts M').set q.1 _) b
        rw [h2]
        exact this
theorem At.has {O : Nat → Prop} {H0 H : Heap} {L : List (Nat × Blk)} {b : Nat} (hS : St O H0 L H b) {ns : List Nat} {M M' : Bs} (h : At L ns M M') : ∀ i cs, (i, cs) ∈ M → H i = some (.cells cs) := by
  induction ns generalizing M M' with
  | nil =>
    cases M with
    | nil => intro i cs h; simp at h
    | cons p M => cases M' <;> exact h.elim
  | cons n ns ih =>
    cases M with
    | nil => intro i cs h; simp at h
    | cons p M =>
      cases M' with
      | nil => exact h.elim
      | cons q M' =>
        obtain ⟨h1, h2, h3⟩ := h
        intro i cs hm
        rcases List.mem_cons.1 hm with rfl | hm
        · exact hS.get h1
        · exact ih h3 i cs hm

theorem St.state {O : Nat → Prop} {H0 H : Heap} {L : List (Nat × Blk)} {b : Nat} {M M' : Bs} (hS : St O H0 (L ++ tx M) H b) (hids : ids M' = ids M) : St O H0 (L ++ tx M') (H.puts M') b := by
  have hnd := hS.nd
  rw [List.map_append, tx_ids, List.nodup_append] at hnd
  have hM : ∀ p, p ∈ M' → ¬ O p.1 ∧ p.1 < b := fun p hp => by
    have : p.1 ∈ ids M := by rw [← hids]; exact List.mem_map_of_mem (f := (·.1)) hp
    obtain ⟨cs, hc⟩ := mem_ids this
    have := hS.has (p.1, .cells cs) (List.mem_append.2 (.inr (List.mem_map.2 ⟨(p.1, cs), hc, rfl⟩)))
    exact ⟨this.1, this.2.1⟩
  refine ⟨fun i hi => ⟨(hS.old i hi).1, ?_⟩, fun p hp => ?_, ?_, fun i hi => ?_⟩
  · rw [puts_not]
    · exact (hS.old i hi).2
    · intro hm
      obtain ⟨cs, hc⟩ := mem_ids hm
      exact (hM _ hc).1 hi
  · rcases List.mem_append.1 hp with hp | hp
    · have := hS.has p (List.mem_append.2 (.inl hp))
      refine ⟨this.1, this.2.1, ?_⟩
      rw [puts_not]
      · exact this.2.2
      · rw [hids]
        intro hm
        exact hnd.2.2 _ (List.mem_map_of_mem (f := (·.1)) hp) _ hm rfl
    · obtain ⟨q, hq, rfl⟩ := List.mem_map.1 hp
      exact ⟨(hM q hq).1, (hM q hq).2, puts_in H (hids ▸ hnd.2.1) hq⟩
  · rw [List.map_append, tx_ids, hids, List.nodup_append]
    exact hnd
  · rw [puts_not]
    · exact hS.fr i hi
    · intro hm
      obtain ⟨cs, hc⟩ := mem_ids hm
      have := (hM _ hc).2
      simp at this
      omega

/-- What is known of cells is weakened. -/
theorem w_weakC {P : Program} {N : Nat} {Q : Exit → Fr → Heap → Nat → Prop} {l : List (Nat × AV)} {H : Heap} {g : Nat} {b : Code} {O : Nat → Prop} {H0 : Heap} {L L' : List (Nat × Blk)} {bd i : Nat} {cs cs' : List AV} (n : Nat) (hS : St O H0 L H bd) (hn : L[n]? = some (i, .cells cs)) (hle : LeL cs' cs) (hL : putAt L n (.cells cs') = L')
    (h : ∀ H', St O H0 L' H' bd → Exit.thenA (fun fr' H' g' => ∃ fr0 H0 g0, Down fr' H' g' fr0 H0 g0 ∧ wpA P N b Q fr0 H0 g0) Q .normal (Fr.of l) H' g) :
    Exit.thenA (fun fr' H' g' => ∃ fr0 H0 g0, Down fr' H' g' fr0 H0 g0 ∧ wpA P N b Q fr0 H0 g0) Q .normal (Fr.of l) H g := by
  have hi := hS.get hn
  obtain ⟨fr0, H1, g1, hd, hw⟩ := h _ (hL ▸ hS.put hn (.cells cs'))
  refine ⟨fr0, H1, g1, Down.trans (fun hf => ?_) hd, hw⟩
  have hsame : ∀ (x : Nat) ds, (H.set i (.cells cs')) x = some (.cells ds) → ∃ ds', H x = some (.cells ds') := fun x ds h => by
    rcases Heap.set_cases h with ⟨rfl, _⟩ | ⟨_, h⟩
    · exact ⟨cs, hi⟩
    · exact ⟨ds, h⟩
  have hrow : ∀ (x : Nat) d n, (H.set i (.cells cs')) x = some (.row d n) → H x = some (.row d n) := fun x d n h => by
    rcases Heap.set_cases h with ⟨_, hx⟩ | ⟨_, hx⟩
    · cases hx
    · exact hx
  refine ⟨fun x hx => ?_, fun G w hp => ?_⟩
  · have hne : x ≠ i := fun e => by subst e; rw [hf x hx] at hi; cases hi
    rw [Heap.set_ne _ _ hne]
    exact hf x hx
  have hfree : ∀ b n, Free G H b n → Free G (H.set i (.cells cs')) b n := fun b n h =>
    ⟨fun x ds hx => by obtain ⟨ds', hx'⟩ := hsame x ds hx; exact h.1 x ds' hx', fun x d m hx => h.2 x d m (hrow x d m hx)⟩
  have E : Evo G H w G (H.set i (.cells cs')) w := by
    refine ⟨fun x ds h => ⟨rfl, ?_⟩, fun x d n h => ⟨rfl, n, ?_, Nat.le_refl _, fun _ => rfl⟩, fun b n h => ⟨fun _ _ _ hx => hx, fun _ => hfree b n h⟩⟩
    · by_cases hx : x = i
      · subst hx; exact ⟨_, Heap.set_same _ _ _⟩
      · exact ⟨ds, by rw [Heap.set_ne _ _ hx]; exact h⟩
    · rw [Heap.set_ne _ _ (fun e => by subst e; rw [hi] at h; cases h)]; exact h
  refine ⟨G, ⟨fun x ds h => ?_, fun x d n h => hp.rows x d n (hrow x d n h), fun x y ds fs h1 h2 he => ?_, fun x y ds d n h1 h2 => ?_, fun x y d m d' n b h1 h2 => hp.own x y d m d' n b (hrow x d m h1) (hrow y d' n h2)⟩, ⟨E, rfl, rfl, rfl, Nat.le_refl _, fun _ _ _ => rfl, fun b hb => .inl ?_⟩, fun t x hv => hv.evo E⟩
  · rcases Heap.set_cases h with ⟨rfl, hx⟩ | ⟨_, hx⟩
    · injection hx with hx
      subst hx
      obtain ⟨vs, ty, h1, h2, h3, h4⟩ := hp.cells x cs hi
      refine ⟨vs, ty, h1, by rw [h2, hle.get.1], h3, fun y c v hc hv => ?_⟩
      have hy : y < cs.length := by have := (List.getElem?_eq_some_iff.1 hc).1; rw [hle.get.1] at this; exact this
      exact ((h4 y cs[y] v (List.getElem?_eq_getElem hy) hv).le (hle.get.2 y c _ hc (List.getElem?_eq_getElem hy))).evo E
    · obtain ⟨vs, ty, h1, h2, h3, h4⟩ := hp.cells x ds hx
      exact ⟨vs, ty, h1, h2, h3, fun y c v hc hv => (h4 y c v hc hv).evo E⟩
  · obtain ⟨ds', h1'⟩ := hsame x ds h1
    obtain ⟨fs', h2'⟩ := hsame y fs h2
    exact hp.inj x y ds' fs' h1' h2' he
  · obtain ⟨ds', h1'⟩ := hsame x ds h1
    exact hp.sep x y ds' d n h1' (hrow y d n h2)
  · rcases hb with ⟨x, ds, hx, hb⟩ | ⟨x, d, n, hx, hb⟩
    · obtain ⟨ds', hx'⟩ := hsame x ds hx
      exact .inl ⟨x, ds', hx', hb⟩
    · exact .inr ⟨x, d, n, hrow x d n hx, hb⟩

section
variable {P : Program} {N : Nat} {l : List (Nat × AV)} {H : Heap} {g : Nat} {g0 i : Nat} {ops : Array Oper} {K : Fr → Heap → Nat → Prop} {r : List Oper} {d : Nat} {ty : TypeId} {pos : String} {after : Array Edge}
  {O : Nat → Prop} {H0 : Heap} {L L' : List (Nat × Blk)} {b : Nat}
/-- A call that changes several blocks. -/
theorem o_hsat {f : Operand} {args : Array Operand} {ts : Array TypeId} {k : FuncId} {first cap bs : List AV} {v : AV} {M M' : Bs} (ns : List Nat) (hS : St O H0 L H b) (hd : d < N) (ht : tgt (evL N l f) = some (k, first, cap)) (ha : first ++ args.toList.map (evL N l) ++ cap = bs)
    (hs : HSat P k bs M v M') (hA : At L ns M M') (hL : putsAt L ns M' = L') (hb : b ≤ g)
    (h : ∀ H', St O H0 L' H' b → runQ P N none g0 ops K (i + 1) r (Fr.of ((d, v) :: l)) H' g) :
    runQ P N none g0 ops K i (⟨some d, .call { callee := .value f, args := args, argTypes := ts }, ty, pos, after, none⟩ :: r) (Fr.of l) H g :=
  run_sat hd ht ha (hs H g (fun j hj => hS.fr j (Nat.le_trans hb hj)) (hA.has hS)) (h _ (hL ▸ hS.puts hA))
/-- A call that changes the state. -/
theorem o_state {f : Operand} {args : Array Operand} {ts : Array TypeId} {k : FuncId} {first cap bs : List AV} {v : AV} {M M' : Bs} (hS : St O H0 (L ++ tx M) H b) (hd : d < N) (ht : tgt (evL N l f) = some (k, first, cap)) (ha : first ++ args.toList.map (evL N l) ++ cap = bs)
    (hs : HSat P k bs M v M') (hids : ids M' = ids M) (hb : b ≤ g)
    (h : ∀ H', St O H0 (L ++ tx M') H' b → runQ P N none g0 ops K (i + 1) r (Fr.of ((d, v) :: l)) H' g) :
    runQ P N none g0 ops K i (⟨some d, .call { callee := .value f, args := args, argTypes := ts }, ty, pos, after, none⟩ :: r) (Fr.of l) H g :=
  run_sat hd ht ha (hs H g (fun j hj => hS.fr j (Nat.le_trans hb hj)) fun i cs hm => (hS.has (i, .cells cs) (List.mem_append.2 (.inr (List.mem_map.2 ⟨(i, cs), hm, rfl⟩)))).2.2) (h _ (hS.state hids))
end
end Go.AM
