/-
  Plain laws about the functions of pulses: readings as parts of the times; the law of Fewest.
  Conditions: none.
-/
import Derived.Test.YtekplngjaddccaaPuW
set_option linter.all false
namespace Go.Law
open Go Go.AM

theorem cmb_up : ∀ (k i : Nat) (ps is : List Nat), is ∈ cmb k ps → is ∈ cmb k (i :: ps)
  | 0, _, _, _, h => by simpa [cmb] using h
  | k + 1, i, ps, is, h => by simp only [cmb, List.mem_append]; exact .inr h
theorem cmb_filter : ∀ (k : Nat) (ps is : List Nat), ps.Nodup → is ∈ cmb k ps → ps.filter (fun j => is.contains j) = is
  | 0, ps, is, _, h => by simp [cmb] at h; subst h; simp
  | k + 1, [], is, _, h => by simp [cmb] at h
  | k + 1, i :: ps, is, hn, h => by
    obtain ⟨h1, h2⟩ := List.nodup_cons.1 hn
    simp only [cmb, List.mem_append, List.mem_map] at h
    rcases h with ⟨is', h3, rfl⟩ | h
    · rw [List.filter_cons, if_pos (by simp)]
      congr 1
      refine Eq.trans (List.filter_congr fun j hj => ?_) (cmb_filter k ps is' h2 h3)
      have : (j == i) = false := beq_eq_false_iff_ne.2 fun e => h1 (e ▸ hj)
      rw [List.contains_cons, this, Bool.false_or]
    · rw [List.filter_cons, if_neg ?_]
      · exact cmb_filter (k + 1) ps is h2 h
      · intro hc
        exact h1 (cmb_mem (k + 1) ps is h i (by simpa using hc))
theorem less_sub (f : Nat → Bool) : ∀ (l : List Int) (a : Nat), (less f a l).Sublist l
  | [], _ => .slnil
  | t :: l, a => by
    simp only [less]
    split
    · exact (less_sub f l (a + 1)).cons t
    · exact (less_sub f l (a + 1)).cons₂ t
theorem less_count (f : Nat → Bool) : ∀ (l : List Int) (a : Nat), (less f a l).length + ((List.range' a l.length).filter f).length = l.length
  | [], _ => rfl
  | t :: l, a => by
    have h := less_count f l (a + 1)
    simp only [less, List.length_cons, List.range'_succ, List.filter_cons]
    cases f a with
    | true => simp; omega
    | false => simp; omega
theorem less_congr_from {f g : Nat → Bool} : ∀ (l : List Int) (i : Nat), (∀ j, i ≤ j → f j = g j) → less f i l = less g i l
  | [], _, _ => rfl
  | t :: l, i, h => by simp only [less, h i (Nat.le_refl _), less_congr_from l (i + 1) fun j hj => h j (by omega)]
theorem sub_less {q l : List Int} (h : q.Sublist l) : ∀ a : Nat, ∃ is, is ∈ cmb (l.length - q.length) (List.range' a l.length) ∧ less (fun j => is.contains j) a l = q := by
  induction h with
  | slnil => intro a; exact ⟨[], by simp [cmb], rfl⟩
  | @cons q l x h ih =>
    intro a
    obtain ⟨is, h1, h2⟩ := ih (a + 1)
    have hle := h.length_le
    refine ⟨a :: is, ?_, ?_⟩
    · rw [List.length_cons, show l.length + 1 - q.length = (l.length - q.length) + 1 by omega, List.range'_succ]
      simp only [cmb, List.mem_append, List.mem_map]
      exact .inl ⟨is, h1, rfl⟩
    · rw [less, if_pos (by simp), less_congr_from (g := fun j => is.contains j) l (a + 1) fun j hj => by
        have : (j == a) = false := beq_eq_false_iff_ne.2 (by omega)
        rw [List.contains_cons, this, Bool.false_or]]
      exact h2
  | @cons_cons q l x h ih =>
    intro a
    obtain ⟨is, h1, h2⟩ := ih (a + 1)
    have hle := h.length_le
    refine ⟨is, ?_, ?_⟩
    · rw [List.length_cons, List.length_cons, show l.length + 1 - (q.length + 1) = l.length - q.length by omega, List.range'_succ]
      exact cmb_up _ _ _ _ h1
    · rw [less, if_neg ?_, h2]
      intro hc
      have := cmb_mem _ _ is h1 a (by simpa using hc)
      simp at this
      omega
/-- There is a reading with so many sparks just if the rest of so many pulses less can be clean. -/
theorem hasK_sub {p : Pulse} {k : Nat} : hasK p k = true ↔ ∃ q, q.Sublist p.Times ∧ q.length + k = p.Times.length ∧ (clean p q).isSome = true := by
  rw [hasK_iff]
  constructor
  · rintro ⟨is, h1, h2, h3⟩
    refine ⟨less (fun j => is.contains j) 0 p.Times, less_sub _ _ _, ?_, h3⟩
    have h4 := less_count (fun j => is.contains j) p.Times 0
    have h5 := cmb_filter _ _ _ (spots_nodup p) h2
    rw [show List.range' 0 p.Times.length = spots p from rfl, h5] at h4
    omega
  · rintro ⟨q, h1, h2, h3⟩
    obtain ⟨is, h4, h5⟩ := sub_less h1 0
    have h6 := cmb_size _ _ _ h4
    refine ⟨is, by omega, ?_, ?_⟩
    · rw [h6]; exact h4
    · unfold rd; rw [h5]; exact h3
theorem few_cases {p : Pulse} (hv : valid p = true) : (∃ k : Nat, k ≤ 3 ∧ fewR p = ((k : Int), 0) ∧ hasK p k = true ∧ ∀ j, j < k → hasK p j = false) ∨ (fewR p = (0, 3) ∧ ∀ j, j ≤ 3 → hasK p j = false) := by
  unfold fewR
  rw [if_pos hv]
  cases h0 : hasK p 0 with
  | true => exact .inl ⟨0, by omega, by simp, h0, fun j hj => by omega⟩
  | false =>
    cases h1 : hasK p 1 with
    | true => exact .inl ⟨1, by omega, by simp, h1, fun j hj => by rw [show j = 0 by omega]; exact h0⟩
    | false =>
      cases h2 : hasK p 2 with
      | true => exact .inl ⟨2, by omega, by simp, h2, fun j hj => by
          rcases (show j = 0 ∨ j = 1 by omega) with e | e <;> rw [e] <;> assumption⟩
      | false =>
        cases h3 : hasK p 3 with
        | true => exact .inl ⟨3, by omega, by simp, h3, fun j hj => by
            rcases (show j = 0 ∨ j = 1 ∨ j = 2 by omega) with e | e | e <;> rw [e] <;> assumption⟩
        | false => exact .inr ⟨by simp, fun j hj => by
            rcases (show j = 0 ∨ j = 1 ∨ j = 2 ∨ j = 3 by omega) with e | e | e | e <;> rw [e] <;> assumption⟩
/-- Trains that differ in nothing but the number of sparks, and the times. -/
def like (p q : Pulse) : Prop := p.Letters = q.Letters ∧ p.Numbers = q.Numbers ∧ p.Pitch = q.Pitch ∧ p.Slack = q.Slack ∧ p.Gap = q.Gap ∧ p.Pause = q.Pause
theorem cl_like {p q : Pulse} (h : like p q) : ∀ (l : List Int) (y g t : Int) (out : List Int), cl p y g t out l = cl q y g t out l := by
  obtain ⟨p1, p2, p3, p4, p5, p6, p7, p8⟩ := p
  obtain ⟨q1, q2, q3, q4, q5, q6, q7, q8⟩ := q
  obtain ⟨h1, h2, h3, h4, h5, h6⟩ := h
  simp only at h1 h2 h3 h4 h5 h6
  subst h1 h2 h3 h4 h5 h6
  intro l
  induction l with
  | nil => intro y g t out; rfl
  | cons x l ih =>
    intro y g t out
    simp only [cl, good, selOf, sameD, ih]
    rfl
theorem clean_like {p q : Pulse} (h : like p q) (l : List Int) : clean p l = clean q l := by
  cases l with
  | nil => rfl
  | cons x l => exact cl_like h l _ _ _ _
def readyB (p : Pulse) : Bool := !(decide (p.Times.length > 40) || (valid p && decide (p.Times.length > 14))) && valid p
theorem ready_eq {n : Nat} (p : Pulse) (hn : 1000 ≤ n) : law13_ready n p = some (readyB p) := by
  unfold law13_ready law13_ready_j1
  rw [Far_eq p hn]
  simp only [Option.bind_some]
  unfold readyB
  cases hfar : (decide (p.Times.length > 40) || (valid p && decide (p.Times.length > 14))) with
  | true => rfl
  | false =>
    simp only [Bool.not_false, if_true]
    simp only [Bool.or_eq_false_iff, decide_eq_false_iff_not] at hfar
    rw [rCheck_eq p (by omega) (by omega)]
    cases valid p <;> rfl
theorem ready_iff {p : Pulse} : readyB p = true ↔ valid p = true ∧ p.Times.length ≤ 14 := by
  unfold readyB
  cases valid p <;> simp <;> omega
theorem isKnown_eq (e : Int) : law13_isKnown e = some (e == 0 || e == 3) := by
  unfold law13_isKnown law13_isKnown_j1
  cases e == 0 <;> simp
end Go.Law
