/-
  Plain laws about the functions of pulses: the law of One.
  Conditions: none.
-/
import Derived.Test.YtekplngjaddccaaPuX
set_option linter.all false
namespace Go.Law
open Go Go.AM

def ins (x : Int) : List Int → List Int
  | [] => [x]
  | y :: l => if y > x then x :: y :: l else y :: ins x l
theorem ins_sub (x : Int) : ∀ l : List Int, l.Sublist (ins x l)
  | [] => List.nil_sublist _
  | y :: l => by
    simp only [ins]
    split
    · exact List.sublist_cons_self _ _
    · exact (ins_sub x l).cons_cons y
theorem ins_len (x : Int) : ∀ l : List Int, (ins x l).length = l.length + 1
  | [] => rfl
  | y :: l => by
    simp only [ins]
    split
    · rfl
    · simp [ins_len x l]
theorem One_l1 {n : Nat} (p : Pulse) (x : Int) (r4 : Pulse) (hs : p.Times.length ≤ 40) : ∀ (l pre : List Int) (m : Nat) (out : List Int), p.Times = pre ++ l → l.length < m → out.length ≤ pre.length + 1 →
    law13_PulsesOne_l1 n p x r4 m true (pre.length : Int) out = law13_PulsesOne_j3 n p r4 (out ++ l) := by
  intro l
  induction l with
  | nil =>
    intro pre m out he hm ho
    obtain ⟨m, rfl⟩ : ∃ k, m = k + 1 := ⟨m - 1, by omega⟩
    simp only [law13_PulsesOne_l1, law13_PulsesOne_l1_b, law13_PulsesOne_j2]
    rw [if_neg (by simp [he])]
    simp
  | cons y l ih =>
    intro pre m out he hm ho
    simp at hm
    have hl : p.Times.length = pre.length + (l.length + 1) := by simp [he]
    obtain ⟨m, rfl⟩ : ∃ k, m = k + 1 := ⟨m - 1, by omega⟩
    have hc : (((pre ++ [y]).length : Nat) : Int) = (pre.length : Int) + 1 := by simp
    have h := ih (pre ++ [y]) m (out ++ [y]) (by simp [he]) (by omega) (by simp; omega)
    rw [hc] at h
    simp only [law13_PulsesOne_l1, law13_PulsesOne_l1_b, law13_PulsesOne_j7, law13_PulsesOne_j6]
    rw [if_pos (by simp; omega), if_neg (by simp), if_neg (by simp), show idx p.Times (pre.length : Int) = some y by rw [he, idx_mid]]
    simp only [Option.bind_some]
    rw [app_ok (by simp; omega), w64_id (by omega) (by omega)]
    simp only [Option.bind_some]
    rw [h]
    simp
theorem One_l0 {n : Nat} (p : Pulse) (x : Int) (r4 : Pulse) (hs : p.Times.length ≤ 40) : ∀ (l pre : List Int) (m : Nat) (out : List Int), p.Times = pre ++ l → l.length < m → out.length ≤ pre.length →
    law13_PulsesOne_l1 n p x r4 m false (pre.length : Int) out = law13_PulsesOne_j3 n p r4 (out ++ ins x l) := by
  intro l
  induction l with
  | nil =>
    intro pre m out he hm ho
    have hl : p.Times.length = pre.length := by simp [he]
    obtain ⟨m, rfl⟩ : ∃ k, m = k + 1 := ⟨m - 1, by omega⟩
    simp only [law13_PulsesOne_l1, law13_PulsesOne_l1_b, law13_PulsesOne_j2]
    rw [if_neg (by simp [he]), if_pos (by decide), app_ok (by simp; omega)]
    rfl
  | cons y l ih =>
    intro pre m out he hm ho
    simp at hm
    have hl : p.Times.length = pre.length + (l.length + 1) := by simp [he]
    obtain ⟨m, rfl⟩ : ∃ k, m = k + 1 := ⟨m - 1, by omega⟩
    have hc : (((pre ++ [y]).length : Nat) : Int) = (pre.length : Int) + 1 := by simp
    have hi : idx p.Times (pre.length : Int) = some y := by rw [he, idx_mid]
    simp only [law13_PulsesOne_l1, law13_PulsesOne_l1_b, law13_PulsesOne_j7, law13_PulsesOne_j6]
    rw [if_pos (by simp; omega), if_pos (by decide), hi]
    simp only [Option.bind_some, ins]
    by_cases hy : y > x
    · rw [if_pos (by simpa using hy), if_pos hy, app_ok (by simp; omega)]
      simp only [Option.bind_some]
      rw [app_ok (by simp; omega), w64_id (by omega) (by omega)]
      simp only [Option.bind_some]
      have h := One_l1 (n := n) p x r4 hs l (pre ++ [y]) m (out ++ [x] ++ [y]) (by simp [he]) (by omega) (by simp; omega)
      rw [hc] at h
      rw [h]
      simp
    · rw [if_neg (by simpa using hy), if_neg hy, app_ok (by simp; omega), w64_id (by omega) (by omega)]
      simp only [Option.bind_some]
      have h := ih (pre ++ [y]) m (out ++ [y]) (by simp [he]) (by omega) (by simp; omega)
      rw [hc] at h
      rw [h]
      simp
theorem law_PulsesOne (p : Pulse) (x : Int) : law13_PulsesOne 20000 p x = some true := by
  unfold law13_PulsesOne
  rw [ready_eq p (by omega)]
  simp only [Option.bind_some]
  cases hr : readyB p with
  | false => simp [works_eq, law13_PulsesOne_j1]
  | true =>
    obtain ⟨hv, hl⟩ := ready_iff.1 hr
    obtain ⟨v1, v2, v3, v4, v5, v6, v7, v8, v9⟩ := valid_iff hv
    simp only [Bool.not_true, Bool.false_eq_true, if_false]
    rw [In_eq x (by omega) (by omega)]
    simp only [Option.bind_some, law13_PulsesOne_j1]
    cases hx : p.Times.contains x with
    | true => simp [works_eq]
    | false =>
      simp only [Bool.false_eq_true, if_false]
      rw [Copy_eq p (by omega)]
      simp only [Option.bind_some]
      have h := One_l0 (n := 20000) p x p (by omega) p.Times [] 20000 [] rfl (by omega) (by simp)
      rw [show law13_PulsesOne_l1 20000 p x p 20000 false 0 [] = _ from h]
      simp only [List.nil_append, law13_PulsesOne_j3]
      have hil := ins_len x p.Times
      have his := ins_sub x p.Times
      generalize ins x p.Times = T at hil his
      rw [ready_eq _ (by omega)]
      simp only [Option.bind_some]
      cases hq : readyB (⟨p.Letters, p.Numbers, p.Pitch, p.Slack, p.Gap, p.Pause, p.Sparks, T⟩ : Pulse) with
      | false => simp [works_eq]
      | true =>
        obtain ⟨qv, ql⟩ := ready_iff.1 hq
        simp only at ql
        simp only [Bool.not_true, Bool.false_eq_true, if_false]
        rw [Fewest_eq p (by omega) (by omega), Fewest_eq _ (by show T.length ≤ 40; omega) (by omega)]
        simp only [Option.bind_some, isKnown_eq]
        have up : ∀ k, hasK p k = true → hasK (⟨p.Letters, p.Numbers, p.Pitch, p.Slack, p.Gap, p.Pause, p.Sparks, T⟩ : Pulse) (k + 1) = true := by
          intro k hk
          obtain ⟨q, h1, h2, h3⟩ := hasK_sub.1 hk
          refine hasK_sub.2 ⟨q, h1.trans his, by simp only; omega, ?_⟩
          rw [clean_like (p := ⟨p.Letters, p.Numbers, p.Pitch, p.Slack, p.Gap, p.Pause, p.Sparks, T⟩) (q := p) ⟨rfl, rfl, rfl, rfl, rfl, rfl⟩]
          exact h3
        rcases few_cases hv with ⟨k, hk, hfew, h1, h2⟩ | ⟨hfew, h2⟩
        · have hk1 := up k h1
          rcases few_cases qv with ⟨m, hm, gfew, g1, g2⟩ | ⟨gfew, g2⟩
          · have hmk : m ≤ k + 1 := by
              by_cases hc : k + 1 < m
              · have := g2 (k + 1) hc
                rw [hk1] at this
                cases this
              · omega
            rw [hfew, gfew]
            simp [law13_PulsesOne_j4, works_eq, law13_PulsesOne_j5]
            rw [if_neg (by omega), if_neg (by omega), if_neg (by omega), w64_id (by omega) (by omega)]
            split
            · rfl
            · rw [if_pos (by omega)]
          · rw [hfew, gfew]
            have hk3 : k = 3 := by
              by_cases hc : k = 3
              · exact hc
              · have := g2 (k + 1) (by omega)
                rw [hk1] at this
                cases this
            subst hk3
            simp [law13_PulsesOne_j4, works_eq, law13_PulsesOne_j5]
        · rw [hfew]
          rcases few_cases qv with ⟨m, hm, gfew, g1, g2⟩ | ⟨gfew, g2⟩
          · rw [gfew]
            simp [law13_PulsesOne_j4, works_eq, law13_PulsesOne_j5]
          · rw [gfew]
            simp [law13_PulsesOne_j4, works_eq, law13_PulsesOne_j5]
end Go.Law
