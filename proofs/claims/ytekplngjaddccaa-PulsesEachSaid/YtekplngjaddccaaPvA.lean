/-
  Plain laws about the functions of pulses: the law of Each.
  Conditions: none.
-/
import Derived.Test.YtekplngjaddccaaPuZ
set_option linter.all false
namespace Go.Law
open Go Go.AM

/-- Do numbers rise, behind another one. -/
def risen (lo hi : Int) : Option Int → List Int → Bool
  | _, [] => true
  | prev, x :: l => inR x lo hi && (match prev with | none => true | some y => decide (y < x)) && risen lo hi (some x) l
theorem Rising_eq (lo hi : Int) : ∀ (l pre : List Int) (m : Nat), (pre ++ l).length < 1048576 → l.length < m →
    ref01_Rising_l1 (pre ++ l) lo hi m (pre.length : Int) = some (risen lo hi pre.getLast? l) := by
  intro l
  induction l with
  | nil =>
    intro pre m hs hm
    obtain ⟨m, rfl⟩ : ∃ k, m = k + 1 := ⟨m - 1, by omega⟩
    simp [ref01_Rising_l1, ref01_Rising_l1_b, ref01_Rising_j1, risen]
  | cons x l ih =>
    intro pre m hs hm
    obtain ⟨m, rfl⟩ : ∃ k, m = k + 1 := ⟨m - 1, by omega⟩
    have h := ih (pre ++ [x]) m (by simpa using hs) (by simp at hm; omega)
    rw [show (((pre ++ [x]).length : Nat) : Int) = (pre.length : Int) + 1 by simp, show pre ++ [x] ++ l = pre ++ x :: l by simp] at h
    simp at hs hm
    simp only [ref01_Rising_l1, ref01_Rising_l1_b, ref01_Rising_j2]
    rw [if_pos (by simp <;> omega), idx_mid]
    simp only [Option.bind_some, Within_eq, risen]
    rw [w64_id (x := (pre.length : Int) + 1) (by omega) (by omega), h]
    cases hx : inR x lo hi with
    | false => simp
    | true =>
      simp only [Bool.not_true, Bool.false_eq_true, if_false, Bool.true_and]
      rcases nil_or_last pre with rfl | ⟨q, y, rfl⟩
      · simp
      · have hl := idx_last q y (x :: l) (by simp at hs ⊢; omega)
        rw [if_pos (by simp <;> omega), hl]
        simp only [Option.bind_some, List.getLast?_concat]
        by_cases hy : y < x
        · simp [hy] <;> omega
        · simp [hy] <;> omega
theorem risen_cmb : ∀ (d a : Nat) (prev : Option Int) (l : List Int) (hi : Int), risen 0 hi prev l = true → hi < (a + d : Nat) → (match prev with | none => a = 0 | some y => y < a) → (∀ x, x ∈ l → (a : Int) ≤ x) → ∃ is, l = ints' is ∧ is ∈ cmb is.length (List.range' a d) := by
  intro d
  induction d with
  | zero =>
    intro a prev l hi h hhi hp hx
    cases l with
    | nil => exact ⟨[], rfl, by simp [cmb]⟩
    | cons x l =>
      simp only [risen, Bool.and_eq_true] at h
      have := inR_iff.1 h.1.1
      have := hx x (by simp)
      omega
  | succ d ih =>
    intro a prev l hi h hhi hp hx
    cases l with
    | nil => exact ⟨[], rfl, by simp [cmb]⟩
    | cons x l =>
      have h' := h
      simp only [risen, Bool.and_eq_true] at h
      have hxr := inR_iff.1 h.1.1
      have hxa := hx x (by simp)
      have up : ∀ (l : List Int) (y : Int), risen 0 hi (some y) l = true → ∀ z, z ∈ l → y < z := by
        intro l
        induction l with
        | nil => intro y _ z hz; simp at hz
        | cons w l ihl =>
          intro y hr z hz
          simp only [risen, Bool.and_eq_true, decide_eq_true_eq] at hr
          rcases List.mem_cons.1 hz with rfl | hz
          · exact hr.1.2
          · have := ihl w hr.2 z hz
            omega
      rw [List.range'_succ]
      by_cases e : x = (a : Int)
      · subst e
        obtain ⟨is, h1, h2⟩ := ih (a + 1) (some (a : Int)) l hi h.2 (by omega) (by simp only; omega) (fun z hz => by have := up l _ h.2 z hz; omega)
        refine ⟨a :: is, by rw [h1]; rfl, ?_⟩
        simp only [List.length_cons, cmb, List.mem_append, List.mem_map]
        exact .inl ⟨is, h2, rfl⟩
      · obtain ⟨is, h1, h2⟩ := ih (a + 1) (some (a : Int)) (x :: l) hi (by
          simp only [risen, Bool.and_eq_true, decide_eq_true_eq]
          exact ⟨⟨h.1.1, by omega⟩, h.2⟩) (by omega) (by simp only; omega) (fun z hz => by
          rcases List.mem_cons.1 hz with rfl | hz
          · omega
          · have := up l _ h.2 z hz; omega)
        exact ⟨is, h1, cmb_up _ _ _ _ h2⟩
theorem rise_weak : ∀ (l : List Int) (x : Int) (prev : Option Int), rise (some x) l = true → (match prev with | none => true | some y => decide (y < x)) = true → rise prev l = true
  | [], _, _, _, _ => by simp [rise]
  | z :: l, x, prev, h, hp => by
    simp only [rise, Bool.and_eq_true, decide_eq_true_eq] at h ⊢
    refine ⟨⟨h.1.1, ?_⟩, h.2⟩
    cases prev with
    | none => rfl
    | some y =>
      simp only [decide_eq_true_eq] at hp ⊢
      omega
theorem rise_sub {q l : List Int} (hs : q.Sublist l) : ∀ prev, rise prev l = true → rise prev q = true := by
  induction hs with
  | slnil => intro prev h; exact h
  | @cons q l x h ih =>
    intro prev hr
    simp only [rise, Bool.and_eq_true] at hr
    exact ih prev (rise_weak l x prev hr.2 hr.1.2)
  | @cons_cons q l x h ih =>
    intro prev hr
    simp only [rise, Bool.and_eq_true] at hr ⊢
    exact ⟨hr.1, ih _ hr.2⟩
theorem less_none : ∀ (l : List Int) (a : Nat), less (fun j => ([] : List Nat).contains j) a l = l
  | [], _ => rfl
  | t :: l, a => by
    have := less_none l (a + 1)
    simp only [less]
    rw [if_neg (by simp), this]
/-- A clean train that allows for no spark has one reading. -/
theorem zero_good {o : Pulse} {l : List Int} (h0 : o.Sparks = 0) (hc : clean o o.Times = some l) : goodP o o.Sparks.toNat = [[]] ∧ listOf o [] = l := by
  have hr : rd o [] = some l := by unfold rd; rw [less_none, hc]
  constructor
  · rw [h0]
    unfold goodP cmbs
    simp [cmb, hr]
  · unfold listOf
    rw [hr]
    rfl
theorem zero_read {o : Pulse} {l : List Int} (hv : valid o = true) (h0 : o.Sparks = 0) (hc : clean o o.Times = some l) : readR o = (l, 0) ∧ (openR o).2 = 0 ∧ (openR o).1.length = 1 ∧ realR o = (ints' (spots o), 0) := by
  obtain ⟨h1, h2⟩ := zero_good h0 hc
  obtain ⟨o1, o2⟩ := openR_val hv
  rw [h1, if_neg (by simp)] at o1
  rw [h1] at o2
  refine ⟨?_, o1, o2, ?_⟩
  · unfold readR
    rw [if_neg (by simp [o1])]
    have : (openR o).1.map (·.list) = [l] := by
      unfold openR
      rw [if_pos hv, h1, if_neg (by simp)]
      simp [h2]
    rw [this, one_all]
    rfl
  · unfold realR
    rw [if_neg (by simp [o1])]
    congr 2
    refine List.filter_eq_self.2 fun i _ => ?_
    unfold oft
    rw [h1]
    rfl
theorem valid_times {p : Pulse} {k : Int} {q : List Int} (hv : valid p = true) (h0 : 0 ≤ k) (h3 : k ≤ 3) (hq : q.length ≤ 24) (hr : rise none q = true) : valid (⟨p.Letters, p.Numbers, p.Pitch, p.Slack, p.Gap, p.Pause, k, q⟩ : Pulse) = true := by
  simp only [valid, Bool.and_eq_true, inR_iff, decide_eq_true_eq] at hv ⊢
  obtain ⟨⟨⟨⟨⟨⟨⟨⟨h1, h2⟩, h3⟩, h4⟩, h5⟩, h6⟩, h7⟩, h8⟩, h9⟩ := hv
  exact ⟨⟨⟨⟨⟨⟨⟨⟨h1, h2⟩, h3⟩, h4⟩, h5⟩, h6⟩, by omega⟩, hq⟩, hr⟩
theorem Each_l {n : Nat} (sp : List Int) (x : Int) (r7 : List Int × Bool) (r8 : Span × Int) (r9 : List Int × Int) (h9 : r9.1.length ≤ 40) (hs : sp.length ≤ 40) (hn : 1000 ≤ n) (hno : ∀ y, y ∈ sp → r9.1.contains y = false) : ∀ (l pre : List Int) (m : Nat), sp = pre ++ l → l.length < m →
    law13_PulsesEach_l1 n sp x r7 r8 r9 m (pre.length : Int) = law13_PulsesEach_j3 n x r7 r8 := by
  intro l
  induction l with
  | nil =>
    intro pre m he hm
    obtain ⟨m, rfl⟩ : ∃ k, m = k + 1 := ⟨m - 1, by omega⟩
    simp only [law13_PulsesEach_l1, law13_PulsesEach_l1_b]
    rw [if_neg (by simp [he])]
  | cons y l ih =>
    intro pre m he hm
    simp at hm
    have hl : sp.length = pre.length + (l.length + 1) := by simp [he]
    obtain ⟨m, rfl⟩ : ∃ k, m = k + 1 := ⟨m - 1, by omega⟩
    have hc : (((pre ++ [y]).length : Nat) : Int) = (pre.length : Int) + 1 := by simp
    have h := ih (pre ++ [y]) m (by simp [he]) (by omega)
    rw [hc] at h
    simp only [law13_PulsesEach_l1, law13_PulsesEach_l1_b]
    rw [if_pos (by simp; omega), show idx sp (pre.length : Int) = some y by rw [he, idx_mid]]
    simp only [Option.bind_some]
    rw [In_eq y (by omega) (by omega), hno y (by simp [he])]
    simp only [Option.bind_some, Bool.false_eq_true, if_false]
    rw [w64_id (by omega) (by omega), h]
theorem law_PulsesEach (p : Pulse) (sp : List Int) (x : Int) : law13_PulsesEach 20000 p sp x = some true := by
  unfold law13_PulsesEach
  rw [ready_eq p (by omega)]
  simp only [Option.bind_some]
  have fin : law13_PulsesEach_j1 20000 p sp x true = some true := by simp [law13_PulsesEach_j1, works_eq]
  cases hr : readyB p with
  | false => simpa using fin
  | true =>
    obtain ⟨hv, hl⟩ := ready_iff.1 hr
    obtain ⟨v1, v2, v3, v4, v5, v6, v7, v8, v9⟩ := valid_iff hv
    have htm := rise_mem p.Times none v9
    simp only [Bool.not_true, Bool.false_eq_true, if_false]
    by_cases hs : sp.length > 40
    · rw [if_pos (by simp; omega)]; exact fin
    rw [if_neg (by simp; omega)]
    have hrd : ref13_IsReading 20000 p sp = some (risen 0 ((p.Times.length : Int) - 1) none sp && !decide ((sp.length : Int) > p.Sparks) && (clean p (less (fun j => sp.contains (j : Int)) 0 p.Times)).isSome) := by
      unfold ref13_IsReading
      rw [w64_id (by omega) (by omega)]
      have h := Rising_eq 0 ((p.Times.length : Int) - 1) sp [] 20000 (by simp; omega) (by omega)
      unfold ref01_Rising
      rw [show ref01_Rising_l1 sp 0 ((p.Times.length : Int) - 1) 20000 0 = _ from h]
      simp only [Option.bind_some, ref13_IsReading_j1, List.getLast?_nil]
      cases risen 0 ((p.Times.length : Int) - 1) none sp with
      | false => rfl
      | true =>
        simp only [Bool.not_true, Bool.false_eq_true, if_false, Bool.true_and]
        cases decide ((sp.length : Int) > p.Sparks) with
        | true => rfl
        | false =>
          simp only [Bool.false_eq_true, if_false, Bool.not_false, Bool.true_and]
          rw [rLess_eq p.Times sp (by omega) (by omega) (by omega)]
          simp only [Option.bind_some]
          rw [Clean_eq p hv _ (by have := less_len (fun j => sp.contains (j : Int)) p.Times 0; omega) (fun x hx => htm x (less_mem _ _ _ _ hx)) (by omega)]
          simp only [Option.bind_some]
          cases clean p (less (fun j => sp.contains (j : Int)) 0 p.Times) <;> rfl
    rw [hrd]
    simp only [Option.bind_some]
    by_cases hR : (risen 0 ((p.Times.length : Int) - 1) none sp && !decide ((sp.length : Int) > p.Sparks) && (clean p (less (fun j => sp.contains (j : Int)) 0 p.Times)).isSome) = true
    · rw [if_neg (by rw [hR]; decide), isSel_eq]
      simp only [Option.bind_some]
      cases hx : isSel p x with
      | false => simpa using fin
      | true =>
        simp only [Bool.and_eq_true, Bool.not_eq_true', decide_eq_false_iff_not] at hR
        obtain ⟨⟨hR1, hR2⟩, hR3⟩ := hR
        obtain ⟨is, rfl, his⟩ := risen_cmb p.Times.length 0 none sp _ hR1 (by omega) rfl (fun y hy => by
          have : ∀ (l : List Int) (prev : Option Int), risen 0 ((p.Times.length : Int) - 1) prev l = true → ∀ y, y ∈ l → 0 ≤ y := by
            intro l
            induction l with
            | nil => intro prev _ y hy; simp at hy
            | cons w l ih =>
              intro prev h y hy
              simp only [risen, Bool.and_eq_true] at h
              rcases List.mem_cons.1 hy with rfl | hy
              · exact (inR_iff.1 h.1.1).1
              · exact ih _ h.2 y hy
          simpa using this sp none hR1 y hy)
        have hil : (ints' is).length = is.length := by simp [ints']
        have hle : (less (fun j => (ints' is).contains (j : Int)) 0 p.Times) = less (fun j => is.contains j) 0 p.Times := less_congr (fun j => contains_ints is j) _ _
        rw [hle] at hR3
        have hgood : is ∈ goodP p p.Sparks.toNat := mem_goodP.2 ⟨by omega, his, hR3⟩
        have hne : goodP p p.Sparks.toNat ≠ [] := fun e => by rw [e] at hgood; simp at hgood
        obtain ⟨l, hcl⟩ : ∃ l, clean p (less (fun j => is.contains j) 0 p.Times) = some l := Option.isSome_iff_exists.1 hR3
        have hlo : listOf p is = l := by unfold listOf rd; rw [hcl]; rfl
        obtain ⟨p1, p2⟩ := openR_val hv
        rw [if_neg hne] at p1
        have hq := less_sub (fun j => is.contains j) p.Times 0
        have hql := hq.length_le
        simp only [Bool.not_true, law13_PulsesEach_j1, Bool.false_eq_true, if_false]
        rw [Copy_eq p (by omega)]
        simp only [Option.bind_some]
        rw [rLess_eq p.Times (ints' is) (by omega) (by omega) (by omega), hle]
        simp only [Option.bind_some]
        have hcq := hcl
        generalize less (fun j => is.contains j) 0 p.Times = q at hq hql hcq ⊢
        have oval := valid_times (k := 0) (q := q) hv (by omega) (by omega) (by omega) (rise_sub hq none v9)
        obtain ⟨z1, z2, z3, z4⟩ := zero_read (o := ⟨p.Letters, p.Numbers, p.Pitch, p.Slack, p.Gap, p.Pause, 0, q⟩) (l := l) oval rfl (by rw [clean_like (p := ⟨p.Letters, p.Numbers, p.Pitch, p.Slack, p.Gap, p.Pause, 0, q⟩) (q := p) ⟨rfl, rfl, rfl, rfl, rfl, rfl⟩]; exact hcq)
        rw [Read_eq _ (by show q.length ≤ 40; omega) (fun _ => by show q.length ≤ 14; omega) (by omega), z1]
        simp only [Option.bind_some]
        rw [Clean_eq p hv q (by omega) (fun y hy => htm y (hq.subset hy)) (by omega), hcq]
        simp only [Option.bind_some, toPair]
        rw [Asked_eq p x (by omega) (fun _ => hl) (by omega), Real_eq p (by omega) (fun _ => hl) (by omega), Sparks_eq p (by omega) (fun _ => hl) (by omega), Fewest_eq p (by omega) (by omega)]
        simp only [Option.bind_some]
        have a1 : askR p x = (⟨lo (cnts p x), hi (cnts p x)⟩, 0) := by unfold askR; rw [if_pos hv, if_pos hx, if_neg hne]
        have r1 : realR p = (ints' ((spots p).filter fun i => oft p i == 0), 0) := by unfold realR; rw [if_neg (by simp [p1])]
        have r3 : sparksR p = (ints' ((spots p).filter fun i => oft p i == (goodP p p.Sparks.toNat).length), 0) := by unfold sparksR; rw [if_neg (by simp [p1])]
        have rl := real_len p
        have sl := sparks_len p
        have hll : l.length ≤ 40 := by have := listOf_len p is; rw [hlo] at this; omega
        have hfew : ∃ k : Nat, k ≤ is.length ∧ fewR p = ((k : Int), 0) := by
          have hk := hasK_iff.2 ⟨is, rfl, his, hR3⟩
          rcases few_cases hv with ⟨k, hk3, hf, h1, h2⟩ | ⟨hf, h2⟩
          · refine ⟨k, ?_, hf⟩
            by_cases hc : is.length < k
            · rw [h2 _ hc] at hk; cases hk
            · omega
          · rw [h2 _ (by omega)] at hk; cases hk
        obtain ⟨k, hkl, hf⟩ := hfew
        have i1 : law13_isIn 20000 (sparksR p).1 (ints' is) = some true := by
          rw [isIn_eq _ _ (by omega) (by omega) (by omega), r3]
          simp only
          rw [all_ints _ _ fun i hi => by
            rw [List.mem_filter] at hi
            have := beq_iff_eq.1 hi.2
            unfold oft at this
            have := List.countP_eq_length.1 this is hgood
            simpa using this]
        rw [i1, SameInts_self l (by omega) (by omega)]
        rw [a1, hf]
        simp only [Option.bind_some]
        have e1 : (realR p).2 = 0 := by rw [r1]
        have e2 : (sparksR p).2 = 0 := by rw [r3]
        rw [e1, e2]
        rw [if_neg (by simp), if_neg (by simp), if_neg (by simp), if_neg (by simp), if_neg (by simp), if_neg (by simp), if_neg (by simp), if_neg (by simp <;> omega), if_neg (by simp <;> omega), show decide (((realR p).1.length : Int) > 40) = false by simp; omega]
        simp only [law13_PulsesEach_j2, Bool.false_eq_true, if_false]
        have hno : ∀ y, y ∈ ints' is → (realR p).1.contains y = false := by
          intro y hy
          obtain ⟨i, hi, rfl⟩ := List.mem_map.1 hy
          rw [r1]
          simp only
          rw [mem_ints]
          cases hc : ((spots p).filter fun i => oft p i == 0).contains i with
          | false => rfl
          | true =>
            have hm : i ∈ (spots p).filter fun i => oft p i == 0 := by simpa using hc
            rw [List.mem_filter] at hm
            have h0 := beq_iff_eq.1 hm.2
            unfold oft at h0
            have := List.countP_eq_zero.1 h0 is hgood
            exact absurd (by simpa using hi) this
        have hE := Each_l (n := 20000) (ints' is) x (l, true) (⟨lo (cnts p x), hi (cnts p x)⟩, 0) (realR p) (by omega) (by omega) (by omega) hno (ints' is) [] 20000 rfl (by omega)
        rw [show law13_PulsesEach_l1 20000 (ints' is) x (l, true) (⟨lo (cnts p x), hi (cnts p x)⟩, 0) (realR p) 20000 0 = _ from hE]
        simp only [law13_PulsesEach_j3]
        rw [Count_eq l x (by omega) (by omega)]
        simp only [Option.bind_some, Within_eq]
        have hcm : ((l.count x : Nat) : Int) ∈ cnts p x := List.mem_map.2 ⟨is, hgood, by rw [hlo]⟩
        have hin : inR ((l.count x : Nat) : Int) (lo (cnts p x)) (hi (cnts p x)) = true := inR_iff.2 ⟨foldl_min_mem _ _ _ hcm, foldl_max_mem _ _ _ hcm⟩
        rw [hin]
        simp [works_eq, law13_PulsesEach_j4]
    · rw [if_pos (by rw [Bool.eq_false_iff.2 hR]; rfl)]
      exact fin
end Go.Law
