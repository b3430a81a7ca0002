/-
  The abstract machine: what the operations compute: numbers, comparisons, slices, literals, append.
  Conditions: none; it speaks of any program.
-/
import Derived.Test.YtapcibbbmeomkaaAmD
set_option linter.all false
namespace Go.AM
open Go Go.RowKit
section
variable {P : Program} {G : Gh} {H : Heap} {w : World}
theorem v_inv {x v : Value} (h : VR G H w (.v x) v) : v = x := by cases h; rfl
theorem run_intBin {op : BinOp} {k : IntKind} {a b : Int} {r : AV} (t : TypeId) (h : intBin op k a b = some r) : ∃ v, (binOp op t (.int k a) (.int k b)).run P w = .ok v w ∧ VR G H w r v := by
  cases op <;> simp only [intBin] at h
  case quo =>
    split at h
    · cases h
    · rename_i hb
      injection h with h; subst h
      exact ⟨_, by simp [binOp, Op.intDiv, hb], .v _⟩
  case rem =>
    split at h
    · cases h
    · rename_i hb
      injection h with h; subst h
      exact ⟨_, by simp [binOp, Op.intDiv, hb], .v _⟩
  case and => injection h with h; subst h; exact ⟨_, by simp [binOp, Op.intBits], .v _⟩
  case or => injection h with h; subst h; exact ⟨_, by simp [binOp, Op.intBits], .v _⟩
  all_goals first
    | (injection h with h; subst h; exact ⟨_, by simp [binOp, Op.intArith, Op.intCmp], .v _⟩)
    | cases h
theorem run_shiftA {op : BinOp} {k k' : IntKind} {a b : Int} {r : AV} (t : TypeId) (h : shiftA op k a b = some (some r)) : ∃ v, (binOp op t (.int k a) (.int k' b)).run P w = .ok v w ∧ VR G H w r v := by
  unfold shiftA at h
  split at h
  · injection h with h
    split at h
    · rename_i hb
      injection h with h
      subst h
      exact ⟨_, by simp [binOp, Op.shift, Int.not_lt.2 hb], .v _⟩
    · cases h
  · injection h with h
    split at h
    · rename_i hb
      injection h with h
      subst h
      exact ⟨_, by simp [binOp, Op.shift, Int.not_lt.2 hb], .v _⟩
    · cases h
  · cases h
theorem run_isBool {t : TypeId} (h : isBool P t = true) : P.underlying t = some .bool := by
  unfold isBool at h
  split at h
  · assumption
  · cases h
theorem run_intKind {t : TypeId} {k : IntKind} (h : intKind P t = some k) : P.underlying t = some (.int k) := by
  unfold intKind at h
  split at h
  · rename_i k' hk
    injection h with h
    subst h
    exact hk
  · cases h
theorem run_eqFields {d : Nat} {xs ys : Array Value} {fs : Array Field}
    (hf : ∀ i, i < fs.size → ∃ f, fs[i]? = some f ∧ f.name ≠ "_" ∧ f.offset = i ∧ ∃ k, P.underlying f.type = some (.int k)) :
    ∀ (n i : Nat) (cs ds : List AV) (r : Bool), fs.size = i + n → xs.size = fs.size → ys.size = fs.size → cs.length = n →
      (∀ (j : Nat) (c : AV) (x : Value), cs[j]? = some c → xs[i + j]? = some x → VR G H w c x) → (∀ (j : Nat) (c : AV) (x : Value), ds[j]? = some c → ys[i + j]? = some x → VR G H w c x) →
      eqCells cs ds = some r → (Op.eqFields (d + 1) xs ys (fs.toList.drop i)).run P w = .ok r w := by
  intro n
  induction n with
  | zero =>
    intro i cs ds r hn hx hy hl hc hd he
    have : cs = [] := List.eq_nil_of_length_eq_zero hl
    subst this
    cases ds with
    | nil =>
      simp only [eqCells] at he
      injection he with he
      subst he
      rw [List.drop_eq_nil_of_le (by simp; omega)]
      simp [Op.eqFields]
    | cons => simp [eqCells] at he
  | succ n ih =>
    intro i cs ds r hn hx hy hl hc hd he
    cases cs with
    | nil => simp at hl
    | cons c cs =>
      cases ds with
      | nil => cases c <;> simp [eqCells] at he
      | cons e ds =>
        obtain ⟨f, hfi, hname, hoff, k, hk⟩ := hf i (by omega)
        have hxi : xs[i]? = some (xs[i]'(by omega)) := Array.getElem?_eq_getElem _
        have hyi : ys[i]? = some (ys[i]'(by omega)) := Array.getElem?_eq_getElem _
        have hc0 := hc 0 c _ rfl hxi
        have hd0 := hd 0 e _ rfl hyi
        generalize xs[i]'(by omega) = x at *
        generalize ys[i]'(by omega) = y at *
        have hdrop : fs.toList.drop i = f :: fs.toList.drop (i + 1) := by
          rw [List.drop_eq_getElem_cons (by simp; omega)]
          congr 1
          rw [Array.getElem?_eq_getElem (by omega)] at hfi
          injection hfi with hfi
        rw [hdrop]
        cases c <;> try (simp [eqCells] at he; done)
        rename_i cx
        cases cx <;> try (simp [eqCells] at he; done)
        rename_i k1 a
        cases e <;> try (simp [eqCells] at he; done)
        rename_i ex
        cases ex <;> try (simp [eqCells] at he; done)
        rename_i k2 b
        rw [v_inv hc0] at hxi
        rw [v_inv hd0] at hyi
        simp only [eqCells] at he
        split at he
        · rename_i hkk
          subst hkk
          obtain ⟨r', hr', rfl⟩ := Option.map_eq_some_iff.1 he
          have hrest := ih (i + 1) cs ds r' (by omega) hx hy (by simpa using hl)
            (fun j c x hcj hxj => hc (j + 1) c x (by simpa using hcj) (by rw [show i + (j + 1) = i + 1 + j by omega]; exact hxj))
            (fun j c x hcj hxj => hd (j + 1) c x (by simpa using hcj) (by rw [show i + (j + 1) = i + 1 + j by omega]; exact hxj)) hr'
          have hrow : TypeDesc.isRow (.int k) = false := rfl
          have p1 : (part f.type xs f.offset).run P w = .ok (.int k1 a) w := by
            unfold part
            rw [Sem.run_bind, run_isAgg hk, hrow, hoff]
            simp [hxi]
          have p2 : (part f.type ys f.offset).run P w = .ok (.int k1 b) w := by
            unfold part
            rw [Sem.run_bind, run_isAgg hk, hrow, hoff]
            simp [hyi]
          simp only [Op.eqFields, if_pos hname, Sem.run_bind, p1, p2, Result.andThen_ok, run_equalIn_int w d f.type k1 k a b hk, Sem.run_ite, Sem.run_pure, hrest]
          cases hab : (a == b) <;> simp
        · cases he
theorem run_flatInts {t : TypeId} {n : Nat} (h : flatInts P t = some n) : P.stoodInHeld t = false ∧ P.eqGuardType P.depth t = false ∧ ∃ fs, P.underlying t = some (.struct fs) ∧ fs.size = n ∧
    ∀ i, i < fs.size → ∃ f, fs[i]? = some f ∧ f.name ≠ "_" ∧ f.offset = i ∧ ∃ k, P.underlying f.type = some (.int k) := by
  unfold flatInts at h
  split at h
  · rename_i fs hfs
    split at h
    · rename_i hc
      injection h with h
      simp only [Bool.and_eq_true, Bool.not_eq_true'] at hc
      obtain ⟨⟨h1, h2⟩, h3⟩ := hc
      refine ⟨h1, h2, fs, hfs, h, fun i hi => ?_⟩
      have := List.all_eq_true.1 h3 i (List.mem_range.2 hi)
      split at this
      · rename_i f hf
        simp only [Bool.and_eq_true, bne_iff_ne, ne_eq, beq_iff_eq, Option.isSome_iff_exists] at this
        obtain ⟨⟨a, b⟩, k, hk⟩ := this
        exact ⟨f, hf, a, b, k, run_intKind hk⟩
      · cases this
    · cases h
  · cases h
theorem eqCells_len : ∀ (cs ds : List AV) (r : Bool), eqCells cs ds = some r → cs.length = ds.length
  | [], [], _, _ => rfl
  | [], _ :: _, _, h => by simp [eqCells] at h
  | c :: cs, [], _, h => by cases c <;> simp [eqCells] at h
  | c :: cs, d :: ds, r, h => by
    cases c <;> try (simp [eqCells] at h; done)
    rename_i cx
    cases cx <;> try (simp [eqCells] at h; done)
    cases d <;> try (simp [eqCells] at h; done)
    rename_i ex
    cases ex <;> try (simp [eqCells] at h; done)
    simp only [eqCells] at h
    split at h
    · obtain ⟨r', hr', _⟩ := Option.map_eq_some_iff.1 h
      simp [eqCells_len cs ds r' hr']
    · cases h
theorem run_binA {op : BinOp} {t : TypeId} {x y r : AV} {a b : Value} (ox oy : Operand) (h : binA P op t x y = some r) (hx : VR G H w x a) (hy : VR G H w y b) :
    ∃ v, (do eqGuard op t ox oy a b; binOp op t a b : Sem Value).run P w = .ok v w ∧ VR G H w r v := by
  unfold binA at h
  split at h
  · rename_i k m k' n
    cases hx
    cases hy
    split at h
    · rename_i r' hsh
      subst h
      obtain ⟨v, hv, hr⟩ := run_shiftA (P := P) (G := G) (H := H) (w := w) (k' := k') t hsh
      refine ⟨v, ?_, hr⟩
      have hg : (eqGuard op t ox oy (.int k m) (.int k' n)).run P w = .ok () w := by cases op <;> simp [eqGuard]
      rw [Sem.run_bind, hg]
      exact hv
    · split at h
      · rename_i hk
        subst hk
        obtain ⟨v, hv, hr⟩ := run_intBin (P := P) (G := G) (H := H) (w := w) t h
        refine ⟨v, ?_, hr⟩
        have hg : (eqGuard op t ox oy (.int k m) (.int k n)).run P w = .ok () w := by cases op <;> simp [eqGuard]
        rw [Sem.run_bind, hg]
        exact hv
      · cases h
  · rename_i m n
    cases hx
    cases hy
    split at h
    · rename_i hb
      have hu := run_isBool hb
      split at h <;> (try cases h)
      · exact ⟨_, by simp [eqGuard, binOp, Op.equal, Op.maxDepth, run_equalIn_bool' w 9999 t m n hu], .v _⟩
      · exact ⟨_, by simp [eqGuard, binOp, Op.equal, Op.maxDepth, run_equalIn_bool' w 9999 t m n hu], .v _⟩
    · cases h
  · rename_i cs ds
    split at h
    · rename_i hfl
      obtain ⟨h1, h2, fs, hfs, hn, hf⟩ := run_flatInts hfl
      cases hx with
      | agg _ xs hlx _ hvx =>
        cases hy with
        | agg _ ys hly _ hvy =>
          have hfo : P.underlying t = some (.struct (P.fieldsOf t)) := by simp [Program.fieldsOf, hfs]
          have hfe : P.fieldsOf t = fs := by simp [Program.fieldsOf, hfs]
          have hg : (eqGuard op t ox oy (.agg xs) (.agg ys)).run P w = .ok () w := run_eqGuard_agg w op t ox oy xs ys h2
          have key : ∀ r', eqCells cs ds = some r' → (Op.equalIn 10000 t (.agg xs) (.agg ys)).run P w = .ok r' w := fun r' hr' => by
            have hsz : xs.size = fs.size := by omega
            have hl := eqCells_len cs ds r' hr'
            rw [show (10000 : Nat) = 9999 + 1 from rfl, run_equalIn_struct w 9999 t xs ys hfo h1, hfe]
            have := run_eqFields (P := P) (G := G) (H := H) (w := w) (d := 9998) (xs := xs) (ys := ys) hf fs.size 0 cs ds r' (by omega) hsz (by omega) (by omega)
              (fun j c x hc hx => hvx j c x hc (by simpa using hx)) (fun j c x hc hx => hvy j c x hc (by simpa using hx)) hr'
            simpa using this
          split at h
          · obtain ⟨r', hr', rfl⟩ := Option.map_eq_some_iff.1 h
            refine ⟨.bool r', ?_, .v _⟩
            rw [Sem.run_bind, hg, Result.andThen_ok, run_eql_struct, key r' hr']
            rfl
          · obtain ⟨r', hr', rfl⟩ := Option.map_eq_some_iff.1 h
            refine ⟨.bool (!r'), ?_, .v _⟩
            rw [Sem.run_bind, hg, Result.andThen_ok, run_neq_struct, key r' hr']
            rfl
          · cases h
    · cases h
  · cases h
theorem minIf (a b : Int) : (if b < a then b else a) = min a b := by omega
theorem maxIf (a b : Int) : (if b > a then b else a) = max a b := by omega
theorem list1 {vs : Array Value} {x : AV} (h : VRs G H w [x] vs) : ∃ a, vs = #[a] ∧ VR G H w x a := by
  obtain ⟨hs, hv⟩ := h
  obtain ⟨l⟩ := vs
  match l, hs with
  | [a], _ => exact ⟨a, rfl, hv 0 x a rfl rfl⟩
theorem list2 {vs : Array Value} {x y : AV} (h : VRs G H w [x, y] vs) : ∃ a b, vs = #[a, b] ∧ VR G H w x a ∧ VR G H w y b := by
  obtain ⟨hs, hv⟩ := h
  obtain ⟨l⟩ := vs
  match l, hs with
  | [a, b], _ => exact ⟨a, b, rfl, hv 0 x a rfl rfl, hv 1 y b rfl rfl⟩
theorem list3 {vs : Array Value} {x y z : AV} (h : VRs G H w [x, y, z] vs) : ∃ a b c, vs = #[a, b, c] ∧ VR G H w x a ∧ VR G H w y b ∧ VR G H w z c := by
  obtain ⟨hs, hv⟩ := h
  obtain ⟨l⟩ := vs
  match l, hs with
  | [a, b, c], _ => exact ⟨a, b, c, rfl, hv 0 x a rfl rfl, hv 1 y b rfl rfl, hv 2 z c rfl rfl⟩
theorem run_minA {xs : List AV} {vs : Array Value} {r : AV} (ts : Array TypeId) (t : TypeId) (h : minA xs = some r) (hv : VRs G H w xs vs) : ∃ v, (Builtin.min_ ts t vs).run P w = .ok v w ∧ VR G H w r v := by
  unfold minA at h
  split at h
  · obtain ⟨a, rfl, ha⟩ := list1 hv
    cases ha
    injection h with h; subst h
    exact ⟨_, by simp [Builtin.min_], .v _⟩
  · obtain ⟨a, b, rfl, ha, hb⟩ := list2 hv
    cases ha; cases hb
    injection h with h; subst h
    exact ⟨_, by simp [Builtin.min_, Builtin.min2, minIf], .v _⟩
  · obtain ⟨a, b, c, rfl, ha, hb, hc⟩ := list3 hv
    cases ha; cases hb; cases hc
    injection h with h; subst h
    exact ⟨_, by simp [Builtin.min_, Builtin.min2, minIf], .v _⟩
  · cases h
theorem run_maxA {xs : List AV} {vs : Array Value} {r : AV} (ts : Array TypeId) (t : TypeId) (h : maxA xs = some r) (hv : VRs G H w xs vs) : ∃ v, (Builtin.max_ ts t vs).run P w = .ok v w ∧ VR G H w r v := by
  unfold maxA at h
  split at h
  · obtain ⟨a, rfl, ha⟩ := list1 hv
    cases ha
    injection h with h; subst h
    exact ⟨_, by simp [Builtin.max_], .v _⟩
  · obtain ⟨a, b, rfl, ha, hb⟩ := list2 hv
    cases ha; cases hb
    injection h with h; subst h
    exact ⟨_, by simp only [Builtin.max_, Builtin.max2, maxIf, List.foldlM, Sem.run_bind, Sem.run_pure, Result.andThen_ok], .v _⟩
  · obtain ⟨a, b, c, rfl, ha, hb, hc⟩ := list3 hv
    cases ha; cases hb; cases hc
    injection h with h; subst h
    exact ⟨_, by simp only [Builtin.max_, Builtin.max2, maxIf, List.foldlM, Sem.run_bind, Sem.run_pure, Result.andThen_ok], .v _⟩
  · cases h
theorem run_bound {x : AV} {v : Value} {n y : Nat} {code : BoundsCode} (h : natOf x = some n) (hv : VR G H w x v) (hy : n ≤ y) : (Instr.sliceBound v y code).run P w = .ok n w := by
  obtain ⟨k, rfl⟩ := natOf_vr h hv
  have h1 : (n : Int) ≤ (y : Int) := by omega
  simp [Instr.sliceBound, asIntOf, h1]
theorem cut_vr {t t' : Tag} {k l h m cap : Nat} {es : List (List AV)} {a : Option Addr} (hx : VR G H w (.sl t k es) (.slice a es.length cap)) (hl : l ≤ h) (hh : h ≤ es.length) (hm : h ≤ m)
    (ht : t' = .no ∨ t' = .clip ∧ m = h) :
    VR G H w (.sl t' k ((es.drop l).take (h - l))) (.slice (if m = l then a else a.map (·.add (l * k))) (h - l) (m - l)) := by
  have hlen : ((es.drop l).take (h - l)).length = h - l := by simp; omega
  cases hx with
  | sl _ _ _ _ _ b o f hcap hs ha hc hv htag =>
    have hget : ∀ (i : Nat) (e : List AV), ((es.drop l).take (h - l))[i]? = some e → es[l + i]? = some e ∧ i < h - l := fun i e hi => by
      rw [List.getElem?_take] at hi
      split at hi
      · rw [List.getElem?_drop] at hi
        exact ⟨hi, by assumption⟩
      · cases hi
    have key := VR.sl (G := G) (H := H) (w := w) t' k ((es.drop l).take (h - l)) (if m = l then a else a.map (·.add (l * k))) (m - l) b (o + l * k) (fun i j => f (l + i) j)
      (by rw [hlen]; omega) (fun e he => hs e (List.mem_of_mem_drop (List.mem_of_mem_take he))) (fun hne => ?_)
      (fun i j e c hi hj => ?_) (fun i j e c hi hj => hv (l + i) j e c (hget i e hi).1 hj) ?_
    · rwa [hlen] at key
    · have hlt : l < h := by
        rcases Nat.lt_or_ge l h with h1 | h1
        · exact h1
        · exact absurd (List.eq_nil_of_length_eq_zero (by rw [hlen]; omega)) hne
      have hes : es ≠ [] := fun e => by subst e; simp at hh; omega
      obtain ⟨hpos, rfl, hfr⟩ := ha hes
      refine ⟨hpos, ?_, hfr.le ?_⟩
      · rw [if_neg (by omega)]
        simp [Addr.add_mid]
      · rw [hlen]
        have h3 : h * k ≤ es.length * k := Nat.mul_le_mul_right _ hh
        have h4 : (h - l) * k = h * k - l * k := Nat.sub_mul _ _ _
        have h5 : l * k ≤ h * k := Nat.mul_le_mul_right _ hl
        omega
    · have := hc (l + i) j e c (hget i e hi).1 hj
      rwa [Nat.add_mul, ← Nat.add_assoc] at this
    · rcases ht with rfl | ⟨rfl, h1⟩
      · trivial
      · show m - l = _
        rw [hlen, h1]
def OptVR (G : Gh) (H : Heap) (w : World) : Option AV → Option Value → Prop
  | none, none => True
  | some y, some v => VR G H w y v
  | _, _ => False
theorem run_sliceM {t : TypeId} {r : AV} {a : Value} {i off k n c : Nat} {lo hi mx : Option AV} {clo chi cmx : Option Value} (h : (if elemSize P t = some k then (loN lo).bind fun l => (hiN mx.isSome n hi).bind fun h => cutM i off k c l h mx else none) = some r) (hx : VR G H w (.ms i off k n c) a)
    (hlo : OptVR G H w lo clo) (hhi : OptVR G H w hi chi) (hmx : OptVR G H w mx cmx) :
    ∃ v, (Instr.sliceAt t a clo chi cmx).run P w = .ok v w ∧ VR G H w r v := by
  by_cases hty : elemSize P t = some k
  case neg => rw [if_neg hty] at h; cases h
  rw [if_pos hty] at h
  obtain ⟨e, it, he, hi', hsz, _⟩ := run_elemSize hty
  obtain ⟨l, hl, h⟩ := Option.bind_eq_some_iff.1 h
  obtain ⟨hN, hh, h⟩ := Option.bind_eq_some_iff.1 h
  cases hx with
  | ms _ _ _ _ _ ad cap hcel had hn hcap hcz =>
    have hlow : ∀ y code, l ≤ y → (match clo with | some v => Instr.sliceBound v y code | none => (pure 0 : Sem Nat)).run P w = .ok l w := fun y code hy => by
      cases lo with
      | none =>
        cases clo with
        | none => simp [loN] at hl; subst hl; rfl
        | some v => exact hlo.elim
      | some z =>
        cases clo with
        | none => exact hlo.elim
        | some v => exact run_bound hl hlo hy
    have mk : ∀ m c', l ≤ hN → hN ≤ c' → c' ≤ c → c' ≤ m → m ≤ cap → VR G H w (.ms i (off + l * k) k (hN - l) (c' - l)) (.slice (if m = l then ad else ad.map (·.add (l * k))) (hN - l) (m - l)) := fun m c' h1 h2 h3 h4 h5 => by
      refine .ms _ _ _ _ _ _ _ hcel (fun h0 => ?_) (by omega) (by omega) (fun h0 => ?_)
      · rw [if_neg (by omega), had (by omega)]
        simp [Addr.add_mid]
      · have e1 := hcz (by omega)
        have e2 : (m - l) * k = m * k - l * k := Nat.sub_mul _ _ _
        have e3 : l * k ≤ m * k := Nat.mul_le_mul_right _ (by omega)
        have e4 : m * k ≤ cap * k := Nat.mul_le_mul_right _ h5
        omega
    cases mx with
    | none =>
      cases cmx with
      | some v => exact hmx.elim
      | none =>
        simp only [cutM] at h
        split at h
        case isFalse => cases h
        rename_i hle
        injection h with h
        subst h
        refine ⟨_, ?_, mk cap c hle.1 hle.2 (Nat.le_refl _) hcap (Nat.le_refl _)⟩
        have hhigh : (match chi with | some v => Instr.sliceBound v cap .sliceAcap | none => (pure n : Sem Nat)).run P w = .ok hN w := by
          cases hi with
          | none =>
            cases chi with
            | none => simp [hiN] at hh; subst hh; rfl
            | some v => exact hhi.elim
          | some z =>
            cases chi with
            | none => exact hhi.elim
            | some v => exact run_bound hh hhi (by omega)
        have hb : (Instr.sliceBounds true n cap clo chi none).run P w = .ok (l, hN, cap) w := by
          have := hlow hN .sliceB hle.1
          cases clo <;> cases chi <;> simp_all [Instr.sliceBounds]
        simp [Instr.sliceAt, run_underlying he, Instr.slice, hb, sizeOf, typeInfo, hi', hsz]
    | some m =>
      cases cmx with
      | none => exact hmx.elim
      | some vm =>
        simp only [cutM] at h
        obtain ⟨mN, hm, h⟩ := Option.bind_eq_some_iff.1 h
        split at h
        case isFalse => cases h
        rename_i hle
        injection h with h
        subst h
        refine ⟨_, ?_, mk mN mN hle.1 hle.2.1 hle.2.2 (Nat.le_refl _) (by omega)⟩
        have hmm : ∀ code, (Instr.sliceBound vm cap code).run P w = .ok mN w := fun code => run_bound hm hmx (by omega)
        cases hi with
        | none => simp [hiN] at hh
        | some z =>
          cases chi with
          | none => exact hhi.elim
          | some vh =>
            have hhh : ∀ code, (Instr.sliceBound vh mN code).run P w = .ok hN w := fun code => run_bound hh hhi hle.2.1
            have hb : (Instr.sliceBounds true n cap clo (some vh) (some vm)).run P w = .ok (l, hN, mN) w := by
              have := hlow hN .slice3C hle.1
              cases clo <;> simp_all [Instr.sliceBounds]
            simp [Instr.sliceAt, run_underlying he, Instr.slice, hb, sizeOf, typeInfo, hi', hsz]
theorem run_sliceA {t : TypeId} {x r : AV} {a : Value} {lo hi mx : Option AV} {clo chi cmx : Option Value} (h : sliceA P t x lo hi mx = some r) (hx : VR G H w x a)
    (hlo : OptVR G H w lo clo)
    (hhi : OptVR G H w hi chi)
    (hmx : OptVR G H w mx cmx) :
    ∃ v, (Instr.sliceAt t a clo chi cmx).run P w = .ok v w ∧ VR G H w r v := by
  unfold sliceA at h
  cases x <;> try (cases h; done)
  case ms im om km nm cm => exact run_sliceM h hx hlo hhi hmx
  rename_i tg k es
  by_cases hty : elemSize P t = some k
  case neg => simp only [if_neg hty] at h; cases h
  simp only [if_pos hty] at h
  obtain ⟨e, i, he, hi', hsz, _⟩ := run_elemSize hty
  obtain ⟨l, hl, h⟩ := Option.bind_eq_some_iff.1 h
  obtain ⟨hN, hh, h⟩ := Option.bind_eq_some_iff.1 h
  have hshape : ∃ ad cap, a = .slice ad es.length cap ∧ es.length ≤ cap := by
    cases hx with
    | sl _ _ _ a cap b o f hcap => exact ⟨a, cap, rfl, hcap⟩
  obtain ⟨ad, cap, rfl, hcap⟩ := hshape
  have hlow : ∀ y code, l ≤ y → (match clo with | some v => Instr.sliceBound v y code | none => (pure 0 : Sem Nat)).run P w = .ok l w := fun y code hy => by
    cases lo with
    | none =>
      cases clo with
      | none => simp [loN] at hl; subst hl; rfl
      | some v => exact hlo.elim
    | some z =>
      cases clo with
      | none => exact hlo.elim
      | some v => exact run_bound hl hlo hy
  cases mx with
  | none =>
    cases cmx with
    | some v => exact hmx.elim
    | none =>
      simp only [cutA] at h
      split at h
      case isFalse => cases h
      rename_i hle
      injection h with h
      subst h
      refine ⟨_, ?_, cut_vr (t' := .no) (m := cap) hx hle.1 hle.2 (by omega) (.inl rfl)⟩
      have hhigh : (match chi with | some v => Instr.sliceBound v cap .sliceAcap | none => (pure es.length : Sem Nat)).run P w = .ok hN w := by
        cases hi with
        | none =>
          cases chi with
          | none => simp [hiN] at hh; subst hh; rfl
          | some v => exact hhi.elim
        | some z =>
          cases chi with
          | none => exact hhi.elim
          | some v => exact run_bound hh hhi (by omega)
      have hb : (Instr.sliceBounds true es.length cap clo chi none).run P w = .ok (l, hN, cap) w := by
        have := hlow hN .sliceB hle.1
        cases clo <;> cases chi <;> simp_all [Instr.sliceBounds]
      simp [Instr.sliceAt, run_underlying he, Instr.slice, hb, sizeOf, typeInfo, hi', hsz]
  | some m =>
    cases cmx with
    | none => exact hmx.elim
    | some vm =>
      simp only [cutA] at h
      obtain ⟨mN, hm, h⟩ := Option.bind_eq_some_iff.1 h
      split at h
      case isFalse => cases h
      rename_i hle
      injection h with h
      subst h
      refine ⟨_, ?_, cut_vr (m := mN) hx hle.1 (by omega) hle.2.1 ?_⟩
      · have hmm : ∀ code, (Instr.sliceBound vm cap code).run P w = .ok mN w := fun code => run_bound hm hmx (by omega)
        cases hi with
        | none => simp [hiN] at hh
        | some z =>
          cases chi with
          | none => exact hhi.elim
          | some vh =>
            have hhh : ∀ code, (Instr.sliceBound vh mN code).run P w = .ok hN w := fun code => run_bound hh hhi hle.2.1
            have hb : (Instr.sliceBounds true es.length cap clo (some vh) (some vm)).run P w = .ok (l, hN, mN) w := by
              have := hlow hN .slice3C hle.1
              cases clo <;> simp_all [Instr.sliceBounds]
            simp [Instr.sliceAt, run_underlying he, Instr.slice, hb, sizeOf, typeInfo, hi', hsz]
      · by_cases h1 : mN = hN
        · exact .inr ⟨by rw [if_pos h1], h1⟩
        · exact .inl (by rw [if_neg h1])
end
end Go.AM
