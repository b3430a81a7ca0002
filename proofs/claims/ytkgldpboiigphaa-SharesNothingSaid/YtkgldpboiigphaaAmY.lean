/-
  The abstract machine: a call that leaves some elements of a slice out.
  Conditions: none; it speaks of any program.
-/
import Derived.Test.YtkgldpboiigphaaAmX
set_option linter.all false
namespace Go.AM
open Go Go.RowKit

/-! ### A call that leaves some elements of such a slice out -/
theorem len_flat {α : Type} {f : α → List AV} {k : Nat} (hf : ∀ x, (f x).length = k) : ∀ xs : List α, (xs.map f).flatten.length = xs.length * k
  | [] => by simp
  | x :: xs => by rw [List.map_cons, List.flatten_cons, List.length_append, len_flat hf xs, hf, List.length_cons, Nat.succ_mul, Nat.add_comm]
theorem take_flat {α : Type} {f : α → List AV} {k : Nat} (hf : ∀ x, (f x).length = k) {xs : List α} {Z : List AV} : ((xs.map f).flatten ++ Z).take (xs.length * k) = (xs.map f).flatten := by
  rw [← len_flat hf xs]
  exact List.take_left
theorem take_flatN {α : Type} {f : α → List AV} {k : Nat} (hf : ∀ x, (f x).length = k) (xs : List α) {a : Nat} (ha : a ≤ xs.length) : (xs.map f).flatten.take (a * k) = ((xs.take a).map f).flatten := by
  have h := take_flat hf (xs := xs.take a) (Z := ((xs.drop a).map f).flatten)
  rw [← List.flatten_append, ← List.map_append, List.take_append_drop, List.length_take, Nat.min_eq_left ha] at h
  exact h
theorem drop_flatN {α : Type} {f : α → List AV} {k : Nat} (hf : ∀ x, (f x).length = k) (xs : List α) {a : Nat} (ha : a ≤ xs.length) : (xs.map f).flatten.drop (a * k) = ((xs.drop a).map f).flatten := by
  have h : (xs.map f).flatten = ((xs.take a).map f).flatten ++ ((xs.drop a).map f).flatten := by rw [← List.flatten_append, ← List.map_append, List.take_append_drop]
  have h2 : ((xs.take a).map f).flatten.length = a * k := by rw [len_flat hf, List.length_take, Nat.min_eq_left ha]
  rw [h, ← h2]
  exact List.drop_left
/-- What its block is at the end. -/
def delC {α : Type} (f : α → List AV) (z : List AV) (xs : List α) (p q : Int) : List AV := ((xs.take p.toNat ++ xs.drop q.toNat).map f).flatten ++ (List.replicate (q.toNat - p.toNat) z).flatten
def DelSat {α : Type} (P : Program) (fn : FuncId) (k : Nat) (f : α → List AV) (z : List AV) (xs : List α) (p q : Int) : Prop :=
  ∀ j, MutSat P fn [.ms j 0 k xs.length xs.length, .v (.int .i64 p), .v (.int .i64 q)] j (xs.map f).flatten (.ms j 0 k (xs.take p.toNat ++ xs.drop q.toNat).length xs.length) (delC f z xs p q)
/-- A function that changes one block, and returns what names it. -/
theorem mutI_of_wp {P : Program} {N : Nat} (hm : P.follows .mixedOrders = true) {f : FuncId} {fn : Func} {c : Code} (hf : P.funcs[f]? = some fn) (hb : fn.body = some c) (hname : fn.name ≠ "runtime.NumGoroutine") (hN : fn.ntmps = N)
    {as : List AV} (hlen : as.length ≤ N) {r : AV} {id : Nat} {cs ds : List AV} (hp : ∀ H : Heap, H id = some (.cells ds) → In H r) (hds : ∀ c, c ∈ ds → Pure c)
    (h : ∀ H g, Fresh H g → H id = some (.cells cs) → wpA P N c (fun e fr H1 _ => (e = .normal ∨ e = .ret) ∧ (∃ x, resA P N fr H1 fn.results.toList = some x ∧ Le r x) ∧ (∀ i, i < g ∧ i ≠ id → H1 i = H i) ∧ H1 id = some (.cells ds)) (frame0 as) H g) : MutSat P f as id cs r ds := fun H g hfr hid => by
  have hlt : id < g := by
    rcases Nat.lt_or_ge id g with h | h
    · exact h
    · rw [hfr id h] at hid; cases hid
  have hset : ∀ i x, (H.set id (.cells ds)) i = some x → (i = id ∧ x = .cells ds) ∨ (i ≠ id ∧ H i = some x) := fun i x hx => by
    by_cases e : i = id
    · subst e
      rw [Heap.set_same] at hx
      injection hx with hx
      exact .inl ⟨rfl, hx.symm⟩
    · rw [Heap.set_ne _ _ e] at hx
      exact .inr ⟨e, hx⟩
  refine sat_of_wp hm hf hb hname hN hlen hfr (fun i hi => by rw [Heap.set_ne _ _ (by omega)]; exact hfr i hi) (Nat.le_refl _) (hp _ (Heap.set_same _ _ _)) (fun i hq => Heap.cel_put hq) (fun i e n hq => ?_) (fun i k p hq => ⟨p, by rw [Heap.set_ne _ _ (fun e => by subst e; rw [hid] at hq; cases hq)]; exact hq⟩) (fun i _ hq => ?_) (fun i cs' hq => ?_)
    (h H g hfr hid) fun e fr H1 g1 hq => ⟨hq.1, hq.2.1, fun i x hi => ?_⟩
  · have e' : i ≠ id := fun e' => by subst e'; rw [hid] at hq; cases hq
    exact ⟨n, by rw [Heap.set_ne _ _ e']; exact hq⟩
  · rw [Heap.set_ne _ _ (fun e => by subst e; rw [hid] at hq; cases hq)]
    exact hq
  · rcases hset i _ hq with ⟨_, h⟩ | ⟨_, h⟩
    · injection h with h
      subst h
      exact .inr fun c hc => (hds c hc).inH
    · exact .inl h
  · rcases hset i _ hi with ⟨rfl, rfl⟩ | ⟨hne, hi⟩
    · exact hq.2.2.2
    · have hl : i < g := by
        rcases Nat.lt_or_ge i g with h | h
        · exact h
        · rw [hfr i h] at hi; cases hi
      rw [hq.2.2.1 i ⟨hl, hne⟩]
      exact hi
theorem pure_flat {α : Type} {f : α → List AV} (h : ∀ x, ∀ c, c ∈ f x → Pure c) (xs : List α) : ∀ c, c ∈ (xs.map f).flatten → Pure c := fun c hc => by
  obtain ⟨l, hl, hc⟩ := List.mem_flatten.1 hc
  obtain ⟨x, _, rfl⟩ := List.mem_map.1 hl
  exact h x c hc
theorem pure_delC {α : Type} {f : α → List AV} {z : List AV} {xs : List α} {p q : Int} (h : ∀ x, ∀ c, c ∈ f x → Pure c) (hz : ∀ c, c ∈ z → Pure c) : ∀ c, c ∈ delC f z xs p q → Pure c := fun c hc => by
  rcases List.mem_append.1 hc with hc | hc
  · exact pure_flat h _ c hc
  · obtain ⟨l, hl, hc⟩ := List.mem_flatten.1 hc
    rw [(List.mem_replicate.1 hl).2] at hc
    exact hz c hc
theorem splice_app {α : Type} {f : α → List AV} {k : Nat} (hf : ∀ x, (f x).length = k) (xs : List α) {a c : Nat} (ha : a ≤ c) (hc : c ≤ xs.length) :
    ∃ R : List AV, splice (xs.map f).flatten (0 + a * k) ((xs.drop c).map f).flatten = ((xs.take a ++ xs.drop c).map f).flatten ++ R ∧ R.length = (c - a) * k := by
  refine ⟨(xs.map f).flatten.drop (0 + a * k + ((xs.drop c).map f).flatten.length), ?_, ?_⟩
  · unfold splice
    rw [Nat.zero_add, take_flatN hf xs (by omega), List.map_append, List.flatten_append]
  · rw [List.length_drop, len_flat hf, len_flat hf, List.length_drop, Nat.zero_add, ← Nat.add_mul, ← Nat.sub_mul]
    congr 1
    omega
theorem splice_clear {X R z : List AV} {m : Nat} (hR : R.length = (List.replicate m z).flatten.length) : splice (X ++ R) X.length (List.replicate m z).flatten = X ++ (List.replicate m z).flatten := by
  unfold splice
  rw [List.take_left, List.drop_of_length_le (by rw [List.length_append]; omega), List.append_nil]
section
variable {P : Program} {N : Nat} {l : List (Nat × AV)} {H : Heap} {g : Nat} {lim : Option Nat} {g0 i : Nat} {ops : Array Oper} {K : Fr → Heap → Nat → Prop} {r : List Oper} {d : Nat} {ty : TypeId} {pos : String} {after : Array Edge}
  {O : Nat → Prop} {H0 : Heap} {L Lp : List (Nat × Blk)} {b : Nat}
theorem o_delM {α : Type} {F : Operand} {args : Array Operand} {ts : Array TypeId} {kf : FuncId} {first cap : List AV} {j k n : Nat} {xs ys : List α} {f : α → List AV} {z : List AV} {p q : Int} (hS : St O H0 (Lp ++ thawN j n (xs.map f)) H b) (hd : d < N) (ht : tgt (evL N l F) = some (kf, first, cap))
    (ha : first ++ args.toList.map (evL N l) ++ cap = [msn j k n, .v (.int .i64 p), .v (.int .i64 q)]) (hM : delL xs p q = some ys) (hs : DelSat P kf k f z xs p q)
    (h : ∀ H' Z, St O H0 (Lp ++ [(j, .cells ((ys.map f).flatten ++ Z))]) H' b → runQ P N none g0 ops K (i + 1) r (Fr.of ((d, .ms j 0 k ys.length n) :: l)) H' g) :
    runQ P N none g0 ops K i (⟨some d, .call { callee := .value F, args := args, argTypes := ts }, ty, pos, after, none⟩ :: r) (Fr.of l) H g := by
  have hlen : xs.length = n := by simpa using hS.len
  unfold delL at hM
  split at hM
  case isFalse => cases hM
  case isTrue hpq =>
  injection hM with hM
  subst hM hlen
  have hne : xs.map f ≠ [] := fun e => by
    have : xs = [] := by simpa using e
    subst this
    simp at hpq
    omega
  have e0 : msn j k xs.length = .ms j 0 k xs.length xs.length := by
    unfold msn
    rw [if_neg (fun e => hne (by rw [List.length_eq_zero_iff] at e; rw [e]; rfl))]
  rw [e0] at ha
  replace hS := hS.thaw
  have e1 : thawL j (xs.map f) = [(j, .cells (xs.map f).flatten)] := by unfold thawL; rw [if_neg hne]
  rw [e1] at hS
  have hn : (Lp ++ [(j, Blk.cells (xs.map f).flatten)])[Lp.length]? = some (j, .cells (xs.map f).flatten) := by simp
  refine o_mut Lp.length hS hd ht ha hn mok_no (hs j) (putAt_last _ _ _) fun H' hS' => h H' _ hS'
theorem run_piv {op : Op} {v : AV} {wr : Option (Nat × Blk)} (hd : d < N) (hc : callOf op = none) (ho : old lim ops i op (evL N l) = false) (hp : pivot ops i = true) (he : evalF P (g0 + i) op (evL N l) H = some (v, wr))
    (h : runQ P N lim g0 ops K (i + 1) r (Fr.of ((d, v) :: l)) (H.patch wr) g) : runQ P N lim g0 ops K i (⟨some d, op, ty, pos, after, none⟩ :: r) (Fr.of l) H g := by
  simp only [runQ, stepQ, opQ, hc, ev_of, ho, Bool.false_eq_true, if_false]
  refine ⟨hp, v, wr, he, ?_⟩
  rw [put_of hd]
  exact h
theorem o_lenms {t ty' : TypeId} {x : Operand} {j off k n c : Nat} (hd : d < N) (hx : evL N l x = .ms j off k n c) (ht : isSlice P t = true)
    (h : runQ P N lim g0 ops K (i + 1) r (Fr.of ((d, .v (.int .i64 n)) :: l)) H g) : runQ P N lim g0 ops K i (⟨some d, .call { callee := .builtin .len, args := #[x], argTypes := #[t] }, ty', pos, after, none⟩ :: r) (Fr.of l) H g :=
  run_val (wr := none) hd rfl (by cases lim <;> rfl) (by simp [evalF, hx, ht]) h
theorem o_slicems {t : TypeId} {x : Operand} {lo hi mx : Option Operand} {j off k n c : Nat} {v : AV} (p q : Nat) (hd : d < N) (hx : evL N l x = .ms j off k n c) (hk : elemSize P t = some k)
    (hl : loN (lo.map (evL N l)) = some p) (hh : hiN (mx.map (evL N l)).isSome n (hi.map (evL N l)) = some q) (hc : cutM j off k c p q (mx.map (evL N l)) = some v)
    (h : runQ P N lim g0 ops K (i + 1) r (Fr.of ((d, v) :: l)) H g) : runQ P N lim g0 ops K i (⟨some d, .slice t x lo hi mx, ty, pos, after, none⟩ :: r) (Fr.of l) H g :=
  run_val (wr := none) hd rfl (by cases lim <;> rfl) (by simp only [evalF, sliceA, hx, hk, if_true, hl, hh, hc, Option.bind_some, Option.map_some]) h
end
end Go.AM
