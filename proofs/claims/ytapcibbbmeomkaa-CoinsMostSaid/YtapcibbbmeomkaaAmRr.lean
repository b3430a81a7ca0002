/-
  The abstract machine: a slice of slices of its own, that are appended to in place.
  Conditions: none; it speaks of any program.
-/
import Derived.Test.YtapcibbbmeomkaaAmSk
set_option linter.all false
namespace Go.AM
open Go Go.RowKit
section
variable {α : Type} (f : α → List AV) (k : Nat) (e : TypeId)
def cellsC (rs : List Nat) (ys : List (List α)) : List AV := List.zipWith (fun r xs => AV.sl (.id r) k (xs.map f)) rs ys
def rowsC (rs : List Nat) (ys : List (List α)) : BL := List.zipWith (fun r xs => (r, Blk.row e xs.length)) rs ys
def rowsL (b m : Nat) (rs : List Nat) (ys : List (List α)) : BL := if rs.length = ys.length ∧ ys.length = m ∧ 0 < m then (b, .cells (cellsC f k rs ys)) :: rowsC e rs ys else [(b, .ice), (b, .ice)]
def rowsP (b m : Nat) (rs : List Nat) (ys : List (List α)) : BL := if rs.length = ys.length then rowsL f k e b m rs ys else if rs.length + 1 = ys.length ∧ ys.length = m ∧ ys.getLast?.map List.isEmpty = some true then (b, .cells (cellsC f k rs ys ++ [.sl .nil 0 []])) :: rowsC e rs ys else [(b, .ice), (b, .ice)]
def rowsA (b m : Nat) (rs : List Nat) (ys ys' : List (List α)) : BL := if rs.length = ys.length ∧ ys'.length = ys.length ∧ ys.length = m ∧ 0 < m then (b, .cells (cellsC f k rs ys)) :: rowsC e rs ys' else [(b, .ice), (b, .ice)]
end
section
variable {α : Type} {f : α → List AV} {k : Nat} {e : TypeId} {O : Nat → Prop} {H0 H : Heap} {Lp : BL} {b bd m : Nat} {rs : List Nat} {ys ys' : List (List α)}
theorem bad_nd (hS : St O H0 (Lp ++ [(b, .ice), (b, .ice)]) H bd) : False := by
  have := hS.nd
  rw [List.map_append, List.nodup_append] at this
  simp at this
theorem St.rl (hS : St O H0 (Lp ++ rowsL f k e b m rs ys) H bd) : rs.length = ys.length ∧ ys.length = m ∧ 0 < m := by
  unfold rowsL at hS
  split at hS
  · assumption
  · exact (bad_nd hS).elim
theorem St.ra (hS : St O H0 (Lp ++ rowsA f k e b m rs ys ys') H bd) : rs.length = ys.length ∧ ys'.length = ys.length ∧ ys.length = m ∧ 0 < m := by
  unfold rowsA at hS
  split at hS
  · assumption
  · exact (bad_nd hS).elim
theorem rowsL_eq (h : rs.length = ys.length ∧ ys.length = m ∧ 0 < m) : rowsL f k e b m rs ys = (b, .cells (cellsC f k rs ys)) :: rowsC e rs ys := by unfold rowsL; rw [if_pos h]
theorem rowsA_eq (h : rs.length = ys.length ∧ ys'.length = ys.length ∧ ys.length = m ∧ 0 < m) : rowsA f k e b m rs ys ys' = (b, .cells (cellsC f k rs ys)) :: rowsC e rs ys' := by unfold rowsA; rw [if_pos h]
theorem St.toP (hS : St O H0 (Lp ++ rowsL f k e b m rs ys) H bd) : St O H0 (Lp ++ rowsP f k e b m rs ys) H bd := by
  have h := hS.rl
  unfold rowsP
  rw [if_pos h.1]
  exact hS
theorem St.bR (hS : St O H0 (Lp ++ rowsL f k e b m rs ys) H bd) : b < bd := by
  have h := hS.rl
  rw [rowsL_eq h] at hS
  exact (hS.has (b, .cells (cellsC f k rs ys)) (by simp)).2.1
theorem mid_get {A B : BL} {x : Nat × Blk} : (A ++ x :: B)[A.length]? = some x := by simp
theorem getD_of_lt {n : Nat} (h : n < rs.length) : rs[n]? = some (rs.getD n 0) := by simp [List.getD, h]
theorem cellsC_get {n : Nat} {u : List α} (hl : rs.length = ys.length) (hu : ys[n]? = some u) : (cellsC f k rs ys)[n]? = some (.sl (.id (rs.getD n 0)) k (u.map f)) := by
  have hn := (List.getElem?_eq_some_iff.1 hu).1
  unfold cellsC
  rw [List.getElem?_zipWith, hu, getD_of_lt (by omega)]
theorem rowsC_get {n : Nat} {u : List α} (hl : rs.length = ys.length) (hu : ys[n]? = some u) : (rowsC e rs ys)[n]? = some (rs.getD n 0, .row e u.length) := by
  have hn := (List.getElem?_eq_some_iff.1 hu).1
  unfold rowsC
  rw [List.getElem?_zipWith, hu, getD_of_lt (by omega)]
theorem putAt_right {A B : BL} {n : Nat} {x : Blk} : putAt (A ++ B) (A.length + n) x = A ++ putAt B n x := by
  induction A with
  | nil => rw [List.nil_append, List.nil_append]; congr 1; simp
  | cons p A ih =>
    have : (p :: A).length + n = (A.length + n) + 1 := by simp; omega
    rw [this]
    simp only [List.cons_append, putAt, ih]
theorem rowsC_set : ∀ {rs : List Nat} {ys : List (List α)} {n : Nat} {u : List α}, rs.length = ys.length → n < ys.length → putAt (rowsC e rs ys) n (.row e u.length) = rowsC e rs (ys.set n u)
  | [], [], n, u, _, hn => by simp at hn
  | r :: rs, y :: ys, 0, u, _, _ => rfl
  | r :: rs, y :: ys, n + 1, u, hl, hn => by
    have := rowsC_set (rs := rs) (ys := ys) (n := n) (u := u) (by simpa using hl) (by simpa using hn)
    show (r, Blk.row e y.length) :: putAt (rowsC e rs ys) n _ = (r, Blk.row e y.length) :: rowsC e rs (ys.set n u)
    rw [this]
  | [], _ :: _, _, _, h, _ => by simp at h
  | _ :: _, [], _, _, h, _ => by simp at h
theorem cellsC_set : ∀ {rs : List Nat} {ys : List (List α)} {n : Nat} {u : List α}, rs.length = ys.length → n < ys.length → (cellsC f k rs ys).set n (.sl (.id (rs.getD n 0)) k (u.map f)) = cellsC f k rs (ys.set n u)
  | [], [], n, u, _, hn => by simp at hn
  | r :: rs, y :: ys, 0, u, _, _ => rfl
  | r :: rs, y :: ys, n + 1, u, hl, hn => by
    have := cellsC_set (rs := rs) (ys := ys) (n := n) (u := u) (by simpa using hl) (by simpa using hn)
    show AV.sl (.id r) k (y.map f) :: (cellsC f k rs ys).set n (.sl (.id ((r :: rs).getD (n + 1) 0)) k (u.map f)) = AV.sl (.id r) k (y.map f) :: cellsC f k rs (ys.set n u)
    rw [← this]
    rfl
  | [], _ :: _, _, _, h, _ => by simp at h
  | _ :: _, [], _, _, h, _ => by simp at h
theorem cellsC_len (hl : rs.length = ys.length) : (cellsC f k rs ys).length = ys.length := by unfold cellsC; simp [hl]
theorem zip_trunc {β γ δ : Type} (g : β → γ → δ) : ∀ {xs : List β} {zs : List γ} {ws : List γ}, xs.length = zs.length → List.zipWith g xs (zs ++ ws) = List.zipWith g xs zs
  | [], [], ws, _ => by simp
  | x :: xs, z :: zs, ws, h => by
    simp only [List.cons_append, List.zipWith_cons_cons]
    rw [zip_trunc g (by simpa using h)]
  | [], _ :: _, _, h => by simp at h
  | _ :: _, [], _, h => by simp at h
end
section
variable {P : Program} {N : Nat} {l : List (Nat × AV)} {H : Heap} {g : Nat} {lim : Option Nat} {g0 i : Nat} {ops : Array Oper} {K : Fr → Heap → Nat → Prop} {r : List Oper} {d : Nat} {ty : TypeId} {pos : String} {after : Array Edge}
  {O : Nat → Prop} {H0 : Heap} {Lp : BL} {b bd k m : Nat} {e : TypeId} {α : Type} {f : α → List AV} {rs : List Nat} {ys ys' : List (List α)}
theorem Ok.rr {bd' : Nat} {H' : Heap} (hS : St O H0 (Lp ++ rowsL f k e b m rs ys) H' bd') (hb : bd' ≤ g0) : Ok (some g0) ops i b := .lt (Nat.lt_of_lt_of_le hS.bR hb)
theorem Ok.rw_ {bd' : Nat} {H' : Heap} {z : Int} {u : List α} (hS : St O H0 (Lp ++ rowsL f k e b m rs ys) H' bd') (hu : idx ys z = some u) (hb : bd' ≤ g0) : Ok (some g0) ops i (rs.getD z.toNat 0) := by
  have h := hS.rl
  rw [rowsL_eq h] at hS
  have hu' : ys[z.toNat]? = some u := by
    unfold idx at hu
    rwa [if_pos (idx_lt hu).1] at hu
  have hm := List.mem_of_getElem? (rowsC_get (e := e) h.1 hu')
  exact .lt (Nat.lt_of_lt_of_le (hS.has (rs.getD z.toNat 0, .row e u.length) (List.mem_append.2 (.inr (List.mem_cons_of_mem _ hm)))).2.1 hb)
theorem St.lenL (hS : St O H0 (Lp ++ rowsL f k e b m rs ys) H bd) : ys.length = m := hS.rl.2.1
theorem St.lenP (hS : St O H0 (Lp ++ rowsP f k e b m rs ys) H bd) : ys.length = m := by
  unfold rowsP at hS
  split at hS
  · exact hS.lenL
  · split at hS
    · rename_i h; exact h.2.1
    · exact (bad_nd hS).elim
theorem o_lenR {t ty' : TypeId} {x : Operand} {j k' n : Nat} (hd : d < N) (hx : evL N l x = .ms j 0 k' m m) (hm : n = m) (ht : isSlice P t = true)
    (h : runQ P N lim g0 ops K (i + 1) r (Fr.of ((d, .v (.int .i64 n)) :: l)) H g) : runQ P N lim g0 ops K i (⟨some d, .call { callee := .builtin .len, args := #[x], argTypes := #[t] }, ty', pos, after, none⟩ :: r) (Fr.of l) H g := by
  subst hm
  exact run_val (wr := none) hd rfl (by cases lim <;> rfl) (by simp [evalF, hx, ht]) h
theorem o_indexR {t : TypeId} {x y : Operand} {z : Int} {u : List α} (hd : d < N) (hS : St O H0 (Lp ++ rowsL f k e b m rs ys) H bd) (hx : evL N l x = .ms b 0 1 m m) (hy : evL N l y = .v (.int .i64 z)) (hk : elemSize P t = some 1) (hu : idx ys z = some u)
    (h : runQ P N lim g0 ops K (i + 1) r (Fr.of ((d, .ptr b (0 + z.toNat * 1)) :: l)) H g) : runQ P N lim g0 ops K i (⟨some d, .indexAddr t x y, ty, pos, after, none⟩ :: r) (Fr.of l) H g := by
  have hz := idx_lt hu
  have hlt := idx_ltn hu
  rw [hS.rl.2.1] at hlt
  refine run_val (wr := none) hd rfl (by cases lim <;> rfl) ?_ h
  simp only [evalF, hx, hy, natOf, if_pos hz.1, Option.bind_some]
  rw [if_pos ⟨hk, hlt⟩]
theorem o_indexA_ {t : TypeId} {x y : Operand} {z : Int} {u : List α} (hd : d < N) (hS : St O H0 (Lp ++ rowsA f k e b m rs ys ys') H bd) (hx : evL N l x = .ms b 0 1 m m) (hy : evL N l y = .v (.int .i64 z)) (hk : elemSize P t = some 1) (hu : idx ys z = some u)
    (h : runQ P N lim g0 ops K (i + 1) r (Fr.of ((d, .ptr b (0 + z.toNat * 1)) :: l)) H g) : runQ P N lim g0 ops K i (⟨some d, .indexAddr t x y, ty, pos, after, none⟩ :: r) (Fr.of l) H g := by
  have hz := idx_lt hu
  have hlt := idx_ltn hu
  rw [hS.ra.2.2.1] at hlt
  refine run_val (wr := none) hd rfl (by cases lim <;> rfl) ?_ h
  simp only [evalF, hx, hy, natOf, if_pos hz.1, Option.bind_some]
  rw [if_pos ⟨hk, hlt⟩]
theorem o_loadR {t : TypeId} {x : Operand} {z : Int} {u : List α} (hS : St O H0 (Lp ++ rowsL f k e b m rs ys) H bd) (hd : d < N) (hx : evL N l x = .ptr b (0 + z.toNat * 1)) (hu : idx ys z = some u) (ho : Ok lim ops i b) (ha : aggSize P t = none) (hs : scalar P t = true)
    (h : runQ P N lim g0 ops K (i + 1) r (Fr.of ((d, .sl (.id (rs.getD z.toNat 0)) k (u.map f)) :: l)) H g) : runQ P N lim g0 ops K i (⟨some d, .load t x, ty, pos, after, none⟩ :: r) (Fr.of l) H g := by
  have hr := hS.rl
  rw [rowsL_eq hr] at hS
  have hu' : ys[z.toNat]? = some u := by
    unfold idx at hu
    rwa [if_pos (idx_lt hu).1] at hu
  refine o_load Lp.length hS hd hx mid_get ho (part_one ha hs ?_) h
  rw [Nat.zero_add, Nat.mul_one]
  exact cellsC_get hr.1 hu'
theorem o_litR {t : TypeId} {x : Operand} {τ : Nat} {u : List α} {e' : TypeId} (hS : St O H0 ((τ, .row e u.length) :: Lp) H bd) (hd : d < N) (hx : evL N l x = .sl (.id τ) k (u.map f)) (hk : elemSize P t = some 1) (he : slElem P t = some e') (hf : elemFits P t = true) (hb : bd ≤ g0 + i)
    (h : ∀ H', St O H0 (Lp ++ rowsL f k e (g0 + i) 1 [τ] [u]) H' (g0 + i + 1) → runQ P N none g0 ops K (i + 1) r (Fr.of ((d, .ms (g0 + i) 0 1 1 1) :: l)) H' g) :
    runQ P N none g0 ops K i (⟨some d, .buildSlice t 1 #[(0, x)], ty, pos, after, none⟩ :: r) (Fr.of l) H g := by
  refine o_litM (es := [[.sl (.id τ) k (u.map f)]]) hS hd hk he ?_ hf rfl (by decide) hb fun H' hS' => h H' ?_
  · simp only [List.map_cons, List.map_nil]
    rw [hx]
    rfl
  · rw [show rowsL f k e (g0 + i) 1 [τ] [u] = (g0 + i, .cells (cellsC f k [τ] [u])) :: rowsC e [τ] [u] from rowsL_eq ⟨rfl, rfl, by decide⟩]
    exact hS'.perm (List.perm_append_comm (l₁ := Lp) (l₂ := [(g0 + i, .cells [.sl (.id τ) k (u.map f)]), (τ, .row e u.length)]))
theorem o_appendR {t : TypeId} {x y : Operand} {tg : Tag} {z : Int} {u w u' : List α} (hS : St O H0 (Lp ++ rowsL f k e b m rs ys) H bd) (hd : d < N) (hx : evL N l x = .sl (.id (rs.getD z.toNat 0)) k (u.map f)) (hy : evL N l y = .sl tg k (w.map f)) (hu : idx ys z = some u)
    (ho : Ok lim ops i (rs.getD z.toNat 0)) (hk : elemSize P t = some k) (he : slElem P t = some e) (hf : elemFits P t = true) (hz : app u w = some u')
    (h : ∀ H', St O H0 (Lp ++ rowsA f k e b m rs ys (ys.set z.toNat u')) H' bd → runQ P N lim g0 ops K (i + 1) r (Fr.of ((d, .sl (.id (rs.getD z.toNat 0)) k (u'.map f)) :: l)) H' g) :
    runQ P N lim g0 ops K i (⟨some d, .call { callee := .builtin .append, args := #[x, y], argTypes := #[t, t] }, ty, pos, after, none⟩ :: r) (Fr.of l) H g := by
  have hr := hS.rl
  rw [rowsL_eq hr] at hS
  have hu' : ys[z.toNat]? = some u := by
    unfold idx at hu
    rwa [if_pos (idx_lt hu).1] at hu
  have hlt := (List.getElem?_eq_some_iff.1 hu').1
  have e1 : Lp ++ (b, .cells (cellsC f k rs ys)) :: rowsC e rs ys = (Lp ++ [(b, .cells (cellsC f k rs ys))]) ++ rowsC e rs ys := by simp
  have e2 : Lp.length + 1 = (Lp ++ [(b, Blk.cells (cellsC f k rs ys))]).length := by simp
  refine o_append (Lp.length + 1 + z.toNat) hS hd hx hy (m := u.length) ?_ rfl ho hk he hf hz (L' := Lp ++ (b, .cells (cellsC f k rs ys)) :: rowsC e rs (ys.set z.toNat u')) ?_ fun H' hS' => h H' ?_
  · rw [e1, e2, List.getElem?_append_right (by omega), Nat.add_sub_cancel_left]
    exact rowsC_get hr.1 hu'
  · rw [e1, e2, putAt_right, rowsC_set hr.1 hlt]
    simp
  · rw [rowsA_eq ⟨hr.1, by simp, hr.2⟩]
    exact hS'
theorem o_storeR {t : TypeId} {x y : Operand} {z : Int} {u u' : List α} (hS : St O H0 (Lp ++ rowsA f k e b m rs ys (ys.set z.toNat u')) H bd) (hx : evL N l x = .ptr b (0 + z.toNat * 1)) (hu : idx ys z = some u) (ho : Ok lim ops i b) (hy : evL N l y = .sl (.id (rs.getD z.toNat 0)) k (u'.map f)) (hv : varSize P t = some 1)
    (h : ∀ H', St O H0 (Lp ++ rowsL f k e b m rs (ys.set z.toNat u')) H' bd → runQ P N lim g0 ops K (i + 1) r (Fr.of l) H' g) : runQ P N lim g0 ops K i (⟨none, .store t x y, ty, pos, after, none⟩ :: r) (Fr.of l) H g := by
  have hr := hS.ra
  rw [rowsA_eq hr] at hS
  have hlt := idx_ltn hu
  have hl := cellsC_len (f := f) (k := k) hr.1
  refine o_store (v := .sl (.id (rs.getD z.toNat 0)) k (u'.map f)) (ns := [.sl (.id (rs.getD z.toNat 0)) k (u'.map f)]) (L' := Lp ++ (b, .cells (cellsC f k rs (ys.set z.toNat u'))) :: rowsC e rs (ys.set z.toNat u')) Lp.length hS hx mid_get ho hy rfl hv (by rw [hl]; simp; omega) ?_ fun H' hS' => h H' ?_
  · rw [Nat.zero_add, Nat.mul_one, splice_set (by rw [hl]; exact hlt), cellsC_set hr.1 hlt]
    have := putAt_right (A := Lp) (B := (b, .cells (cellsC f k rs ys)) :: rowsC e rs (ys.set z.toNat u')) (n := 0) (x := .cells (cellsC f k rs (ys.set z.toNat u')))
    rw [Nat.add_zero] at this
    rw [this]
    rfl
  · rw [rowsL_eq ⟨by rw [List.length_set]; exact hr.1, by rw [List.length_set]; exact hr.2.2.1, hr.2.2.2⟩]
    exact hS'
theorem o_growR {t : TypeId} {x y : Operand} {tg : Tag} (hS : St O H0 (Lp ++ rowsL f k e b m rs ys) H bd) (hd : d < N) (hx : evL N l x = .ms b 0 1 m m) (hy : evL N l y = .sl tg 1 [[.sl .nil 0 []]]) (hk : elemSize P t = some 1) (hf : elemFits P t = true) (hz : app ys [[]] = some ys') (hb : bd ≤ g0 + i)
    (h : ∀ H', St O H0 (Lp ++ rowsP f k e (g0 + i) ys'.length rs ys') H' (g0 + i + 1) → runQ P N none g0 ops K (i + 1) r (Fr.of ((d, .ms (g0 + i) 0 1 ys'.length ys'.length) :: l)) H' g) :
    runQ P N none g0 ops K i (⟨some d, .call { callee := .builtin .append, args := #[x, y], argTypes := #[t, t] }, ty, pos, after, none⟩ :: r) (Fr.of l) H g := by
  have hr := hS.rl
  rw [rowsL_eq hr] at hS
  unfold app at hz
  split at hz
  case isFalse => cases hz
  rename_i hlen
  injection hz with hz
  subst hz
  have hpos := hr.2.2
  have hm := hr.2.1
  refine o_appendN (hS.perm (L' := (b, .cells (cellsC f k rs ys)) :: (Lp ++ rowsC e rs ys)) (List.perm_middle.symm)) hd hx (by rw [cellsC_len hr.1, Nat.mul_one, hm]) (q := 1) (ds := [.sl .nil 0 []]) (by rw [hy]; simp [srcA]) hk hf hpos (by omega) (by rw [← hm]; simpa using hlen) hb fun H' hS' => ?_
  have h2 := h H' ?_
  · rw [show (ys ++ [([] : List α)]).length = m + 1 by simp [hm]] at h2
    exact h2
  · have e1 : rowsP f k e (g0 + i) (ys ++ [([] : List α)]).length rs (ys ++ [[]]) = (g0 + i, .cells (cellsC f k rs ys ++ [.sl .nil 0 []])) :: rowsC e rs ys := by
      unfold rowsP
      rw [if_neg (by simp; omega), if_pos ⟨by simp; omega, rfl, by simp⟩]
      unfold cellsC rowsC
      rw [zip_trunc _ hr.1, zip_trunc _ hr.1]
    rw [e1]
    exact hS'.perm List.perm_middle
end
section
variable {P : Program} {N : Nat} {Q : Exit → Fr → Heap → Nat → Prop} {l : List (Nat × AV)} {H : Heap} {g : Nat} {cd : Code} {O : Nat → Prop} {H0 : Heap} {Lp : BL} {b bd k m : Nat} {e : TypeId} {α : Type} {f : α → List AV} {rs : List Nat} {ys : List (List α)}
theorem w_ownR (hS : St O H0 (Lp ++ rowsP f k e b m rs ys) H bd) (hb : bd ≤ g) (hk : 0 < k)
    (h : ∀ rs' H', St O H0 (Lp ++ rowsL f k e b m rs' ys) H' (g + 1) → Exit.thenA (fun fr' H' g' => ∃ fr0 H0 g0, Down fr' H' g' fr0 H0 g0 ∧ wpA P N cd Q fr0 H0 g0) Q .normal (Fr.of l) H' (g + 1)) :
    Exit.thenA (fun fr' H' g' => ∃ fr0 H0 g0, Down fr' H' g' fr0 H0 g0 ∧ wpA P N cd Q fr0 H0 g0) Q .normal (Fr.of l) H g := by
  unfold rowsP at hS
  split at hS
  · obtain ⟨fr0, H1, g1, hd, hw⟩ := h rs H (hS.up (by omega))
    refine ⟨fr0, H1, g1, Down.trans (fun hf => ⟨fun j hj => hf j (by omega), fun G w hp => ⟨G, hp, .refl _ _ _, fun t x hv => hv⟩⟩) hd, hw⟩
  · split at hS
    case isFalse => exact (bad_nd hS).elim
    rename_i hq
    obtain ⟨zs, rfl⟩ : ∃ zs, ys = zs ++ [[]] := by
      obtain ⟨u, h2, h3⟩ := Option.map_eq_some_iff.1 hq.2.2
      obtain ⟨zs, h4⟩ := List.getLast?_eq_some_iff.1 h2
      exact ⟨zs, by rw [h4, List.isEmpty_iff.1 h3]⟩
    have hl : rs.length = zs.length := by have := hq.1; simp at this; omega
    have ec : cellsC f k rs (zs ++ [[]]) = cellsC f k rs zs := by unfold cellsC; rw [zip_trunc _ hl]
    have er : rowsC e rs (zs ++ [[]]) = rowsC e rs zs := by unfold rowsC; rw [zip_trunc _ hl]
    rw [ec, er] at hS
    have hcl := cellsC_len (f := f) (k := k) hl
    refine w_ownC (cs' := cellsC f k (rs ++ [g]) (zs ++ [[]])) (L' := Lp ++ (b, .cells (cellsC f k (rs ++ [g]) (zs ++ [[]]))) :: rowsC e rs zs) Lp.length zs.length k e hS hb hk mid_get ?_ ?_ ?_ fun H' hS' => h (rs ++ [g]) H' ?_
    · rw [List.getElem?_append_right (by omega), hcl]
      simp
    · rw [List.set_append_right _ _ (by omega), hcl, Nat.sub_self]
      unfold cellsC
      rw [List.zipWith_append hl]
      rfl
    · have := putAt_right (A := Lp) (B := (b, .cells (cellsC f k rs zs ++ [.sl .nil 0 []])) :: rowsC e rs zs) (n := 0) (x := .cells (cellsC f k (rs ++ [g]) (zs ++ [[]])))
      rw [Nat.add_zero] at this
      rw [this]
      rfl
    · rw [rowsL_eq ⟨by simp [hl], hq.2.1, by have := hq.2.1; simp at this; omega⟩]
      have e3 : rowsC e (rs ++ [g]) (zs ++ [[]]) = rowsC e rs zs ++ [(g, .row e 0)] := by
        unfold rowsC
        rw [List.zipWith_append hl]
        rfl
      rw [e3]
      refine hS'.perm ?_
      have : (Lp ++ (b, Blk.cells (cellsC f k (rs ++ [g]) (zs ++ [[]]))) :: (rowsC e rs zs ++ [(g, .row e 0)])) = (Lp ++ (b, Blk.cells (cellsC f k (rs ++ [g]) (zs ++ [[]]))) :: rowsC e rs zs) ++ [(g, .row e 0)] := by simp
      rw [this]
      exact List.perm_append_singleton _ _
end
end Go.AM
