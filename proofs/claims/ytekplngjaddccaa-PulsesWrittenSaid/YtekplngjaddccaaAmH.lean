/-
  The abstract machine: every operation.
  Conditions: none; it speaks of any program.
-/
import Derived.Test.YtekplngjaddccaaAmG
set_option linter.all false
namespace Go.AM
open Go Go.RowKit

section
variable {P : Program} {G : Gh} {H : Heap} {w : World}

theorem VRs.mk {ρ : Operand → AV} {cρ : Operand → Value} (hρ : ∀ x, VR G H w (ρ x) (cρ x)) (xs : Array Operand) : VRs G H w (xs.toList.map ρ) (xs.map cρ) := by
  refine ⟨by simp, fun i c x hc hx => ?_⟩
  rw [List.getElem?_map] at hc
  rw [Array.getElem?_map] at hx
  cases hi : xs[i]? with
  | none => simp [hi] at hx
  | some y =>
    rw [Array.getElem?_toList, hi] at hc
    rw [hi] at hx
    simp only [Option.map_some] at hc hx
    injection hc with hc
    injection hx with hx
    subst hc hx
    exact hρ y

theorem parts_rel {ρ : Operand → AV} {cρ : Operand → Value} (hρ : ∀ x, VR G H w (ρ x) (cρ x)) (ps : Array (Nat × Operand)) :
    (ps.toList.map fun q => (q.1, ρ q.2)).length = (ps.map fun (i, x) => (i, cρ x)).toList.length ∧
    ∀ (i : Nat) (q : Nat × AV) (cq : Nat × Value), (ps.toList.map fun q => (q.1, ρ q.2))[i]? = some q → (ps.map fun (i, x) => (i, cρ x)).toList[i]? = some cq → q.1 = cq.1 ∧ VR G H w q.2 cq.2 := by
  refine ⟨by simp, fun i q cq hq hc => ?_⟩
  rw [List.getElem?_map] at hq
  rw [Array.getElem?_toList, Array.getElem?_map] at hc
  cases hi : ps[i]? with
  | none => simp [hi] at hc
  | some y =>
    rw [Array.getElem?_toList, hi] at hq
    rw [hi] at hc
    simp only [Option.map_some] at hq hc
    injection hq with hq
    injection hc with hc
    subst hq hc
    exact ⟨rfl, hρ y.2⟩

theorem optVR {ρ : Operand → AV} {cρ : Operand → Value} (hρ : ∀ x, VR G H w (ρ x) (cρ x)) (o : Option Operand) :
    OptVR G H w (o.map ρ) (o.map cρ) := by
  cases o with
  | none => trivial
  | some x => exact hρ x

theorem evalF_sound {o : Oper} {new : Nat} {r : AV} {wr : Option (Nat × Blk)} {ρ : Operand → AV} {cρ : Operand → Value} (hp : Hp G H w) (hn : H new = none) (hρ : ∀ x, VR G H w (ρ x) (cρ x))
    (h : evalF P new o.op ρ H = some (r, wr)) : OpRes P G H w o cρ r wr := by
  obtain ⟨dst, op, ty, pos, after, guard⟩ := o
  cases op <;> simp only [evalF] at h <;> try (cases h; done)
  case move x =>
    injection h with h; injection h with h1 h2; subst h1 h2
    exact .same hp (by simp [execOp]) (hρ x)
  case assign x =>
    injection h with h; injection h with h1 h2; subst h1 h2
    exact .same hp (by simp [execOp]) (hρ x)
  case pick c a b =>
    split at h
    · rename_i t hc
      injection h with h; injection h with h1 h2; subst h1 h2
      have := hρ c
      rw [hc] at this
      have hcv := v_inv this
      refine .same hp (v := if t then cρ a else cρ b) (by simp [execOp, hcv, asBool]) ?_
      cases t
      · exact hρ b
      · exact hρ a
    · cases h
  case alloc t =>
    obtain ⟨cs, hcs, h⟩ := Option.map_eq_some_iff.1 h
    injection h with h1 h2; subst h1 h2
    obtain ⟨z, hzr, hzs, hz1, hzv⟩ := run_zero hcs
    obtain ⟨q1, q2, q3⟩ := new_cells (ty := t) hp hn hzs hz1 (hzv G H w)
    refine ⟨_, _, _, .inl ?_, q1, q2, q3⟩
    simp only [execOp, Instr.alloc, Sem.run_bind, hzr, Result.andThen_ok, newVar, newRow, run_newObj, Sem.run_pure]
    rfl
  case box t x =>
    obtain ⟨cs, hcs, h⟩ := Option.map_eq_some_iff.1 h
    injection h with h1 h2; subst h1 h2
    obtain ⟨h1, h2, h3⟩ := cellsOf_vr (hρ x) hcs
    obtain ⟨q1, q2, q3⟩ := new_cells (ty := t) hp hn h1 h2 h3
    refine ⟨_, _, _, .inl ?_, q1, q2, q3⟩
    simp only [execOp, Instr.box, Sem.run_bind, newVar, newRow, run_newObj, Result.andThen_ok, Sem.run_pure]
    rfl
  case build t ps =>
    obtain ⟨z, hz, h⟩ := Option.bind_eq_some_iff.1 h
    obtain ⟨pl, hpl, h⟩ := Option.bind_eq_some_iff.1 h
    obtain ⟨cs, hcs, h⟩ := Option.map_eq_some_iff.1 h
    injection h with h1 h2; subst h1 h2
    obtain ⟨hl, hq⟩ := parts_rel hρ ps
    obtain ⟨v, hv, hr⟩ := run_buildA hz hpl hcs hl hq
    exact .same hp (by simp only [execOp, Sem.run_bind, hv, Result.andThen_ok, Sem.run_pure]) hr
  case buildSlice t n ps =>
    obtain ⟨k, hk, h⟩ := Option.bind_eq_some_iff.1 h
    obtain ⟨es, hes, h⟩ := Option.bind_eq_some_iff.1 h
    split at h
    · rename_i hc
      obtain ⟨e, he, h⟩ := Option.bind_eq_some_iff.1 h
      injection h with h; injection h with h1 h2; subst h1 h2
      obtain ⟨hl, hq⟩ := parts_rel hρ ps
      obtain ⟨v, w', G', hv, q1, q2, q3⟩ := run_buildSliceA hk he hes hc.1 hc.2.1 hc.2.2 hl hq hp hn
      exact ⟨v, w', G', .inl (by simp only [execOp, Sem.run_bind, hv, Result.andThen_ok, Sem.run_pure]), q1, q2, q3⟩
    · cases h
  case load t x =>
    have hx := hρ x
    split at h
    · rename_i i off hpx
      rw [hpx] at hx
      generalize hva : cρ x = vx at hx
      cases hx with
      | ptr _ _ cs0 hcs0 =>
        split at h
        · rename_i cs hcs
          obtain ⟨r', hr, h⟩ := Option.map_eq_some_iff.1 h
          injection h with h1 h2; subst h1 h2
          obtain ⟨v, hv, hvr⟩ := part_load (o := 0) hr (hp.range hcs)
          rw [Nat.zero_add] at hv
          refine .same hp (v := v) ?_ hvr
          simp only [execOp, Instr.loadAt, hva, Instr.sureAddr, Sem.run_bind, Sem.run_pure, Result.andThen_ok, hv]
        · cases h
    · rename_i cs hpx
      rw [hpx] at hx
      obtain ⟨b, o, hvx, hrange, _⟩ := ep_range hx
      obtain ⟨r', hr, h⟩ := Option.map_eq_some_iff.1 h
      injection h with h1 h2; subst h1 h2
      obtain ⟨v, hv, hvr⟩ := part_load (o := o) hr hrange
      rw [Nat.add_zero] at hv
      refine .same hp (v := v) ?_ hvr
      simp only [execOp, Instr.loadAt, hvx, Instr.sureAddr, Sem.run_bind, Sem.run_pure, Result.andThen_ok, hv]
    · cases h
  case store t a x =>
    have ha := hρ a
    split at h
    · rename_i i off hpa
      rw [hpa] at ha
      generalize hva : cρ a = va at ha
      cases ha with
      | ptr _ _ cs0 hcs0 =>
        split at h
        · rename_i cs hcs
          obtain ⟨ns, hns, h⟩ := Option.bind_eq_some_iff.1 h
          split at h
          · rename_i hc
            injection h with h; injection h with h1 h2; subst h1 h2
            obtain ⟨l1, l2, l3⟩ := cellsOf_vr (hρ x) hns
            obtain ⟨vs, ty, hg, hs, h1, hv⟩ := hp.cells i cs hcs
            have hst := run_storeCells_at P (G.φ i) off ty (cρ x).cells.toList 0 vs w hg (by simp; omega) (fun y hy => l2 y (by simpa using hy))
            simp only [Nat.add_zero] at hst
            have hcv : CellsVR G H w (splice cs off ns) (vs.toList.take off ++ (cρ x).cells.toList ++ vs.toList.drop (off + (cρ x).cells.toList.length)).toArray := by
              refine ⟨by rw [length_splice _ _ _ hc.2]; simp; omega, fun y hy => ?_, fun j c y hcj hy => ?_⟩
              · simp only [List.mem_toArray, List.mem_append] at hy
                rcases hy with (hy | hy) | hy
                · exact h1 y (by simpa using List.mem_of_mem_take hy)
                · exact l2 y (by simpa using hy)
                · exact h1 y (by simpa using List.mem_of_mem_drop hy)
              · rw [get_splice _ _ _ hc.2] at hcj
                have ht : (vs.toList.take off).length = off := by simp; omega
                rw [List.getElem?_toArray] at hy
                by_cases h1 : j < off
                · rw [if_neg (by omega)] at hcj
                  rw [List.append_assoc, List.getElem?_append_left (by omega), List.getElem?_take, if_pos h1] at hy
                  exact hv j c y hcj (by simpa using hy)
                · rw [List.append_assoc, List.getElem?_append_right (by omega), ht] at hy
                  by_cases h2 : j < off + ns.length
                  · rw [if_pos (by omega)] at hcj
                    rw [List.getElem?_append_left (by simp; omega)] at hy
                    exact l3 _ c y hcj (by simpa using hy)
                  · rw [if_neg (by omega)] at hcj
                    rw [List.getElem?_append_right (by simp; omega), List.getElem?_drop] at hy
                    refine hv j c y hcj ?_
                    rw [← hy]
                    simp only [Array.length_toList, Array.getElem?_toList, l1]
                    congr 1
                    omega
            obtain ⟨q1, q2⟩ := store_cells hp hcs hg hcv.1 hcv.2.1 hcv.2.2
            obtain ⟨it, hit, hsz⟩ := run_varSize hc.1
            refine ⟨undef, _, _, .inr ⟨?_, rfl⟩, q1, q2, .any _⟩
            have hne : ¬ ((cρ x).cells.size ≠ it.size) := by rw [l1, hsz]; simp
            simp only [execOp, Instr.storeAt, hva, Instr.sureAddr, storeVar, Sem.run_bind, Sem.run_pure, Result.andThen_ok, sizeOf, typeInfo, run_program, hit, if_neg hne, hst]
          · cases h
        · cases h
    · cases h
  case nilCheck x =>
    have hx := hρ x
    split at h
    · rename_i i off hpx
      injection h with h; injection h with h1 h2; subst h1 h2
      rw [hpx] at hx
      generalize hva : cρ x = vx at hx
      cases hx with
      | ptr _ _ cs hcs => exact .same hp (by simp [execOp, hva]) (.ptr i off cs hcs)
    · rename_i cs hpx
      injection h with h; injection h with h1 h2; subst h1 h2
      rw [hpx] at hx
      obtain ⟨b, o, hvx, _, _⟩ := ep_range hx
      exact .same hp (v := cρ x) (by simp [execOp, hvx]) hx
    · cases h
  case binOp op t x y t2 =>
    obtain ⟨r', hr, h⟩ := Option.map_eq_some_iff.1 h
    injection h with h1 h2; subst h1 h2
    obtain ⟨v, hv, hvr⟩ := run_binA x y hr (hρ x) (hρ y)
    exact .same hp (by simp only [execOp, Sem.run_bind] at hv ⊢; rw [hv]; rfl) hvr
  case unOp op t x =>
    have hx := hρ x
    split at h
    · rename_i b hpx
      injection h with h; injection h with h1 h2; subst h1 h2
      rw [hpx] at hx
      exact .same hp (by simp [execOp, v_inv hx, Op.unary]) (.v _)
    · rename_i k n hpx
      injection h with h; injection h with h1 h2; subst h1 h2
      rw [hpx] at hx
      exact .same hp (by simp [execOp, v_inv hx, Op.unary, Op.intArith]) (.v _)
    · cases h
  case convert s d x =>
    have hx := hρ x
    split at h
    · rename_i k0 n ks k hpx hks hkd
      injection h with h; injection h with h1 h2; subst h1 h2
      rw [hpx] at hx
      exact .same hp (by simp [execOp, v_inv hx, convert, run_underlying (run_intKind hks), run_underlying (run_intKind hkd), Conv.intToInt]) (.v _)
    · cases h
  case makeFunc fn first cap =>
    injection h with h; injection h with h1 h2; subst h1 h2
    obtain ⟨a1, a2⟩ := VRs.mk hρ first
    obtain ⟨b1, b2⟩ := VRs.mk hρ cap
    exact .same hp (by simp [execOp, Instr.makeFunc]) (.fn fn _ _ _ _ a1 b1 a2 b2)
  case fieldAddr s x f =>
    obtain ⟨k, hk, h⟩ := Option.bind_eq_some_iff.1 h
    have hx := hρ x
    split at h
    · rename_i i off hpx
      injection h with h; injection h with h1 h2; subst h1 h2
      rw [hpx] at hx
      generalize hva : cρ x = vx at hx
      cases hx with
      | ptr _ _ cs hcs => exact .same hp (by simp only [execOp, hva, Sem.run_bind, run_fieldAt hk, Result.andThen_ok, Sem.run_pure]) (.ptr i (off + k) cs hcs)
    · rename_i cs hpx
      injection h with h; injection h with h1 h2; subst h1 h2
      rw [hpx] at hx
      obtain ⟨b, o, hvx, hrange, hfr⟩ := ep_range hx
      refine .same hp (by simp only [execOp, hvx, Sem.run_bind, run_fieldAt hk, Result.andThen_ok, Sem.run_pure]) (range_ep (hrange.drop k) fun hne => ?_)
      have hcs : cs ≠ [] := fun e => by subst e; simp at hne
      have hlen : 0 < (cs.drop k).length := List.length_pos_iff.2 hne
      refine (hfr hcs).le ?_
      simp only [List.length_drop] at hlen ⊢
      omega
    · cases h
  case field s x f =>
    obtain ⟨q, hq, h⟩ := Option.bind_eq_some_iff.1 h
    have hx := hρ x
    split at h
    · rename_i cs hpx
      obtain ⟨r', hr, h⟩ := Option.map_eq_some_iff.1 h
      injection h with h1 h2; subst h1 h2
      rw [hpx] at hx
      generalize hva : cρ x = vx at hx
      cases hx with
      | agg _ vs hl h1 hv =>
        obtain ⟨v, hv', hvr⟩ := part_field hr (.agg cs vs hl h1 hv)
        unfold fieldType at hq
        split at hq
        · rename_i fs hfs
          obtain ⟨fd, hfd, hq⟩ := Option.map_eq_some_iff.1 hq
          subst hq
          exact .same hp (by simp only [execOp, hva, Instr.field, Sem.run_bind, run_underlying hfs, Result.andThen_ok, hfd, asAgg, Sem.run_pure, hv']) hvr
        · cases hq
    · cases h
  case indexAddr t x i =>
    obtain ⟨n, hn', h⟩ := Option.bind_eq_some_iff.1 h
    obtain ⟨ki, hki⟩ := natOf_vr hn' (hρ i)
    have hx := hρ x
    split at h
    · rename_i tg k es hpx
      split at h
      · rename_i hk
        obtain ⟨e, he, h⟩ := Option.map_eq_some_iff.1 h
        injection h with h1 h2; subst h1 h2
        rw [hpx] at hx
        obtain ⟨b, o, cap, hvx, hvr⟩ := sl_elem hx he
        obtain ⟨et, it, het, hit, hsz, _⟩ := run_elemSize hk
        have hlt : n < es.length := (List.getElem?_eq_some_iff.1 he).1
        refine .same hp ?_ hvr
        simp [execOp, hvx, hki, Instr.indexAt, asIntOf, run_underlying het, sizeOf, typeInfo, hit, hsz, Addr.add_mid]
        exact fun hge => absurd hge (by omega)
      · cases h
    · rename_i b off hpx
      obtain ⟨q, hq, h⟩ := Option.bind_eq_some_iff.1 h
      split at h
      · rename_i hlt
        injection h with h; injection h with h1 h2; subst h1 h2
        rw [hpx] at hx
        generalize hva : cρ x = vx at hx
        cases hx with
        | ptr _ _ cs hcs =>
          obtain ⟨et, it, het, hit, hsz⟩ := run_arrOf hq
          refine .same hp ?_ (.ptr b (off + n * q.2) cs hcs)
          simp [execOp, hva, hki, Instr.indexAt, Instr.sureAddr, asIntOf, run_underlying het, sizeOf, typeInfo, hit, hsz, Addr.add_mid]
          exact fun hge => absurd hge (by omega)
      · cases h
    · rename_i cs hpx
      obtain ⟨q, hq, h⟩ := Option.bind_eq_some_iff.1 h
      split at h
      · rename_i hlt
        injection h with h; injection h with h1 h2; subst h1 h2
        rw [hpx] at hx
        obtain ⟨b, o, hvx, hrange, hfr⟩ := ep_range hx
        obtain ⟨et, it, het, hit, hsz⟩ := run_arrOf hq
        refine .same hp (v := .pointer (some ⟨b, o + n * q.2, none⟩)) ?_ (range_ep (hrange.drop (n * q.2)) fun hne => ?_)
        · simp [execOp, hvx, hki, Instr.indexAt, Instr.sureAddr, asIntOf, run_underlying het, sizeOf, typeInfo, hit, hsz, Addr.add_mid]
          exact fun hge => absurd hge (by omega)
        · have hcs : cs ≠ [] := fun e => by subst e; simp at hne
          have hlen : 0 < (cs.drop (n * q.2)).length := List.length_pos_iff.2 hne
          refine (hfr hcs).le ?_
          simp only [List.length_drop] at hlen ⊢
          omega
      · cases h
    · cases h
  case index t x i =>
    obtain ⟨n, hn', h⟩ := Option.bind_eq_some_iff.1 h
    obtain ⟨ki, hki⟩ := natOf_vr hn' (hρ i)
    obtain ⟨q, hq, h⟩ := Option.bind_eq_some_iff.1 h
    have hx := hρ x
    split at h
    · rename_i cs hpx
      split at h
      · rename_i hlt
        obtain ⟨r', hr, h⟩ := Option.map_eq_some_iff.1 h
        injection h with h1 h2; subst h1 h2
        rw [hpx] at hx
        generalize hva : cρ x = vx at hx
        cases hx with
        | agg _ vs hl h1 hv =>
          obtain ⟨v, hv', hvr⟩ := part_field hr (.agg cs vs hl h1 hv)
          unfold arrIx at hq
          split at hq
          · rename_i m e hfs
            obtain ⟨sz, hsz, hq⟩ := Option.map_eq_some_iff.1 hq
            subst hq
            obtain ⟨it, hit, hits⟩ := run_varSize hsz
            refine .same hp ?_ hvr
            have hlt' : (n : Int) < (m : Int) := by simp at hlt; omega
            simp only [execOp, hva, hki, Instr.index, asIntOf, Sem.run_bind, Sem.run_pure, run_underlying hfs, Result.andThen_ok]
            rw [if_pos ⟨by omega, hlt'⟩]
            simp only [sizeOf, typeInfo, Sem.run_bind]
            simp [hit, hits, hv']
          · cases hq
      · cases h
    · cases h
  case extract x k =>
    have hx := hρ x
    split at h
    · rename_i vs hpx
      obtain ⟨r', hr, h⟩ := Option.map_eq_some_iff.1 h
      injection h with h1 h2; subst h1 h2
      rw [hpx] at hx
      generalize hva : cρ x = vx at hx
      cases hx with
      | tup _ us hl hv =>
        have hlt : k < us.size := by have := (List.getElem?_eq_some_iff.1 hr).1; omega
        have hu : us[k]? = some us[k] := Array.getElem?_eq_getElem hlt
        exact .same hp (by simp [execOp, hva, Instr.extract, hu]) (hv k r' _ hr hu)
    · cases h
  case slice t x lo hi mx =>
    obtain ⟨r', hr, h⟩ := Option.map_eq_some_iff.1 h
    injection h with h1 h2; subst h1 h2
    obtain ⟨v, hv, hvr⟩ := run_sliceA (P := P) hr (hρ x) (optVR hρ lo) (optVR hρ hi) (optVR hρ mx)
    exact .same hp (by simp only [execOp, Sem.run_bind, hv, Result.andThen_ok, Sem.run_pure]) hvr
  case call c =>
    obtain ⟨callee, args, argTypes⟩ := c
    cases callee with
    | value f => cases h
    | invoke r m => cases h
    | builtin b =>
      have hargs := VRs.mk hρ args
      cases b <;> simp only at h <;> try (cases h; done)
      case append =>
        split at h
        · rename_i s x t u hs hts
          split at h
          · rename_i htu
            subst htu
            rw [hs] at hargs
            obtain ⟨a, b, hab, ha, hb⟩ := list2 hargs
            have ht : argTypes = #[t, t] := by
              obtain ⟨l⟩ := argTypes
              simpa using hts
            obtain ⟨v, w', G', hv, q1, q2, q3⟩ := run_appendA (ty := ty) h hp hn ha hb
            refine ⟨v, w', G', .inl ?_, q1, q2, q3⟩
            simp only [execOp, resolve, Sem.run_bind, Sem.run_pure, Result.andThen_ok, invoke, builtin, hab, ht, hv]
          · cases h
        · cases h
      case len =>
        split at h
        · rename_i tg k es t hs hts
          split at h
          · rename_i hsl
            injection h with h; injection h with h1 h2; subst h1 h2
            rw [hs] at hargs
            obtain ⟨a, hab, ha⟩ := list1 hargs
            obtain ⟨e, he⟩ := run_isSlice hsl
            obtain ⟨ad, cap, xs, rfl, _⟩ := ha.row
            refine .same hp (v := .int .i64 es.length) ?_ (.v _)
            simp [execOp, resolve, invoke, builtin, hab, Builtin.len_, hts, run_underlying he, goInt]
          · cases h
        · cases h
      case min =>
        obtain ⟨r', hr, h⟩ := Option.map_eq_some_iff.1 h
        injection h with h1 h2; subst h1 h2
        obtain ⟨v, hv, hvr⟩ := run_minA (P := P) argTypes ty hr hargs
        refine .same hp (v := v) ?_ hvr
        simp only [execOp, resolve, Sem.run_bind, Sem.run_pure, Result.andThen_ok, invoke, builtin, hv]
      case max =>
        obtain ⟨r', hr, h⟩ := Option.map_eq_some_iff.1 h
        injection h with h1 h2; subst h1 h2
        obtain ⟨v, hv, hvr⟩ := run_maxA (P := P) argTypes ty hr hargs
        refine .same hp (v := v) ?_ hvr
        simp only [execOp, resolve, Sem.run_bind, Sem.run_pure, Result.andThen_ok, invoke, builtin, hv]
end
end Go.AM
