/- Each operation of the abstract machine, against the model's own: '==', places, pieces. -/
import Derived.Test.YtebccciodmlikaaEq
import Derived.Laws.Pointers
import Derived.Laws.Cover3
namespace PAbs
open Go Go.RowKit
set_option linter.unusedSimpArgs false
set_option linter.unusedVariables false

section steps
variable {P : Program} {o : Oper} {a : Act} {base fl : Nat} {ρ : List Reg} {H H' : AHeap} {w : World} {fr : AFrame} {v : AV}

theorem equalTo {op : BinOp} {neg : Bool} {t : TypeId} {x y : Value} {r : Bool} (hop : (op = .eql ∧ neg = false) ∨ (op = .neq ∧ neg = true)) (h : (Op.equal t x y).run P w = .ok r w)
    (hx : (∃ b, x = .bool b) ∨ (∃ p, x = .pointer p) ∨ (∃ p n c, x = .slice p n c) ∨ (∃ l, x = .agg l)) :
    (binOp op t x y).run P w = .ok (.bool (if neg then !r else r)) w := by
  rcases hop with ⟨rfl, rfl⟩ | ⟨rfl, rfl⟩ <;> rcases hx with ⟨b, rfl⟩ | ⟨p, rfl⟩ | ⟨p, n, c, rfl⟩ | ⟨l, rfl⟩ <;> cases y <;> simp [binOp, h]

theorem st_eqGen (hH : HR base ρ H w) {op : BinOp} {neg : Bool} {t u : TypeId} {x z : Operand} {r : Bool} (ho : o.op = .binOp op t x z u) (hop : (op = .eql ∧ neg = false) ∨ (op = .neq ∧ neg = true))
    (hg : (eqGuard op t x z (a.eval x) (a.eval z)).run P w = .ok () w) (h : (Op.equal t (a.eval x) (a.eval z)).run P w = .ok r w)
    (hx : (∃ b, a.eval x = .bool b) ∨ (∃ p, a.eval x = .pointer p) ∨ (∃ p n c, a.eval x = .slice p n c) ∨ (∃ l, a.eval x = .agg l)) :
    Stepped P o a base ρ w (.c (.bool (if neg then !r else r))) H := by
  refine Stepped.pure hH (u := .bool (if neg then !r else r)) ?_ rfl
  simp only [execOp, ho, Sem.run_bind, hg, Result.andThen_ok, equalTo hop h hx]
  rfl

theorem st_eqBool (hH : HR base ρ H w) (hF : FR ρ fr a.tmps) {op : BinOp} {neg : Bool} {t u : TypeId} {x z : Operand} {y q : AOpd} (ho : o.op = .binOp op t x z u) (hx : absOpd x = some y) (hz : absOpd z = some q)
    (hop : (op = .eql ∧ neg = false) ∨ (op = .neq ∧ neg = true)) (hu : P.underlying t = some .bool)
    (h : stepA fl H (·.ev fr) (.eq neg .bool y q) = some (v, H')) : Stepped P o a base ρ w v H' := by
  have hvx := absOpd_VR hF hx
  have hvz := absOpd_VR hF hz
  simp only [stepA] at h
  cases he : eqA H .bool (y.ev fr) (q.ev fr) with
  | none => rw [he] at h; cases h
  | some r =>
    rw [he] at h
    simp only [Option.map_some, Option.some.injEq, Prod.mk.injEq] at h
    obtain ⟨rfl, rfl⟩ := h
    unfold eqA at he
    split at he <;> try (rename_i h1 _ _; cases h1; done)
    all_goals try (cases he; done)
    rename_i b b' _ e1 e2
    rw [e1] at hvx; rw [e2] at hvz
    have hvx : a.eval x = .bool b := hvx
    have hvz : a.eval z = .bool b' := hvz
    simp at he; subst he
    refine st_eqGen hH ho hop ?_ ?_ (.inl ⟨_, hvx⟩)
    · rw [hvx]; exact eqGuard_plain (.inr (.inr (.inl ⟨_, rfl⟩))) w
    · rw [hvx, hvz]; exact run_equal_bool w t b b' hu

theorem live_ptr (hH : HR base ρ H w) {b off : Nat} {cs : List Cell} {x : Value} (hc : hcells H b = some cs) (hv : CR ρ (.ptr b off) x) : ∃ ad, x = .pointer (some ad) := by
  obtain ⟨g, f, c, _, hu, _⟩ := hH.at_ptr hc hv
  exact ⟨_, hu⟩

theorem run_equalIn_nil_pointer (d : Nat) (t e : TypeId) (p : Option Addr) (h : P.underlying t = some (.pointer e)) : (Op.equalIn (d + 1) t (.pointer none) (.pointer p)).run P w = .ok p.isNone w := by
  simp [Op.equalIn, run_underlying h]
theorem run_equal_nil_pointer (t e : TypeId) (p : Option Addr) (h : P.underlying t = some (.pointer e)) : (Op.equal t (.pointer none) (.pointer p)).run P w = .ok p.isNone w :=
  run_equalIn_nil_pointer 9999 t e p h
theorem run_equal_pointer_nil' (t e : TypeId) (p : Option Addr) (h : P.underlying t = some (.pointer e)) : (Op.equal t (.pointer p) (.pointer none)).run P w = .ok p.isNone w :=
  run_equal_pointer_nil w t p (by simp [Program.pointee, h])

theorem st_eqPtr (hH : HR base ρ H w) (hF : FR ρ fr a.tmps) {op : BinOp} {neg : Bool} {t u e : TypeId} {x z : Operand} {y q : AOpd} (ho : o.op = .binOp op t x z u) (hx : absOpd x = some y) (hz : absOpd z = some q)
    (hop : (op = .eql ∧ neg = false) ∨ (op = .neq ∧ neg = true)) (hu : P.underlying t = some (.pointer e))
    (h : stepA fl H (·.ev fr) (.eq neg .ptr y q) = some (v, H')) : Stepped P o a base ρ w v H' := by
  have hvx := absOpd_VR hF hx
  have hvz := absOpd_VR hF hz
  simp only [stepA] at h
  cases he : eqA H .ptr (y.ev fr) (q.ev fr) with
  | none => rw [he] at h; cases h
  | some r =>
    rw [he] at h
    simp only [Option.map_some, Option.some.injEq, Prod.mk.injEq] at h
    obtain ⟨rfl, rfl⟩ := h
    have fin : ∀ p p' : Option Addr, a.eval x = .pointer p → a.eval z = .pointer p' → (Op.equal t (.pointer p) (.pointer p')).run P w = .ok r w → Stepped P o a base ρ w (.c (.bool (if neg then !r else r))) H := fun p p' h1 h2 h3 =>
      st_eqGen hH ho hop (by rw [h1]; exact eqGuard_plain (.inr (.inr (.inr (.inl ⟨_, rfl⟩)))) w) (by rw [h1, h2]; exact h3) (.inr (.inl ⟨_, h1⟩))
    unfold eqA at he
    split at he <;> try (rename_i h1 _ _; cases h1; done)
    all_goals try (cases he; done)
    · rename_i _ e1 e2
      rw [e1] at hvx; rw [e2] at hvz
      simp at he; subst he
      exact fin none none hvx hvz (run_equal_nil_pointer t e none hu)
    · rename_i b off _ e1 e2
      rw [e1] at hvx; rw [e2] at hvz
      cases hc : hcells H b with
      | none => rw [hc] at he; cases he
      | some cs =>
        rw [hc] at he; simp at he; subst he
        obtain ⟨ad, hu'⟩ := live_ptr hH hc hvx
        exact fin (some ad) none hu' hvz (run_equal_pointer_nil' t e _ hu)
    · rename_i b off _ e1 e2
      rw [e1] at hvx; rw [e2] at hvz
      cases hc : hcells H b with
      | none => rw [hc] at he; cases he
      | some cs =>
        rw [hc] at he; simp at he; subst he
        obtain ⟨ad, hu'⟩ := live_ptr hH hc hvz
        exact fin none (some ad) hvx hu' (run_equal_nil_pointer t e _ hu)

theorem st_eqSlice (hH : HR base ρ H w) (hF : FR ρ fr a.tmps) {op : BinOp} {neg : Bool} {t u e : TypeId} {x z : Operand} {y q : AOpd} (ho : o.op = .binOp op t x z u) (hx : absOpd x = some y) (hz : absOpd z = some q)
    (hop : (op = .eql ∧ neg = false) ∨ (op = .neq ∧ neg = true)) (hu : P.underlying t = some (.slice e))
    (h : stepA fl H (·.ev fr) (.eq neg .slice y q) = some (v, H')) : Stepped P o a base ρ w v H' := by
  have hvx := absOpd_VR hF hx
  have hvz := absOpd_VR hF hz
  simp only [stepA] at h
  cases he : eqA H .slice (y.ev fr) (q.ev fr) with
  | none => rw [he] at h; cases h
  | some r =>
    rw [he] at h
    simp only [Option.map_some, Option.some.injEq, Prod.mk.injEq] at h
    obtain ⟨rfl, rfl⟩ := h
    have fin : ∀ p n c, a.eval x = .slice p n c → a.eval z = .slice none 0 0 → p.isNone = r → Stepped P o a base ρ w (.c (.bool (if neg then !r else r))) H := fun p n c h1 h2 h3 =>
      st_eqGen hH ho hop (by rw [h1]; exact eqGuard_plain (.inr (.inr (.inr (.inr ⟨_, _, _, rfl⟩)))) w) (by rw [h1, h2, run_equal_slice_nil w t e p n c hu, h3]) (.inr (.inr (.inl ⟨_, _, _, h1⟩)))
    unfold eqA at he
    split at he <;> try (rename_i h1 _ _; cases h1; done)
    all_goals try (cases he; done)
    · rename_i _ e1 e2
      rw [e1] at hvx; rw [e2] at hvz
      simp at he; subst he
      exact fin _ _ _ hvx hvz rfl
    · rename_i b off n sz _ e1 e2
      rw [e1] at hvx; rw [e2] at hvz
      split at he
      · cases he
      · rename_i hn
        cases hc : hcells H b with
        | none => rw [hc] at he; cases he
        | some cs =>
          rw [hc] at he; simp at he; subst he
          rcases hH.at_slc hc hvx with ⟨g, f, c, k, _, hu', _⟩ | ⟨h0, _⟩
          · exact fin _ _ _ hu' hvz rfl
          · exact absurd h0 hn

theorem st_eqAgg (hH : HR base ρ H w) (hF : FR ρ fr a.tmps) {op : BinOp} {neg : Bool} {t u : TypeId} {x z : Operand} {y q : AOpd} {sh : List CK} (ho : o.op = .binOp op t x z u) (hx : absOpd x = some y) (hz : absOpd z = some q)
    (hop : (op = .eql ∧ neg = false) ∨ (op = .neq ∧ neg = true)) (hsh : shapeT P 20 t = some sh) (hag : aggT P t = some true) (hgt : P.eqGuardType P.depth t = false)
    (h : stepA fl H (·.ev fr) (.eq neg (.agg sh) y q) = some (v, H')) : Stepped P o a base ρ w v H' := by
  have hvx := absOpd_VR hF hx
  have hvz := absOpd_VR hF hz
  simp only [stepA] at h
  cases he : eqA H (.agg sh) (y.ev fr) (q.ev fr) with
  | none => rw [he] at h; cases h
  | some r =>
    rw [he] at h
    simp only [Option.map_some, Option.some.injEq, Prod.mk.injEq] at h
    obtain ⟨rfl, rfl⟩ := h
    unfold eqA at he
    split at he <;> try (rename_i h1 _ _; cases h1; done)
    all_goals try (cases he; done)
    rename_i sh' cs ds heq e1 e2
    injection heq with heq
    subst heq
    rw [e1] at hvx; rw [e2] at hvz
    obtain ⟨l, hl, hL⟩ := hvx
    obtain ⟨m, hm, hM⟩ := hvz
    split at he
    · rename_i hfit
      simp at he; subst he
      have hq := equalIn_shape (P := P) (ρ := ρ) 9980 20 t sh hsh w cs ds (.agg l.toArray) (.agg m.toArray) hfit.1 hfit.2 (.inl ⟨hag, l, rfl, hL⟩) (.inl ⟨hag, m, rfl, hM⟩)
      refine st_eqGen hH ho hop ?_ ?_ (.inr (.inr (.inr ⟨_, hl⟩)))
      · rw [hl, hm]; exact run_eqGuard_agg w op t x z _ _ hgt
      · rw [hl, hm]; exact hq
    · cases he

theorem st_arrPtr (hH : HR base ρ H w) (hF : FR ρ fr a.tmps) {t e : TypeId} {n : Nat} {x : Operand} {y : AOpd} (ho : o.op = .sliceToArrayPointer t x) (hx : absOpd x = some y) (hu : P.underlying t = some (.array n e))
    (h : stepA fl H (·.ev fr) (.arrPtr n y) = some (v, H')) : Stepped P o a base ρ w v H' := by
  have hvx := absOpd_VR hF hx
  simp only [stepA] at h
  split at h
  · rename_i b off m sz e1
    rw [e1] at hvx
    split at h
    · rename_i hm
      cases hc : hcells H b with
      | none => rw [hc] at h; cases h
      | some cs =>
        rw [hc] at h; simp at h
        obtain ⟨rfl, rfl⟩ := h
        rcases hH.at_slc hc hvx with ⟨g, f, c, k, hr, hu', _⟩ | ⟨h0, _⟩
        · refine Stepped.pure hH (u := .pointer (some ⟨g, f + off, none⟩)) ?_ (by simp [VR, CR, hr])
          have : ¬ m < n := by omega
          simp [execOp, ho, Instr.arrayAt, run_underlying hu, hu', this]
        · omega
    · cases h
  · cases h

theorem wrap_in {n : Int} (h0 : 0 ≤ n) (h1 : n ≤ 9223372036854775807) : IntKind.i64.wrap n = n := by rw [IntKind.wrap_i64]; omega

theorem st_makeSlice (hH : HR base ρ H w) (hF : FR ρ fr a.tmps) {t e : TypeId} {x z : Operand} {y q : AOpd} {zc : List Cell} {bytes : Nat} (ho : o.op = .makeSlice t x z) (hx : absOpd x = some y) (hz : absOpd z = some q)
    (hu : P.underlying t = some (.slice e)) (hzero : zeroE P e = some zc) (hb : bytesT P e = some bytes)
    (h : stepA fl H (·.ev fr) (.makeSlice zc bytes y q) = some (v, H')) : Stepped P o a base ρ w v H' := by
  have hvx := absOpd_VR hF hx
  have hvz := absOpd_VR hF hz
  simp only [stepA] at h
  split at h
  · rename_i l c e1 e2
    rw [e1] at hvx; rw [e2] at hvz
    have hvx : a.eval x = .int .i64 l := hvx
    have hvz : a.eval z = .int .i64 c := hvz
    split at h
    · rename_i hc
      obtain ⟨h0, hlc, hbc⟩ := hc
      simp at h
      obtain ⟨rfl, rfl⟩ := h
      obtain ⟨hzero, hz0⟩ := zeroE_zeroA hzero
      obtain ⟨i, zv, hi, hzv, hzl, hL⟩ := zeroA_info hzero
      obtain ⟨i', hi', hbi, hb0⟩ := bytesT_info hb
      rw [hi] at hi'
      injection hi' with hi'
      subst hi'
      have hc63 : c ≤ 9223372036854775807 := by
        have : c * 1 ≤ c * (bytes : Int) := Int.mul_le_mul_of_nonneg_left (by omega) (by omega)
        omega
      have hmk := run_make (P := P) w t e i zv hu hi hzv .i64 .i64 l c h0 hlc (by rw [hbi]; rw [Int.mul_comm]; omega) hc63
      have hfr := flat_rel (hL ρ) hz0 c.toNat (c.toNat * i.size) (by rw [hzl])
      have hlen : zv.cells.size = zc.length := by have := (hL ρ).1; simpa using this.symm
      have hmc : madeCells zv.cells (c.toNat * i.size) = (Array.range (c.toNat * i.size)).map (zv.cells[· % zv.cells.size]!) := rfl
      have htake : (List.replicate l.toNat zc).flatten = ((List.replicate c.toNat zc).flatten).take (l.toNat * zc.length) := by
        have hsplit : List.replicate c.toNat zc = List.replicate l.toNat zc ++ List.replicate (c.toNat - l.toNat) zc := by
          rw [List.replicate_append_replicate]; congr 1; omega
        rw [hsplit, List.flatten_append, List.take_left' (flat_length zc _)]
      have hlt : l.toNat * zc.length ≤ c.toNat * zc.length := Nat.mul_le_mul_right _ (by omega)
      refine Stepped.new hH (.inl rfl) (cs := (List.replicate l.toNat zc).flatten) (l := (madeCells zv.cells (c.toNat * i.size)).toList) (ty := e) (c := c.toNat * zc.length) ?_ ?_ ?_ (u := .slice (some ⟨w.heap.size, 0, none⟩) l.toNat c.toNat) ?_
        (slc_new ρ H hH.len _ _ _ _ _ (by omega) (Nat.le_refl _))
      · rw [htake, List.length_take, flat_length, Nat.min_eq_left hlt]
        exact (hmc ▸ hfr).take _
      · rw [hmc]; simp [hzl]
      · rw [flat_length]; exact hlt
      · simp only [execOp, ho, hvx, hvz, Sem.run_bind, hmk, Result.andThen_ok]
        simp
    · cases h
  · cases h

theorem bound_run {x : Value} {k : IntKind} {i : Int} {y : Nat} {code : BoundsCode} (hx : x = .int k i) (h0 : 0 ≤ i) (h1 : i ≤ y) : (Instr.sliceBound x y code).run P w = .ok i.toNat w := by
  subst hx
  simp [Instr.sliceBound, asIntOf, h0, h1]

theorem bounds_run {isSlice : Bool} {len cap h l : Nat} {lo hi : Option AOpd} {lo' hi' : Option Operand} (hF : FR ρ fr a.tmps) (hlo : absOptOpd lo' = some lo) (hhi : absOptOpd hi' = some hi)
    (h1 : hiA (hi.map (·.ev fr)) len = some h) (h2 : loA (lo.map (·.ev fr)) = some l) (hle : l ≤ h) (hcap : len ≤ cap) :
    (Instr.sliceBounds isSlice len cap (lo'.map a.eval) (hi'.map a.eval) none).run P w = .ok (l, h, cap) w ∧ h ≤ len := by
  have hhigh : h ≤ len ∧ ((∃ k i, hi'.map a.eval = some (.int k i) ∧ 0 ≤ i ∧ i ≤ len ∧ i.toNat = h) ∨ (hi'.map a.eval = none ∧ h = len)) := by
    cases hi' with
    | none => simp [absOptOpd] at hhi; subst hhi; simp [hiA] at h1; subst h1; exact ⟨Nat.le_refl _, .inr ⟨rfl, rfl⟩⟩
    | some x =>
      simp only [absOptOpd] at hhi
      cases hx : absOpd x with
      | none => rw [hx] at hhi; cases hhi
      | some y =>
        rw [hx] at hhi; simp at hhi; subst hhi
        have hv := absOpd_VR hF hx
        simp only [Option.map_some, hiA] at h1
        cases hy : y.ev fr with
        | agg _ => rw [hy] at h1; cases h1
        | tup _ => rw [hy] at h1; cases h1
        | c q =>
          rw [hy] at h1 hv
          cases q <;> simp only at h1 <;> try (cases h1; done)
          rename_i k i
          split at h1
          · rename_i hc
            simp at h1; subst h1
            exact ⟨by omega, .inl ⟨k, i, congrArg some hv, hc.1, hc.2, rfl⟩⟩
          · cases h1
  have hlow : (∃ k i, lo'.map a.eval = some (.int k i) ∧ 0 ≤ i ∧ i.toNat = l) ∨ (lo'.map a.eval = none ∧ l = 0) := by
    cases lo' with
    | none => simp [absOptOpd] at hlo; subst hlo; simp [loA] at h2; exact .inr ⟨rfl, h2.symm⟩
    | some x =>
      simp only [absOptOpd] at hlo
      cases hx : absOpd x with
      | none => rw [hx] at hlo; cases hlo
      | some y =>
        rw [hx] at hlo; simp at hlo; subst hlo
        have hv := absOpd_VR hF hx
        simp only [Option.map_some, loA] at h2
        cases hy : y.ev fr with
        | agg _ => rw [hy] at h2; cases h2
        | tup _ => rw [hy] at h2; cases h2
        | c q =>
          rw [hy] at h2 hv
          cases q <;> simp only at h2 <;> try (cases h2; done)
          rename_i k i
          split at h2
          · rename_i hc
            simp at h2; subst h2
            exact .inl ⟨k, i, congrArg some hv, hc, rfl⟩
          · cases h2
  refine ⟨?_, hhigh.1⟩
  rcases hhigh.2 with ⟨k, i, e1, i0, i1, rfl⟩ | ⟨e1, rfl⟩ <;> rcases hlow with ⟨k', j, e2, j0, rfl⟩ | ⟨e2, rfl⟩
  · simp [Instr.sliceBounds, e1, e2, bound_run (P := P) (w := w) rfl i0 (show i ≤ ((cap : Nat) : Int) by omega), bound_run (P := P) (w := w) rfl j0 (show j ≤ ((i.toNat : Nat) : Int) by omega)]
  · simp [Instr.sliceBounds, e1, e2, bound_run (P := P) (w := w) rfl i0 (show i ≤ ((cap : Nat) : Int) by omega)]
  · simp [Instr.sliceBounds, e1, e2, bound_run (P := P) (w := w) rfl j0 (show j ≤ ((h : Nat) : Int) by omega)]
  · simp [Instr.sliceBounds, e1, e2]

end steps
end PAbs
