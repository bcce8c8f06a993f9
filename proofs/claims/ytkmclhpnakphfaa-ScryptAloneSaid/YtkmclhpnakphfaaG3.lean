/- Texts of this claim, put together: Ops4 Ops5 Ops6. -/
import Derived.Test.YtkmclhpnakphfaaG2
import Derived.Laws.Pointers
import Derived.Laws.Cover3
/- Each operation of the abstract machine, against the model's own: '==', places, pieces. -/
namespace PAbs
open Go Go.RowKit
set_option linter.unusedSimpArgs false
set_option linter.unusedVariables false

section steps
variable {P : Program} {o : Oper} {a : Act} {base fl : Nat} {ρ : List Reg} {H H' : AHeap} {w : World} {fr : AFrame} {v : AV}

theorem equalTo {op : BinOp} {neg : Bool} {t : TypeId} {x y : Value} {r : Bool} (hop : (op = .eql ∧ neg = false) ∨ (op = .neq ∧ neg = true)) (h : (Op.equal t x y).run P w = .ok r w)
    (hx : (∃ b, x = .bool b) ∨ (∃ p, x = .pointer p) ∨ (∃ p n c, x = .slice p n c) ∨ (∃ l, x = .agg l)) :
    (binOp op t x y).run P w = .ok (.bool (if neg then !r else r)) w := by
  rcases hop with ⟨rfl, rfl⟩ | ⟨rfl, rfl⟩ <;> rcases hx with ⟨b, rfl⟩ | ⟨p, rfl⟩ | ⟨p, n, c, rfl⟩ | ⟨l, rfl⟩ <;> cases y <;> simp [binOp, h]

theorem st_eqGen (hH : HR base ρ H w) {op : BinOp} {neg : Bool} {t u : TypeId} {x z : Operand} {r : Bool} (ho : o.op = .binOp op t x z u) (hop : (op = .eql ∧ neg = false) ∨ (op = .neq ∧ neg = true))
    (hg : (eqGuard op t x z (a.eval x) (a.eval z)).run P w = .ok () w) (h : (Op.equal t (a.eval x) (a.eval z)).run P w = .ok r w)
    (hx : (∃ b, a.eval x = .bool b) ∨ (∃ p, a.eval x = .pointer p) ∨ (∃ p n c, a.eval x = .slice p n c) ∨ (∃ l, a.eval x = .agg l)) :
    Stepped P o a base ρ w (.c (.bool (if neg then !r else r))) H := by
  refine Stepped.pure hH (u := .bool (if neg then !r else r)) ?_ rfl
  simp only [execOp, ho, Sem.run_bind, hg, Result.andThen_ok, equalTo hop h hx]
  rfl

theorem st_eqBool (hH : HR base ρ H w) (hF : FR ρ fr a.tmps) {op : BinOp} {neg : Bool} {t u : TypeId} {x z : Operand} {y q : AOpd} (ho : o.op = .binOp op t x z u) (hx : absOpd x = some y) (hz : absOpd z = some q)
    (hop : (op = .eql ∧ neg = false) ∨ (op = .neq ∧ neg = true)) (hu : P.underlying t = some .bool)
    (h : stepA fl H (·.ev fr) (.eq neg .bool y q) = some (v, H')) : Stepped P o a base ρ w v H' := by
  have hvx := absOpd_VR hF hx
  have hvz := absOpd_VR hF hz
  simp only [stepA] at h
  cases he : eqA H .bool (y.ev fr) (q.ev fr) with
  | none => rw [he] at h; cases h
  | some r =>
    rw [he] at h
    simp only [Option.map_some, Option.some.injEq, Prod.mk.injEq] at h
    obtain ⟨rfl, rfl⟩ := h
    unfold eqA at he
    split at he <;> try (rename_i h1 _ _; cases h1; done)
    all_goals try (cases he; done)
    rename_i b b' _ e1 e2
    rw [e1] at hvx; rw [e2] at hvz
    have hvx : a.eval x = .bool b := hvx
    have hvz : a.eval z = .bool b' := hvz
    simp at he; subst he
    refine st_eqGen hH ho hop ?_ ?_ (.inl ⟨_, hvx⟩)
    · rw [hvx]; exact eqGuard_plain (.inr (.inr (.inl ⟨_, rfl⟩))) w
    · rw [hvx, hvz]; exact run_equal_bool w t b b' hu

theorem live_ptr (hH : HR base ρ H w) {b off : Nat} {cs : List Cell} {x : Value} (hc : hcells H b = some cs) (hv : CR ρ (.ptr b off) x) : ∃ ad, x = .pointer (some ad) := by
  obtain ⟨g, f, c, _, hu, _⟩ := hH.at_ptr hc hv
  exact ⟨_, hu⟩

theorem run_equalIn_nil_pointer (d : Nat) (t e : TypeId) (p : Option Addr) (h : P.underlying t = some (.pointer e)) : (Op.equalIn (d + 1) t (.pointer none) (.pointer p)).run P w = .ok p.isNone w := by
  simp [Op.equalIn, run_underlying h]
theorem run_equal_nil_pointer (t e : TypeId) (p : Option Addr) (h : P.underlying t = some (.pointer e)) : (Op.equal t (.pointer none) (.pointer p)).run P w = .ok p.isNone w :=
  run_equalIn_nil_pointer 9999 t e p h
theorem run_equal_pointer_nil' (t e : TypeId) (p : Option Addr) (h : P.underlying t = some (.pointer e)) : (Op.equal t (.pointer p) (.pointer none)).run P w = .ok p.isNone w :=
  run_equal_pointer_nil w t p (by simp [Program.pointee, h])

theorem run_equalIn_ptr_same (d : Nat) (t e : TypeId) (a : Addr) (i : TypeInfo) (h : P.underlying t = some (.pointer e)) (hi : P.info? e = some i) : (Op.equalIn (d + 1) t (.pointer (some a)) (.pointer (some a))).run P w = .ok true w := by
  simp [Op.equalIn, run_underlying h, Go.sizeOf, Go.typeInfo, hi, Go.sameAddr]
theorem run_equal_ptr_same (t e : TypeId) (a : Addr) (i : TypeInfo) (h : P.underlying t = some (.pointer e)) (hi : P.info? e = some i) : (Op.equal t (.pointer (some a)) (.pointer (some a))).run P w = .ok true w :=
  run_equalIn_ptr_same 9999 t e a i h hi
theorem st_eqPtr (hH : HR base ρ H w) (hF : FR ρ fr a.tmps) {op : BinOp} {neg : Bool} {t u e : TypeId} {i : TypeInfo} {x z : Operand} {y q : AOpd} (ho : o.op = .binOp op t x z u) (hx : absOpd x = some y) (hz : absOpd z = some q)
    (hop : (op = .eql ∧ neg = false) ∨ (op = .neq ∧ neg = true)) (hu : P.underlying t = some (.pointer e)) (hi : P.info? e = some i)
    (h : stepA fl H (·.ev fr) (.eq neg .ptr y q) = some (v, H')) : Stepped P o a base ρ w v H' := by
  have hvx := absOpd_VR hF hx
  have hvz := absOpd_VR hF hz
  simp only [stepA] at h
  cases he : eqA H .ptr (y.ev fr) (q.ev fr) with
  | none => rw [he] at h; cases h
  | some r =>
    rw [he] at h
    simp only [Option.map_some, Option.some.injEq, Prod.mk.injEq] at h
    obtain ⟨rfl, rfl⟩ := h
    have fin : ∀ p p' : Option Addr, a.eval x = .pointer p → a.eval z = .pointer p' → (Op.equal t (.pointer p) (.pointer p')).run P w = .ok r w → Stepped P o a base ρ w (.c (.bool (if neg then !r else r))) H := fun p p' h1 h2 h3 =>
      st_eqGen hH ho hop (by rw [h1]; exact eqGuard_plain (.inr (.inr (.inr (.inl ⟨_, rfl⟩)))) w) (by rw [h1, h2]; exact h3) (.inr (.inl ⟨_, h1⟩))
    unfold eqA at he
    split at he <;> try (rename_i h1 _ _; cases h1; done)
    all_goals try (cases he; done)
    · rename_i _ e1 e2
      rw [e1] at hvx; rw [e2] at hvz
      simp at he; subst he
      exact fin none none hvx hvz (run_equal_nil_pointer t e none hu)
    · rename_i b off _ e1 e2
      rw [e1] at hvx; rw [e2] at hvz
      cases hc : hcells H b with
      | none => rw [hc] at he; cases he
      | some cs =>
        rw [hc] at he; simp at he; subst he
        obtain ⟨ad, hu'⟩ := live_ptr hH hc hvx
        exact fin (some ad) none hu' hvz (run_equal_pointer_nil' t e _ hu)
    · rename_i b off _ e1 e2
      rw [e1] at hvx; rw [e2] at hvz
      cases hc : hcells H b with
      | none => rw [hc] at he; cases he
      | some cs =>
        rw [hc] at he; simp at he; subst he
        obtain ⟨ad, hu'⟩ := live_ptr hH hc hvz
        exact fin none (some ad) hvx hu' (run_equal_nil_pointer t e _ hu)
    · rename_i b off b' off' _ e1 e2
      rw [e1] at hvx; rw [e2] at hvz
      split at he
      · rename_i hbo
        obtain ⟨rfl, rfl⟩ := hbo
        cases hc : hcells H b with
        | none => rw [hc] at he; cases he
        | some cs =>
          rw [hc] at he; simp at he; subst he
          obtain ⟨g, f, c, hr, hu', _⟩ := hH.at_ptr hc hvx
          obtain ⟨g2, f2, c2, hr2, hu2, _⟩ := hH.at_ptr hc hvz
          rw [hr] at hr2
          simp only [Option.some.injEq, Reg.at.injEq] at hr2
          obtain ⟨rfl, rfl, _⟩ := hr2
          exact fin (some ⟨g, f + off, none⟩) (some ⟨g, f + off, none⟩) hu' hu2 (run_equal_ptr_same t e _ i hu hi)
      · cases he

theorem st_eqSlice (hH : HR base ρ H w) (hF : FR ρ fr a.tmps) {op : BinOp} {neg : Bool} {t u e : TypeId} {x z : Operand} {y q : AOpd} (ho : o.op = .binOp op t x z u) (hx : absOpd x = some y) (hz : absOpd z = some q)
    (hop : (op = .eql ∧ neg = false) ∨ (op = .neq ∧ neg = true)) (hu : P.underlying t = some (.slice e))
    (h : stepA fl H (·.ev fr) (.eq neg .slice y q) = some (v, H')) : Stepped P o a base ρ w v H' := by
  have hvx := absOpd_VR hF hx
  have hvz := absOpd_VR hF hz
  simp only [stepA] at h
  cases he : eqA H .slice (y.ev fr) (q.ev fr) with
  | none => rw [he] at h; cases h
  | some r =>
    rw [he] at h
    simp only [Option.map_some, Option.some.injEq, Prod.mk.injEq] at h
    obtain ⟨rfl, rfl⟩ := h
    have fin : ∀ p n c, a.eval x = .slice p n c → a.eval z = .slice none 0 0 → p.isNone = r → Stepped P o a base ρ w (.c (.bool (if neg then !r else r))) H := fun p n c h1 h2 h3 =>
      st_eqGen hH ho hop (by rw [h1]; exact eqGuard_plain (.inr (.inr (.inr (.inr ⟨_, _, _, rfl⟩)))) w) (by rw [h1, h2, run_equal_slice_nil w t e p n c hu, h3]) (.inr (.inr (.inl ⟨_, _, _, h1⟩)))
    unfold eqA at he
    split at he <;> try (rename_i h1 _ _; cases h1; done)
    all_goals try (cases he; done)
    · rename_i _ e1 e2
      rw [e1] at hvx; rw [e2] at hvz
      simp at he; subst he
      exact fin _ _ _ hvx hvz rfl
    · rename_i b off n sz _ e1 e2
      rw [e1] at hvx; rw [e2] at hvz
      split at he
      · cases he
      · rename_i hn
        cases hc : hcells H b with
        | none => rw [hc] at he; cases he
        | some cs =>
          rw [hc] at he; simp at he; subst he
          rcases hH.at_slc hc hvx with ⟨g, f, c, k, _, hu', _⟩ | ⟨h0, _⟩
          · exact fin _ _ _ hu' hvz rfl
          · exact absurd h0 hn

theorem st_eqAgg (hH : HR base ρ H w) (hF : FR ρ fr a.tmps) {op : BinOp} {neg : Bool} {t u : TypeId} {x z : Operand} {y q : AOpd} {sh : List CK} (ho : o.op = .binOp op t x z u) (hx : absOpd x = some y) (hz : absOpd z = some q)
    (hop : (op = .eql ∧ neg = false) ∨ (op = .neq ∧ neg = true)) (hsh : shapeT P 20 t = some sh) (hag : aggT P t = some true) (hgt : P.eqGuardType P.depth t = false)
    (h : stepA fl H (·.ev fr) (.eq neg (.agg sh) y q) = some (v, H')) : Stepped P o a base ρ w v H' := by
  have hvx := absOpd_VR hF hx
  have hvz := absOpd_VR hF hz
  simp only [stepA] at h
  cases he : eqA H (.agg sh) (y.ev fr) (q.ev fr) with
  | none => rw [he] at h; cases h
  | some r =>
    rw [he] at h
    simp only [Option.map_some, Option.some.injEq, Prod.mk.injEq] at h
    obtain ⟨rfl, rfl⟩ := h
    unfold eqA at he
    split at he <;> try (rename_i h1 _ _; cases h1; done)
    all_goals try (cases he; done)
    rename_i sh' cs ds heq e1 e2
    injection heq with heq
    subst heq
    rw [e1] at hvx; rw [e2] at hvz
    obtain ⟨l, hl, hL⟩ := hvx
    obtain ⟨m, hm, hM⟩ := hvz
    split at he
    · rename_i hfit
      simp at he; subst he
      have hq := equalIn_shape (P := P) (ρ := ρ) 9980 20 t sh hsh w cs ds (.agg l.toArray) (.agg m.toArray) hfit.1 hfit.2 (.inl ⟨hag, l, rfl, hL⟩) (.inl ⟨hag, m, rfl, hM⟩)
      refine st_eqGen hH ho hop ?_ ?_ (.inr (.inr (.inr ⟨_, hl⟩)))
      · rw [hl, hm]; exact run_eqGuard_agg w op t x z _ _ hgt
      · rw [hl, hm]; exact hq
    · cases he

theorem st_arrPtr (hH : HR base ρ H w) (hF : FR ρ fr a.tmps) {t e : TypeId} {n : Nat} {x : Operand} {y : AOpd} (ho : o.op = .sliceToArrayPointer t x) (hx : absOpd x = some y) (hu : P.underlying t = some (.array n e))
    (h : stepA fl H (·.ev fr) (.arrPtr n y) = some (v, H')) : Stepped P o a base ρ w v H' := by
  have hvx := absOpd_VR hF hx
  simp only [stepA] at h
  split at h
  · rename_i b off m sz e1
    rw [e1] at hvx
    split at h
    · rename_i hm
      cases hc : hcells H b with
      | none => rw [hc] at h; cases h
      | some cs =>
        rw [hc] at h; simp at h
        obtain ⟨rfl, rfl⟩ := h
        rcases hH.at_slc hc hvx with ⟨g, f, c, k, hr, hu', _⟩ | ⟨h0, _⟩
        · refine Stepped.pure hH (u := .pointer (some ⟨g, f + off, none⟩)) ?_ (by simp [VR, CR, hr])
          have : ¬ m < n := by omega
          simp [execOp, ho, Instr.arrayAt, run_underlying hu, hu', this]
        · omega
    · cases h
  · cases h

theorem wrap_in {n : Int} (h0 : 0 ≤ n) (h1 : n ≤ 9223372036854775807) : IntKind.i64.wrap n = n := by rw [IntKind.wrap_i64]; omega

theorem st_makeSlice (hH : HR base ρ H w) (hF : FR ρ fr a.tmps) {t e : TypeId} {x z : Operand} {y q : AOpd} {zc : List Cell} {bytes : Nat} (ho : o.op = .makeSlice t x z) (hx : absOpd x = some y) (hz : absOpd z = some q)
    (hu : P.underlying t = some (.slice e)) (hzero : zeroE P e = some zc) (hb : bytesT P e = some bytes)
    (h : stepA fl H (·.ev fr) (.makeSlice zc bytes y q) = some (v, H')) : Stepped P o a base ρ w v H' := by
  have hvx := absOpd_VR hF hx
  have hvz := absOpd_VR hF hz
  simp only [stepA] at h
  split at h
  · rename_i l c e1 e2
    rw [e1] at hvx; rw [e2] at hvz
    have hvx : a.eval x = .int .i64 l := hvx
    have hvz : a.eval z = .int .i64 c := hvz
    split at h
    · rename_i hc
      obtain ⟨h0, hlc, hbc⟩ := hc
      simp at h
      obtain ⟨rfl, rfl⟩ := h
      obtain ⟨hzero, hz0⟩ := zeroE_zeroA hzero
      obtain ⟨i, zv, hi, hzv, hzl, hL⟩ := zeroA_info hzero
      obtain ⟨i', hi', hbi, hb0⟩ := bytesT_info hb
      rw [hi] at hi'
      injection hi' with hi'
      subst hi'
      have hc63 : c ≤ 9223372036854775807 := by
        have : c * 1 ≤ c * (bytes : Int) := Int.mul_le_mul_of_nonneg_left (by omega) (by omega)
        omega
      have hmk := run_make (P := P) w t e i zv hu hi hzv .i64 .i64 l c h0 hlc (by rw [hbi]; rw [Int.mul_comm]; omega) hc63
      have hfr := flat_rel (hL ρ) hz0 c.toNat (c.toNat * i.size) (by rw [hzl])
      have hlen : zv.cells.size = zc.length := by have := (hL ρ).1; simpa using this.symm
      have hmc : madeCells zv.cells (c.toNat * i.size) = (Array.range (c.toNat * i.size)).map (zv.cells[· % zv.cells.size]!) := rfl
      have htake : (List.replicate l.toNat zc).flatten = ((List.replicate c.toNat zc).flatten).take (l.toNat * zc.length) := by
        have hsplit : List.replicate c.toNat zc = List.replicate l.toNat zc ++ List.replicate (c.toNat - l.toNat) zc := by
          rw [List.replicate_append_replicate]; congr 1; omega
        rw [hsplit, List.flatten_append, List.take_left' (flat_length zc _)]
      have hlt : l.toNat * zc.length ≤ c.toNat * zc.length := Nat.mul_le_mul_right _ (by omega)
      refine Stepped.new hH (.inl rfl) (cs := (List.replicate l.toNat zc).flatten) (l := (madeCells zv.cells (c.toNat * i.size)).toList) (ty := e) (c := c.toNat * zc.length) ?_ ?_ ?_ (u := .slice (some ⟨w.heap.size, 0, none⟩) l.toNat c.toNat) ?_
        (slc_new ρ H hH.len _ _ _ _ _ (by omega) (Nat.le_refl _))
      · rw [htake, List.length_take, flat_length, Nat.min_eq_left hlt]
        exact (hmc ▸ hfr).take _
      · rw [hmc]; simp [hzl]
      · rw [flat_length]; exact hlt
      · simp only [execOp, ho, hvx, hvz, Sem.run_bind, hmk, Result.andThen_ok]
        simp
    · cases h
  · cases h

theorem bound_run {x : Value} {k : IntKind} {i : Int} {y : Nat} {code : BoundsCode} (hx : x = .int k i) (h0 : 0 ≤ i) (h1 : i ≤ y) : (Instr.sliceBound x y code).run P w = .ok i.toNat w := by
  subst hx
  simp [Instr.sliceBound, asIntOf, h0, h1]

theorem bounds_run {isSlice : Bool} {len cap h l : Nat} {lo hi : Option AOpd} {lo' hi' : Option Operand} (hF : FR ρ fr a.tmps) (hlo : absOptOpd lo' = some lo) (hhi : absOptOpd hi' = some hi)
    (h1 : hiA (hi.map (·.ev fr)) len = some h) (h2 : loA (lo.map (·.ev fr)) = some l) (hle : l ≤ h) (hcap : len ≤ cap) :
    (Instr.sliceBounds isSlice len cap (lo'.map a.eval) (hi'.map a.eval) none).run P w = .ok (l, h, cap) w ∧ h ≤ len := by
  have hhigh : h ≤ len ∧ ((∃ k i, hi'.map a.eval = some (.int k i) ∧ 0 ≤ i ∧ i ≤ len ∧ i.toNat = h) ∨ (hi'.map a.eval = none ∧ h = len)) := by
    cases hi' with
    | none => simp [absOptOpd] at hhi; subst hhi; simp [hiA] at h1; subst h1; exact ⟨Nat.le_refl _, .inr ⟨rfl, rfl⟩⟩
    | some x =>
      simp only [absOptOpd] at hhi
      cases hx : absOpd x with
      | none => rw [hx] at hhi; cases hhi
      | some y =>
        rw [hx] at hhi; simp at hhi; subst hhi
        have hv := absOpd_VR hF hx
        simp only [Option.map_some, hiA] at h1
        cases hy : y.ev fr with
        | agg _ => rw [hy] at h1; cases h1
        | tup _ => rw [hy] at h1; cases h1
        | clo _ _ => rw [hy] at h1; cases h1
        | c q =>
          rw [hy] at h1 hv
          cases q <;> simp only at h1 <;> try (cases h1; done)
          rename_i k i
          split at h1
          · rename_i hc
            simp at h1; subst h1
            exact ⟨by omega, .inl ⟨k, i, congrArg some hv, hc.1, hc.2, rfl⟩⟩
          · cases h1
  have hlow : (∃ k i, lo'.map a.eval = some (.int k i) ∧ 0 ≤ i ∧ i.toNat = l) ∨ (lo'.map a.eval = none ∧ l = 0) := by
    cases lo' with
    | none => simp [absOptOpd] at hlo; subst hlo; simp [loA] at h2; exact .inr ⟨rfl, h2.symm⟩
    | some x =>
      simp only [absOptOpd] at hlo
      cases hx : absOpd x with
      | none => rw [hx] at hlo; cases hlo
      | some y =>
        rw [hx] at hlo; simp at hlo; subst hlo
        have hv := absOpd_VR hF hx
        simp only [Option.map_some, loA] at h2
        cases hy : y.ev fr with
        | agg _ => rw [hy] at h2; cases h2
        | tup _ => rw [hy] at h2; cases h2
        | clo _ _ => rw [hy] at h2; cases h2
        | c q =>
          rw [hy] at h2 hv
          cases q <;> simp only at h2 <;> try (cases h2; done)
          rename_i k i
          split at h2
          · rename_i hc
            simp at h2; subst h2
            exact .inl ⟨k, i, congrArg some hv, hc, rfl⟩
          · cases h2
  refine ⟨?_, hhigh.1⟩
  rcases hhigh.2 with ⟨k, i, e1, i0, i1, rfl⟩ | ⟨e1, rfl⟩ <;> rcases hlow with ⟨k', j, e2, j0, rfl⟩ | ⟨e2, rfl⟩
  · simp [Instr.sliceBounds, e1, e2, bound_run (P := P) (w := w) rfl i0 (show i ≤ ((cap : Nat) : Int) by omega), bound_run (P := P) (w := w) rfl j0 (show j ≤ ((i.toNat : Nat) : Int) by omega)]
  · simp [Instr.sliceBounds, e1, e2, bound_run (P := P) (w := w) rfl i0 (show i ≤ ((cap : Nat) : Int) by omega)]
  · simp [Instr.sliceBounds, e1, e2, bound_run (P := P) (w := w) rfl j0 (show j ≤ ((h : Nat) : Int) by omega)]
  · simp [Instr.sliceBounds, e1, e2]

end steps
end PAbs

/- Each operation of the abstract machine, against the model's own: pieces, places, append, copy. -/
namespace PAbs
open Go Go.RowKit
set_option linter.unusedSimpArgs false
set_option linter.unusedVariables false

section steps
variable {P : Program} {o : Oper} {a : Act} {base fl : Nat} {ρ : List Reg} {H H' : AHeap} {w : World} {fr : AFrame} {v : AV}

theorem st_sliceS (hH : HR base ρ H w) (hF : FR ρ fr a.tmps) {t e : TypeId} {x : Operand} {y : AOpd} {lo hi : Option AOpd} {lo' hi' : Option Operand} {zc : List Cell} (ho : o.op = .slice t x lo' hi' none) (hx : absOpd x = some y) (hlo : absOptOpd lo' = some lo) (hhi : absOptOpd hi' = some hi)
    (hu : P.underlying t = some (.slice e)) (hz : zeroE P e = some zc)
    (h : stepA fl H (·.ev fr) (.sliceS zc.length y lo hi) = some (v, H')) : Stepped P o a base ρ w v H' := by
  have hvx := absOpd_VR hF hx
  obtain ⟨hz, hz0⟩ := zeroE_zeroA hz
  obtain ⟨i, zv, hi0, hzv, hzl, hL⟩ := zeroA_info hz
  have hs : sizeT P e = some zc.length := by simp [sizeT, hi0, hzl]
  simp only [stepA] at h
  split at h
  · rename_i b off n sz e1
    rw [e1] at hvx
    split at h
    · rename_i hh l h1 h2
      split at h
      · rename_i hle
        obtain ⟨rfl, hle⟩ := hle
        cases hc : hcells H b with
        | none => rw [hc] at h; cases h
        | some cs =>
          rw [hc] at h; simp at h
          obtain ⟨rfl, rfl⟩ := h
          rcases hH.at_slc hc hvx with ⟨g, f, c, k, hr, hu', hnk, hk, _⟩ | ⟨h0, ad, hu'⟩
          · obtain ⟨hb, hhn⟩ := bounds_run (P := P) (w := w) (isSlice := true) (cap := k) hF hlo hhi h1 h2 hle hnk
            refine Stepped.pure hH (u := .slice (if k = l then some ⟨g, f + off, none⟩ else some ⟨g, f + off + l * zc.length, none⟩) (hh - l) (k - l)) ?_ ?_
            · simp only [execOp, ho, Instr.sliceAt, run_underlying hu, Sem.run_bind, Result.andThen_ok, Instr.slice, hu', Option.map_none, hb, run_sizeOf hs]
              simp only [Sem.run_pure, Result.andThen_ok, Option.map_some, addr_add]
              all_goals (split <;> rfl)
            · simp only [VR, CR, hr]
              by_cases hkl : k = l
              · right
                refine ⟨by omega, some ⟨g, f + off, none⟩, ?_⟩
                rw [if_pos hkl]; congr 1 <;> omega
              · left
                refine ⟨k - l, ?_, by omega, ?_⟩
                · rw [if_neg hkl, Nat.add_assoc]
                · have : l * zc.length + (k - l) * zc.length = k * zc.length := by rw [← Nat.add_mul]; congr 1; omega
                  omega
          · subst h0
            obtain ⟨hb, hhn⟩ := bounds_run (P := P) (w := w) (isSlice := true) (cap := 0) hF hlo hhi h1 h2 hle (Nat.le_refl _)
            have hl0 : l = 0 := by omega
            have hh0 : hh = 0 := by omega
            subst hl0 hh0
            refine Stepped.pure hH (u := .slice ad 0 0) ?_ ?_
            · simp only [execOp, ho, Instr.sliceAt, run_underlying hu, Sem.run_bind, Result.andThen_ok, Instr.slice, hu', Option.map_none, hb, run_sizeOf hs]
              simp
            · simp only [VR, CR] at hvx ⊢
              rw [hu'] at hvx
              split at hvx <;> simp_all
      · cases h
    · cases h
  · rename_i e1
    rw [e1] at hvx
    have hvx : a.eval x = .slice none 0 0 := hvx
    split at h
    · rename_i hh l h1 h2
      split at h
      · rename_i hl
        simp at h
        obtain ⟨rfl, rfl⟩ := h
        have hl0 : l = 0 := by omega
        subst hl0
        obtain ⟨hb, hhn⟩ := bounds_run (P := P) (w := w) (isSlice := true) (cap := 0) hF hlo hhi h1 h2 (Nat.zero_le _) (Nat.le_refl _)
        have hh0 : hh = 0 := by omega
        subst hh0
        refine Stepped.pure hH (u := .slice none 0 0) ?_ rfl
        simp only [execOp, ho, Instr.sliceAt, run_underlying hu, Sem.run_bind, Result.andThen_ok, Instr.slice, hvx, Option.map_none, hb, run_sizeOf hs]
        simp
      · cases h
    · cases h
  · cases h

theorem mk_extract (s : List UInt8) (l h : Nat) : (⟨s.toArray⟩ : ByteArray).extract l h = ⟨((s.drop l).take (h - l)).toArray⟩ := by
  apply ByteArray.ext
  simp [ByteArray.data_extract, List.extract]

theorem st_sliceStr (hH : HR base ρ H w) (hF : FR ρ fr a.tmps) {t : TypeId} {x : Operand} {y : AOpd} {lo hi : Option AOpd} {lo' hi' : Option Operand} (ho : o.op = .slice t x lo' hi' none) (hx : absOpd x = some y) (hlo : absOptOpd lo' = some lo) (hhi : absOptOpd hi' = some hi)
    (hu : P.underlying t = some .string)
    (h : stepA fl H (·.ev fr) (.sliceStr y lo hi) = some (v, H')) : Stepped P o a base ρ w v H' := by
  have hvx := absOpd_VR hF hx
  simp only [stepA] at h
  split at h
  · rename_i s e1
    rw [e1] at hvx
    have hvx : a.eval x = .string ⟨s.toArray⟩ := hvx
    split at h
    · rename_i hh l h1 h2
      split at h
      · rename_i hle
        simp at h
        obtain ⟨rfl, rfl⟩ := h
        obtain ⟨hb, hhn⟩ := bounds_run (P := P) (w := w) (isSlice := false) (cap := s.length) hF hlo hhi h1 h2 hle (Nat.le_refl _)
        refine Stepped.pure hH (u := .string ⟨((s.drop l).take (hh - l)).toArray⟩) ?_ rfl
        simp only [execOp, ho, Instr.sliceAt, run_underlying hu, Sem.run_bind, Result.andThen_ok, Instr.slice, hvx, mk_size, Option.isSome, Bool.false_eq_true, if_false, Option.map_none, hb, mk_extract]
        rfl
      · cases h
    · cases h
  · cases h

theorem sliceArr_aux (hH : HR base ρ H w) {b off n l hh : Nat} {zc : List Cell} {cs : List Cell} {x : Value} (hv : CR ρ (.ptr b off) x) (hc : hcells H b = some cs) (hfit : off + n * zc.length ≤ cs.length) (hle : l ≤ hh) (hhn : hh ≤ n) :
    ∃ g f, x = .pointer (some ⟨g, f + off, none⟩) ∧ VR ρ (.c (.slc b (off + l * zc.length) (hh - l) zc.length)) (.slice (some (if n = l then (⟨g, f + off, none⟩ : Addr) else (⟨g, f + off, none⟩ : Addr).add (l * zc.length))) (hh - l) (n - l)) := by
  obtain ⟨g, f, c, hr, hu', arr, ty, fz, hg, hholds⟩ := hH.at_ptr hc hv
  refine ⟨g, f, hu', ?_⟩
  simp only [VR, CR, hr, addr_add]
  by_cases hnl : n = l
  · right
    refine ⟨by omega, some ⟨g, f + off, none⟩, ?_⟩
    rw [if_pos hnl]; congr 1 <;> omega
  · left
    refine ⟨n - l, ?_, by omega, ?_⟩
    · rw [if_neg hnl, Nat.add_assoc]
    · have h1 : l * zc.length + (n - l) * zc.length = n * zc.length := by rw [← Nat.add_mul]; congr 1; omega
      have hcap : cs.length ≤ c := by
        rcases hcells_some hc with hb | hb
        · exact (by
            obtain ⟨r, hr', hB⟩ := hH.reg hb
            rw [hr] at hr'
            injection hr' with hr'
            subst hr'
            simp only [BR] at hB
            exact hB.2.1)
        · obtain ⟨r, hr', hB⟩ := hH.reg hb
          rw [hr] at hr'
          injection hr' with hr'
          subst hr'
          simp only [BR] at hB
          obtain ⟨_, _, _, _, _, _, _, hcl, _⟩ := hB
          exact hcl
      omega

theorem st_sliceArr (hH : HR base ρ H w) (hF : FR ρ fr a.tmps) {t e : TypeId} {n : Nat} {x : Operand} {y : AOpd} {lo hi : Option AOpd} {lo' hi' : Option Operand} {zc : List Cell} (ho : o.op = .slice t x lo' hi' none) (hx : absOpd x = some y) (hlo : absOptOpd lo' = some lo) (hhi : absOptOpd hi' = some hi)
    (hu : P.underlying t = some (.array n e) ∨ ∃ t', P.underlying t = some (.pointer t') ∧ P.underlying t' = some (.array n e)) (hz : zeroE P e = some zc)
    (h : stepA fl H (·.ev fr) (.sliceArr n zc.length y lo hi) = some (v, H')) : Stepped P o a base ρ w v H' := by
  have hvx := absOpd_VR hF hx
  obtain ⟨hz, hz0⟩ := zeroE_zeroA hz
  obtain ⟨i, zv, hi0, hzv, hzl, hL⟩ := zeroA_info hz
  have hs : sizeT P e = some zc.length := by simp [sizeT, hi0, hzl]
  simp only [stepA] at h
  split at h
  · rename_i b off e1
    rw [e1] at hvx
    split at h
    · rename_i hh l cs h1 h2 hc
      split at h
      · rename_i hle
        simp at h
        obtain ⟨rfl, rfl⟩ := h
        obtain ⟨hb, hhn⟩ := bounds_run (P := P) (w := w) (isSlice := false) (cap := n) hF hlo hhi h1 h2 hle.1 (Nat.le_refl _)
        obtain ⟨g, f, hu', hV⟩ := sliceArr_aux hH hvx hc hle.2 hle.1 hhn
        refine Stepped.pure hH ?_ hV
        rcases hu with hu | ⟨t', hu, hut⟩
        · simp only [execOp, ho, Instr.sliceAt, run_underlying hu, Sem.run_bind, Result.andThen_ok, hu', Instr.sureAddr, Sem.run_pure, Option.map_none, hb, run_sizeOf hs]
        · simp only [execOp, ho, Instr.sliceAt, run_underlying hu, Sem.run_bind, Result.andThen_ok, Instr.slice, hu', asAddr, run_underlying hut, Sem.run_pure, Option.map_none, hb, run_sizeOf hs]
      · cases h
    · cases h
  · cases h

theorem st_fieldAddr (hH : HR base ρ H w) (hF : FR ρ fr a.tmps) {t : TypeId} {n : Nat} {x : Operand} {y : AOpd} {fs : Array Field} {fd : Field} {m : Nat} (ho : o.op = .fieldAddr t x n) (hx : absOpd x = some y) (hu : P.underlying t = some (.struct fs)) (hf : fs[n]? = some fd) (hs : sizeT P fd.type = some (m + 1))
    (h : stepA fl H (·.ev fr) (.fieldAddr fd.offset y) = some (v, H')) : Stepped P o a base ρ w v H' := by
  have hvx := absOpd_VR hF hx
  simp only [stepA] at h
  split at h
  · rename_i b off e1
    rw [e1] at hvx
    cases hc : hcells H b with
    | none => rw [hc] at h; cases h
    | some cs =>
    rw [hc] at h
    simp at h
    obtain ⟨rfl, rfl⟩ := h
    obtain ⟨g, f, c, hr, hu', _⟩ := hH.at_ptr hc hvx
    refine Stepped.pure hH (u := .pointer (some ⟨g, f + (off + fd.offset), none⟩)) ?_ (by simp [VR, CR, hr])
    simp [execOp, ho, Instr.fieldAt, run_underlying hu, hf, hu', Instr.sureAddr, fieldPlace, run_sizeOf hs, addr_add, Nat.add_assoc]
  · cases h

theorem st_field1 (hH : HR base ρ H w) (hF : FR ρ fr a.tmps) {t : TypeId} {n : Nat} {x : Operand} {y : AOpd} {fs : Array Field} {fd : Field} (ho : o.op = .field t x n) (hx : absOpd x = some y) (hu : P.underlying t = some (.struct fs)) (hf : fs[n]? = some fd) (hag : aggT P fd.type = some false)
    (h : stepA fl H (·.ev fr) (.field1 fd.offset y) = some (v, H')) : Stepped P o a base ρ w v H' := by
  have hvx := absOpd_VR hF hx
  simp only [stepA] at h
  split at h
  · rename_i cs e1
    rw [e1] at hvx
    obtain ⟨l, hu', hL⟩ := hvx
    cases hc : cs[fd.offset]? with
    | none => rw [hc] at h; cases h
    | some q =>
      rw [hc] at h; simp at h
      obtain ⟨rfl, rfl⟩ := h
      obtain ⟨u, h1, h2⟩ := hL.2 _ _ hc
      refine Stepped.pure hH (u := u) ?_ h2
      simp [execOp, ho, Instr.field, run_underlying hu, hf, hu', asAgg, part, run_isAgg hag, h1]
  · cases h

theorem st_fieldN (hH : HR base ρ H w) (hF : FR ρ fr a.tmps) {t : TypeId} {n m : Nat} {x : Operand} {y : AOpd} {fs : Array Field} {fd : Field} (ho : o.op = .field t x n) (hx : absOpd x = some y) (hu : P.underlying t = some (.struct fs)) (hf : fs[n]? = some fd) (hag : aggT P fd.type = some true) (hs : sizeT P fd.type = some m)
    (h : stepA fl H (·.ev fr) (.fieldN fd.offset m y) = some (v, H')) : Stepped P o a base ρ w v H' := by
  have hvx := absOpd_VR hF hx
  simp only [stepA] at h
  split at h
  · rename_i cs e1
    rw [e1] at hvx
    obtain ⟨l, hu', hL⟩ := hvx
    split at h
    · rename_i hle
      simp at h
      obtain ⟨rfl, rfl⟩ := h
      refine Stepped.pure hH (u := .agg (l.toArray.extract fd.offset (fd.offset + m))) ?_ ⟨(l.drop fd.offset).take m, ?_, (hL.drop _).take _⟩
      · simp [execOp, ho, Instr.field, run_underlying hu, hf, hu', asAgg, part, run_isAgg hag, run_sizeOf hs]
      · congr 1
        apply Array.ext'
        simp [List.extract]
    · cases h
  · cases h

theorem st_idxSlc (hH : HR base ρ H w) (hF : FR ρ fr a.tmps) {t e : TypeId} {z : Nat} {x q : Operand} {y p : AOpd} (ho : o.op = .indexAddr t x q) (hx : absOpd x = some y) (hq : absOpd q = some p) (hu : P.underlying t = some (.slice e)) (hs : sizeT P e = some z)
    (h : stepA fl H (·.ev fr) (.idxSlc z y p) = some (v, H')) : Stepped P o a base ρ w v H' := by
  have hvx := absOpd_VR hF hx
  have hvq := absOpd_VR hF hq
  simp only [stepA] at h
  split at h
  · rename_i b off n sz k i e1 e2
    rw [e1] at hvx; rw [e2] at hvq
    have hvq : a.eval q = .int k i := hvq
    split at h
    · rename_i hle
      obtain ⟨rfl, h0, h1⟩ := hle
      cases hc : hcells H b with
      | none => rw [hc] at h; cases h
      | some cs =>
      rw [hc] at h
      simp at h
      obtain ⟨rfl, rfl⟩ := h
      rcases hH.at_slc hc hvx with ⟨g, f, c, k', hr, hu', _⟩ | ⟨hn0, _⟩
      · refine Stepped.pure hH (u := .pointer (some ⟨g, f + (off + i.toNat * sz), none⟩)) ?_ (by simp [VR, CR, hr])
        simp [execOp, ho, Instr.indexAt, run_underlying hu, hu', hvq, asIntOf, h0, h1, run_sizeOf hs, addr_add, Nat.add_assoc]
      · omega
    · cases h
  · cases h

theorem st_idxArr (hH : HR base ρ H w) (hF : FR ρ fr a.tmps) {t e : TypeId} {z n : Nat} {x q : Operand} {y p : AOpd} (ho : o.op = .indexAddr t x q) (hx : absOpd x = some y) (hq : absOpd q = some p) (hu : P.underlying t = some (.array n e)) (hs : sizeT P e = some z)
    (h : stepA fl H (·.ev fr) (.idxArr n z y p) = some (v, H')) : Stepped P o a base ρ w v H' := by
  have hvx := absOpd_VR hF hx
  have hvq := absOpd_VR hF hq
  simp only [stepA] at h
  split at h
  · rename_i b off k i e1 e2
    rw [e1] at hvx; rw [e2] at hvq
    have hvq : a.eval q = .int k i := hvq
    split at h
    · rename_i hle
      obtain ⟨h0, h1⟩ := hle
      cases hc : hcells H b with
      | none => rw [hc] at h; cases h
      | some cs =>
      rw [hc] at h
      simp at h
      obtain ⟨rfl, rfl⟩ := h
      obtain ⟨g, f, c, hr, hu', _⟩ := hH.at_ptr hc hvx
      refine Stepped.pure hH (u := .pointer (some ⟨g, f + (off + i.toNat * z), none⟩)) ?_ (by simp [VR, CR, hr])
      simp [execOp, ho, Instr.indexAt, run_underlying hu, hu', hvq, asIntOf, h0, h1, Instr.sureAddr, run_sizeOf hs, addr_add, Nat.add_assoc]
    · cases h
  · cases h

theorem st_elemStr (hH : HR base ρ H w) (hF : FR ρ fr a.tmps) {t : TypeId} {x q : Operand} {y p : AOpd} (ho : o.op = .index t x q) (hx : absOpd x = some y) (hq : absOpd q = some p) (hu : P.underlying t = some .string)
    (h : stepA fl H (·.ev fr) (.elemStr y p) = some (v, H')) : Stepped P o a base ρ w v H' := by
  have hvx := absOpd_VR hF hx
  have hvq := absOpd_VR hF hq
  simp only [stepA] at h
  split at h
  · rename_i s k i e1 e2
    rw [e1] at hvx; rw [e2] at hvq
    have hvq : a.eval q = .int k i := hvq
    have hvx : a.eval x = .string ⟨s.toArray⟩ := hvx
    split at h
    · rename_i h0
      cases hc : s[i.toNat]? with
      | none => rw [hc] at h; cases h
      | some b =>
        rw [hc] at h; simp at h
        obtain ⟨rfl, rfl⟩ := h
        refine Stepped.pure hH (u := .int .u8 b.toNat) ?_ rfl
        have hget : (⟨s.toArray⟩ : ByteArray)[i.toNat]? = some b := by
          have hlt := (List.getElem?_eq_some_iff.1 hc).1
          rw [getElem?_pos (⟨s.toArray⟩ : ByteArray) i.toNat (by rw [mk_size]; exact hlt)]
          have := (List.getElem?_eq_some_iff.1 hc).2
          simp only [← this]; rfl
        simp [execOp, ho, Instr.index, run_underlying hu, hvx, hvq, asIntOf, h0, hget]
    · cases h
  · cases h

theorem st_elem1 (hH : HR base ρ H w) (hF : FR ρ fr a.tmps) {t e : TypeId} {n : Nat} {x q : Operand} {y p : AOpd} (ho : o.op = .index t x q) (hx : absOpd x = some y) (hq : absOpd q = some p) (hu : P.underlying t = some (.array n e)) (hag : aggT P e = some false) (hs : sizeT P e = some 1)
    (h : stepA fl H (·.ev fr) (.elem1 n y p) = some (v, H')) : Stepped P o a base ρ w v H' := by
  have hvx := absOpd_VR hF hx
  have hvq := absOpd_VR hF hq
  simp only [stepA] at h
  split at h
  · rename_i cs k i e1 e2
    rw [e1] at hvx; rw [e2] at hvq
    have hvq : a.eval q = .int k i := hvq
    obtain ⟨l, hu', hL⟩ := hvx
    split at h
    · rename_i hle
      cases hc : cs[i.toNat]? with
      | none => rw [hc] at h; cases h
      | some b =>
        rw [hc] at h; simp at h
        obtain ⟨rfl, rfl⟩ := h
        obtain ⟨u, h1, h2⟩ := hL.2 _ _ hc
        refine Stepped.pure hH (u := u) ?_ h2
        simp [execOp, ho, Instr.index, run_underlying hu, hu', hvq, asIntOf, hle.1, hle.2, part, run_isAgg hag, run_sizeOf hs, h1]
    · cases h
  · cases h

theorem st_elemN (hH : HR base ρ H w) (hF : FR ρ fr a.tmps) {t e : TypeId} {n z : Nat} {x q : Operand} {y p : AOpd} (ho : o.op = .index t x q) (hx : absOpd x = some y) (hq : absOpd q = some p) (hu : P.underlying t = some (.array n e)) (hag : aggT P e = some true) (hs : sizeT P e = some z)
    (h : stepA fl H (·.ev fr) (.elemN n z y p) = some (v, H')) : Stepped P o a base ρ w v H' := by
  have hvx := absOpd_VR hF hx
  have hvq := absOpd_VR hF hq
  simp only [stepA] at h
  split at h
  · rename_i cs k i e1 e2
    rw [e1] at hvx; rw [e2] at hvq
    have hvq : a.eval q = .int k i := hvq
    obtain ⟨l, hu', hL⟩ := hvx
    split at h
    · rename_i hle
      simp at h
      obtain ⟨rfl, rfl⟩ := h
      refine Stepped.pure hH (u := .agg (l.toArray.extract (i.toNat * z) (i.toNat * z + z))) ?_ ⟨(l.drop (i.toNat * z)).take z, ?_, (hL.drop _).take _⟩
      · simp [execOp, ho, Instr.index, run_underlying hu, hu', hvq, asIntOf, hle.1, hle.2.1, part, run_isAgg hag, run_sizeOf hs]
      · congr 1
        apply Array.ext'
        simp [List.extract]
    · cases h
  · cases h

theorem st_extract (hH : HR base ρ H w) (hF : FR ρ fr a.tmps) {n : Nat} {x : Operand} {y : AOpd} (ho : o.op = .extract x n) (hx : absOpd x = some y)
    (h : stepA fl H (·.ev fr) (.extract y n) = some (v, H')) : Stepped P o a base ρ w v H' := by
  have hvx := absOpd_VR hF hx
  simp only [stepA] at h
  split at h
  · rename_i vs e1
    rw [e1] at hvx
    obtain ⟨l, hu', hL⟩ := hvx
    split at h
    · rename_i q hc
      simp only [Option.some.injEq, Prod.mk.injEq] at h
      obtain ⟨rfl, rfl⟩ := h
      obtain ⟨u, h1, h2⟩ := hL.2 _ _ hc
      refine Stepped.pure hH (u := u) ?_ h2
      simp [execOp, ho, Instr.extract, hu', h1]
    · rename_i q hc
      simp only [Option.some.injEq, Prod.mk.injEq] at h
      obtain ⟨rfl, rfl⟩ := h
      obtain ⟨u, h1, h2⟩ := hL.2 _ _ hc
      refine Stepped.pure hH (u := u) ?_ h2
      simp [execOp, ho, Instr.extract, hu', h1]
    · cases h
  · cases h
end steps
end PAbs

/- Each operation of the abstract machine, against the model's own: len, append, copy, max, min; and all of them together. -/
namespace PAbs
open Go Go.RowKit
set_option linter.unusedSimpArgs false
set_option linter.unusedVariables false

section steps
variable {P : Program} {o : Oper} {a : Act} {base fl : Nat} {ρ : List Reg} {H H' : AHeap} {w : World} {fr : AFrame} {v : AV}

theorem invoke_builtin {b : Builtin} {args : Array Operand} {ts : Array TypeId} {u : Value} {w' : World} (ho : o.op = .call { callee := .builtin b, args := args, argTypes := ts }) (hb : b = .len ∨ b = .append ∨ b = .copy ∨ b = .max ∨ b = .min)
    (h : ((match b with | .len => Builtin.len_ ts o.type (args.map a.eval) | .append => Builtin.append_ ts o.type (args.map a.eval) | .copy => Builtin.copy_ ts o.type (args.map a.eval) | .max => Builtin.max_ ts o.type (args.map a.eval) | _ => Builtin.min_ ts o.type (args.map a.eval)) : Sem Value).run P w = .ok u w') :
    (execOp a.eval o).run P w = .ok (.value u) w' := by
  rcases hb with rfl | rfl | rfl | rfl | rfl <;> simp only [execOp, ho, resolve, Sem.run_bind, Sem.run_pure, Result.andThen_ok, invoke, builtin] <;> simp only at h <;> rw [h] <;> rfl

theorem st_len (hH : HR base ρ H w) (hF : FR ρ fr a.tmps) {t : TypeId} {st : Bool} {x : Operand} {y : AOpd} (ho : o.op = .call { callee := .builtin .len, args := #[x], argTypes := #[t] }) (hx : absOpd x = some y) (hu : (st = true ∧ P.underlying t = some .string) ∨ (st = false ∧ ∃ e, P.underlying t = some (.slice e)))
    (h : stepA fl H (·.ev fr) (.len st y) = some (v, H')) : Stepped P o a base ρ w v H' := by
  have hvx := absOpd_VR hF hx
  simp only [stepA] at h
  split at h
  · rename_i s e1
    rw [e1] at hvx
    have hvx : a.eval x = .string ⟨s.toArray⟩ := hvx
    simp at h
    obtain ⟨rfl, rfl⟩ := h
    rcases hu with ⟨_, hu⟩ | ⟨h0, _⟩
    · refine Stepped.pure hH (u := .int .i64 s.length) (invoke_builtin ho (.inl rfl) ?_) rfl
      simp [Builtin.len_, run_underlying hu, hvx, mk_size, goInt]
    · cases h0
  · rename_i e1
    rw [e1] at hvx
    have hvx : a.eval x = .slice none 0 0 := hvx
    simp at h
    obtain ⟨rfl, rfl⟩ := h
    rcases hu with ⟨h0, _⟩ | ⟨_, e, hu⟩
    · cases h0
    · refine Stepped.pure hH (u := .int .i64 0) (invoke_builtin ho (.inl rfl) ?_) rfl
      simp [Builtin.len_, run_underlying hu, hvx, goInt]
  · rename_i b off n sz e1
    rw [e1] at hvx
    cases hc : hcells H b with
    | none => rw [hc] at h; cases h
    | some cs =>
      rw [hc] at h; simp at h
      obtain ⟨rfl, rfl⟩ := h
      rcases hu with ⟨h0, _⟩ | ⟨_, e, hu⟩
      · cases h0
      · refine Stepped.pure hH (u := .int .i64 n) (invoke_builtin ho (.inl rfl) ?_) rfl
        rcases hH.at_slc hc hvx with ⟨g, f, c, k, _, hu', _⟩ | ⟨h0, ad, hu'⟩
        · simp [Builtin.len_, run_underlying hu, hu', goInt]
        · subst h0; simp [Builtin.len_, run_underlying hu, hu', goInt]
  · cases h

theorem st_lenK (hH : HR base ρ H w) {t e : TypeId} {n : Nat} {x : Operand} (ho : o.op = .call { callee := .builtin .len, args := #[x], argTypes := #[t] }) (hu : P.underlying t = some (.array n e) ∨ ∃ t', P.underlying t = some (.pointer t') ∧ P.underlying t' = some (.array n e))
    (h : stepA fl H (·.ev fr) (.lenK n) = some (v, H')) : Stepped P o a base ρ w v H' := by
  simp [stepA] at h
  obtain ⟨rfl, rfl⟩ := h
  refine Stepped.pure hH (u := .int .i64 n) (invoke_builtin ho (.inl rfl) ?_) rfl
  rcases hu with hu | ⟨t', hu, hut⟩
  · simp [Builtin.len_, run_underlying hu, goInt]
  · simp [Builtin.len_, run_underlying hu, run_underlying hut, goInt]

/-! ### append -/
theorem append_grow {t u e ty : TypeId} {i : TypeInfo} {z : Value} (ht : P.underlying t = some (.slice e)) (hut : (∃ e', P.underlying u = some (.slice e')) ∨ P.underlying u = some .string) (hi : P.info? e = some i) (hz : i.zero = some z)
    {b : Option Addr} {sLen sCap n : Nat} {x : Value} {olds news : List Value} (hlen : (Builtin.lenOf x).run P w = .ok n w)
    (ho : (Builtin.firstCells i.size sLen (.slice b sLen sCap)).run P w.drew = .ok olds.toArray w.drew) (hn : (Builtin.firstCells i.size n x).run P w.drew = .ok news.toArray w.drew)
    (hg : sCap < sLen + n) (hb : (sLen + n) * i.bytes ≤ 140737488355328) (hbytes : 0 < i.bytes) :
    (Builtin.append_ #[t, u] ty #[.slice b sLen sCap, x]).run P w =
      .ok (.slice (some ⟨w.heap.size, 0, none⟩) (sLen + n) (grownCap w (sLen + n) sCap e)) (w.drew.alloc (.cells (olds.toArray ++ news.toArray ++ Builtin.zeroCells z.cells (grownCap w (sLen + n) sCap e - (sLen + n))) e)) := by
  have h1 : ¬ (sLen + n ≤ sCap) := by omega
  have h63 : sLen + n ≤ 140737488355328 := Nat.le_trans (Nat.le_mul_of_pos_right _ hbytes) hb
  have h63' : ¬ (9223372036854775807 < ((sLen : Int) + (n : Int))) := by omega
  have h48 := growslice_fits (old := sCap) (by omega) hb
  have h48' : ¬ (281474976710656 < Builtin.nextslicecap (sLen + n) sCap * i.bytes) := by omega
  have hzs : (underlying u).run P w = .ok (match P.underlying u with | some d => d | none => .invalid) w := by
    rcases hut with ⟨e', hu⟩ | hu <;> simp [run_underlying hu, hu]
  have ho' : Sem.run P (Builtin.firstCells i.size sLen (Value.slice b sLen sCap)) (w.drew) = Result.ok olds.toArray (w.drew) := ho
  rcases hut with ⟨e', hu⟩ | hu <;>
    simp [Builtin.append_, run_underlying ht, run_underlying hu, Go.sizeOf, typeInfo, zeroValue, hi, hz, hlen, h1, h63', h48', Question.forced, ho, hn, newRow, grownCap] <;> (congr 2; apply Array.ext'; simp)

theorem append_room {t u e ty : TypeId} {i : TypeInfo} (ht : P.underlying t = some (.slice e)) (hut : (∃ e', P.underlying u = some (.slice e')) ∨ P.underlying u = some .string) (hi : P.info? e = some i)
    {b : Option Addr} {sLen sCap n : Nat} {x : Value} {news : List Value} {w' : World} (hlen : (Builtin.lenOf x).run P w = .ok n w)
    (hn : (Builtin.firstCells i.size n x).run P w = .ok news.toArray w) (hg : sLen + n ≤ sCap)
    (hst : match b with | some ad => (storeCells (ad.add (sLen * i.size)) news).run P w = .ok () w' | none => w' = w) :
    (Builtin.append_ #[t, u] ty #[.slice b sLen sCap, x]).run P w = .ok (.slice b (sLen + n) sCap) w' := by
  cases b with
  | none =>
    simp only at hst; subst hst
    rcases hut with ⟨e', hu⟩ | hu <;>
      simp [Builtin.append_, run_underlying ht, run_underlying hu, Go.sizeOf, typeInfo, hi, hlen, hg, hn]
  | some ad =>
    simp only at hst
    rcases hut with ⟨e', hu⟩ | hu <;>
      simp [Builtin.append_, run_underlying ht, run_underlying hu, Go.sizeOf, typeInfo, hi, hlen, hg, hn, hst]

/-- the block that a growing append makes -/
theorem grown_sound (hH : HR base ρ H w) {olds news : List Cell} {lo ln : List Value} {z : Value} {e : TypeId} {n k sz : Nat} (ho : L2 (CR ρ) olds lo) (hn : L2 (CR ρ) news ln) (hz : z.cells.size = sz) (hlen : olds.length + news.length = n * sz) (hk : n ≤ k) :
    HR base (ρ ++ [.at w.heap.size 0 (k * sz)]) (H ++ [.own (olds ++ news)]) (w.drew.alloc (.cells (lo.toArray ++ ln.toArray ++ Builtin.zeroCells z.cells (k - n)) e)) := by
  have hsz : (lo.toArray ++ ln.toArray ++ Builtin.zeroCells z.cells (k - n)).size = k * sz := by
    simp only [Array.size_append, List.size_toArray, size_zeroCells, hz, ← ho.1, ← hn.1, hlen, ← Nat.add_mul]
    congr 1; omega
  have hle : n * sz ≤ k * sz := Nat.mul_le_mul_right _ hk
  have := hH.drew.push (arr := lo.toArray ++ ln.toArray ++ Builtin.zeroCells z.cells (k - n)) (ty := e) (fz := (0, 0)) (cs := olds ++ news) (c := k * sz) (fun o _ h => by omega) (by omega) (by rw [List.length_append]; omega) (fun i x hx => by
    obtain ⟨y, hy, hR⟩ := (ho.append hn).2 i x hx
    refine ⟨y, ?_, hR⟩
    have hlt := (List.getElem?_eq_some_iff.1 hy).1
    rw [Nat.zero_add, Array.getElem?_append_left (by simpa using hlt), List.append_toArray, List.getElem?_toArray]
    exact hy)
  exact this

theorem st_append (hH : HR base ρ H w) (hF : FR ρ fr a.tmps) {t u e : TypeId} {zc : List Cell} {bytes : Nat} {s x : Operand} {y q : AOpd} (hop : o.op = .call { callee := .builtin .append, args := #[s, x], argTypes := #[t, u] }) (hs : absOpd s = some y) (hx : absOpd x = some q)
    (ht : P.underlying t = some (.slice e)) (hut : (∃ e', P.underlying u = some (.slice e')) ∨ P.underlying u = some .string) (hzero : zeroE P e = some zc) (hb : bytesT P e = some bytes)
    (h : stepA fl H (·.ev fr) (.append zc bytes y q) = some (v, H')) : Stepped P o a base ρ w v H' := by
  have hvs := absOpd_VR hF hs
  have hvx := absOpd_VR hF hx
  obtain ⟨hzero, hz0⟩ := zeroE_zeroA hzero
  obtain ⟨i, zv, hi, hzv, hzl, hL⟩ := zeroA_info hzero
  obtain ⟨i', hi', hbi, hb0⟩ := bytesT_info hb
  rw [hi] at hi'
  injection hi' with hi'
  subst hi'
  have hzs : zv.cells.size = zc.length := by have := (hL ρ).1; simpa using this.symm
  simp only [stepA, appendA] at h
  split at h
  · cases h
  · rename_i news hnews
    obtain ⟨ln, m, hLn, hlen, hlenOf, hfc, hfcm, _⟩ := sliceCells_run (P := P) (size := i.size) hH hvx hnews hzl.symm hz0
    have hnl : news.length = m * zc.length := by rw [hLn.1, hlen, hzl]
    have hdiv : news.length / zc.length = m := by rw [hnl]; exact Nat.mul_div_cancel _ hz0
    have hmm : #[s, x].map a.eval = #[a.eval s, a.eval x] := by simp
    split at h
    · -- nil
      rename_i e1
      rw [e1] at hvs
      have hvs : a.eval s = .slice none 0 0 := hvs
      split at h
      · rename_i hbb
        simp at h
        obtain ⟨rfl, rfl⟩ := h
        rw [hdiv]
        by_cases hm0 : m = 0
        · subst hm0
          have hn0 : news = [] := List.eq_nil_of_length_eq_zero (by omega)
          subst hn0
          refine ⟨.slice none 0 0, w, ρ ++ [.empty], .inl (invoke_builtin hop (.inr (.inl rfl)) ?_), hH.push_empty, RExt.push ρ _, ?_, Below.refl _ _⟩
          · rw [hmm, hvs]
            exact append_room ht hut hi hlenOf (hfc w fun _ _ => rfl) (by omega) rfl
          · simp [VR, CR, ← hH.len]
        · have hrun := append_grow (ty := o.type) (w := w) (b := none) (sLen := 0) (sCap := 0) (olds := []) ht hut hi hzv hlenOf (by simp [Builtin.firstCells]) (hfc w.drew fun _ _ => rfl) (by omega) (by
            rw [hbi, Nat.zero_add]
            have : m ≤ news.length := by rw [hnl]; exact Nat.le_mul_of_pos_right _ hz0
            exact Nat.le_trans (Nat.mul_le_mul_right _ this) hbb) (by omega)
          have hge := grownCap_ge w (0 + m) 0 e
          have hH' := grown_sound (e := e) (k := grownCap w (0 + m) 0 e) (n := 0 + m) hH (L2.nil (R := CR ρ)) hLn hzs (by simp [hnl]) hge
          refine ⟨_, _, _, .inl (invoke_builtin hop (.inr (.inl rfl)) (by rw [hmm, hvs]; exact hrun)), hH', RExt.push ρ _, ?_, (Below.refl _ _).drew.alloc (by simpa using hH.base_le) _⟩
          have := slc_new ρ H hH.len w.heap.size (grownCap w (0 + m) 0 e * zc.length) (0 + m) (grownCap w (0 + m) 0 e) zc.length hge (Nat.le_refl _)
          simpa using this
      · cases h
    · -- a block of the call's own
      rename_i b off n sz e1
      rw [e1] at hvs
      split at h
      · rename_i cs hcs
        have hcs := hown_some hcs
        split at h
        · rename_i hcond
          obtain ⟨hfl, rfl, hend, hbb⟩ := hcond
          simp at h
          obtain ⟨rfl, rfl⟩ := h
          rw [hdiv]
          have hbig : (n + m) * bytes ≤ 140737488355328 := by
            have h1 : n ≤ n * zc.length := Nat.le_mul_of_pos_right _ hz0
            have h2 : m ≤ news.length := by rw [hnl]; exact Nat.le_mul_of_pos_right _ hz0
            exact Nat.le_trans (Nat.mul_le_mul_right _ (by omega)) hbb
          have hkill := hH.kill b
          have hcl : (cs.drop off).length = n * zc.length := by rw [List.length_drop]; omega
          have hvnew : ∀ (g c n k : Nat), n ≤ k → k * zc.length ≤ c → VR (ρ.set b .dead ++ [.at g 0 c]) (.c (.slc H.length 0 n zc.length)) (.slice (some ⟨g, 0, none⟩) n k) := fun g c n k h1 h2 => by
            have := slc_new (ρ.set b .dead) (H.set b .dead) hkill.len g c n k zc.length h1 h2
            simpa using this
          -- growing
          have grow : ∀ (ad : Option Addr) (k : Nat) (lo : List Value), a.eval s = .slice ad n k → L2 (CR ρ) (cs.drop off) lo → (Builtin.firstCells i.size n (.slice ad n k)).run P w.drew = .ok lo.toArray w.drew → k < n + m →
              Stepped P o a base ρ w (.c (.slc H.length 0 (n + m) zc.length)) (H.set b .dead ++ [.own (cs.drop off ++ news)]) := fun ad k lo hsv hlo hfo hk => by
            have hrun := append_grow (ty := o.type) (w := w) ht hut hi hzv hlenOf hfo (hfc w.drew fun _ _ => rfl) hk (by rw [hbi]; exact hbig) (by omega)
            have hge := grownCap_ge w (n + m) k e
            have hH' := grown_sound (e := e) (k := grownCap w (n + m) k e) (n := n + m) hkill (hlo.mono fun _ _ h => h.ext (RExt.kill ρ b)) (hLn.mono fun _ _ h => h.ext (RExt.kill ρ b)) hzs (by rw [hcl, hnl, Nat.add_mul]) hge
            exact ⟨_, _, _, .inl (invoke_builtin hop (.inr (.inl rfl)) (by rw [hmm, hsv]; exact hrun)), hH', (RExt.kill ρ b).trans (RExt.push _ _), hvnew _ _ _ _ hge (Nat.le_refl _), (Below.refl _ _).drew.alloc (by simpa using hH.base_le) _⟩
          -- nothing there, nothing comes
          have still : ∀ (ad : Option Addr), a.eval s = .slice ad 0 0 → n = 0 → Stepped P o a base ρ w (.c (.slc H.length 0 (n + m) zc.length)) (H.set b .dead ++ [.own (cs.drop off ++ news)]) := fun ad hsv hn0 => by
            subst hn0
            have hcd : cs.drop off = [] := List.eq_nil_of_length_eq_zero (by omega)
            by_cases hm0 : m = 0
            · subst hm0
              have hn0 : news = [] := List.eq_nil_of_length_eq_zero (by omega)
              subst hn0
              have hl0 : ln = [] := List.eq_nil_of_length_eq_zero (by rw [hlen]; omega)
              subst hl0
              refine ⟨.slice ad 0 0, w, ρ.set b .dead ++ [.empty], .inl (invoke_builtin hop (.inr (.inl rfl)) ?_), ?_, (RExt.kill ρ b).trans (RExt.push _ _), ?_, Below.refl _ _⟩
              · rw [hmm, hsv]
                exact append_room ht hut hi hlenOf (hfc w fun _ _ => rfl) (by omega) (by cases ad <;> simp [storeCells])
              · rw [hcd]; exact hkill.push_empty
              · simp [VR, CR, ← hH.len]
            · exact grow ad 0 [] hsv (by rw [hcd]; exact L2.nil) (by cases ad <;> simp [Builtin.firstCells, loadCells, loadCellsFrom]) (by omega)
          rcases hH.at_slc (hown_hcells hcs) hvs with ⟨g, f, c, k, hr, hsv, hnk, hkc, arr, ty, fz, hg, hh⟩ | ⟨hn0, ad, hsv⟩
          · by_cases hroom : n + m ≤ k
            · -- room
              have hB := hH.blk b _ _ hcs hr
              simp only [BR] at hB
              obtain ⟨hbase, arr', ty', fz', hg', hz', hfc', hcl', hh'⟩ := hB
              have hmk : (n + m) * zc.length ≤ k * zc.length := Nat.mul_le_mul_right _ hroom
              rw [Nat.add_mul] at hmk
              have hst := run_storeCells_thawed P g (f + cs.length) ty' fz' ln 0 arr' w hg' hz' (by have := hLn.1; omega) hLn.one
              have hH' := hH.moved (o := off) (m := k * zc.length) hcs hr hg' hLn (by omega) (by rw [hnl]; omega) hkc
              refine ⟨.slice (some ⟨g, f + off, none⟩) (n + m) k, _, _, .inl (invoke_builtin hop (.inr (.inl rfl)) ?_), hH', (RExt.kill ρ b).trans (RExt.push _ _), ?_, below_setRow (Below.refl _ _) hbase _⟩
              · rw [hmm, hsv]
                refine append_room ht hut hi hlenOf (hfc w fun _ _ => rfl) hroom ?_
                simp only [addr_add, ← hzl]
                rw [show f + off + n * zc.length = f + cs.length by omega]
                exact hst
              · simp [VR, CR, ← hH.len]
                exact .inl hroom
            · -- no room
              obtain ⟨lo, hlo, hll, hcell⟩ := hH.reads (o := off) (n := n * zc.length) hr hg hh (by omega)
              have htk : (cs.drop off).take (n * zc.length) = cs.drop off := List.take_of_length_le (by omega)
              rw [htk] at hlo
              refine grow _ k lo hsv hlo ?_ (by omega)
              exact run_firstCells_some w.drew i.size n _ n k lo (by rw [hll, hzl]) hcell
          · exact still ad hsv hn0
        · cases h
      · cases h
    · cases h
theorem set_self {α : Type} {l : List α} {b : Nat} {x : α} (h : l[b]? = some x) : l.set b x = l := by
  apply List.ext_getElem?
  intro i
  rw [List.getElem?_set]
  by_cases hb : b = i
  · subst hb; rw [if_pos rfl, if_pos (List.getElem?_eq_some_iff.1 h).1, h]
  · rw [if_neg hb]

theorem st_copy (hH : HR base ρ H w) (hF : FR ρ fr a.tmps) {t e : TypeId} {ts : List TypeId} {sz : Nat} {d s : Operand} {y q : AOpd} (hop : o.op = .call { callee := .builtin .copy, args := #[d, s], argTypes := (t :: ts).toArray }) (hd : absOpd d = some y) (hs : absOpd s = some q)
    (ht : P.underlying t = some (.slice e)) (hsz : sizeT P e = some sz) (hp : 0 < sz)
    (h : stepA fl H (·.ev fr) (.copy sz y q) = some (v, H')) : Stepped P o a base ρ w v H' := by
  have hvd := absOpd_VR hF hd
  have hvs := absOpd_VR hF hs
  simp only [stepA] at h
  split at h
  · rename_i b off n sz' m cs e1 e2 e3
    rw [e1] at hvd
    split at h
    · rename_i hz
      subst hz
      cases hw : writeN fl H b off (cs.take (min m n * sz')) with
      | none => rw [hw] at h; cases h
      | some H1 =>
        rw [hw] at h
        simp at h
        obtain ⟨rfl, rfl⟩ := h
        obtain ⟨bs, hb, hle, rfl⟩ := writeN_own hw
        obtain ⟨l, m', hL, hlen, hlenOf, _, hfc, hlenA⟩ := sliceCells_run (P := P) (size := sz') hH hvs e3 rfl hp
        rw [e2] at hlenA
        injection hlenA with hm
        subst hm
        have hmin : Nat.min m n = min m n := rfl
        have hL2 : L2 (CR ρ) (cs.take (min m n * sz')) (l.take (min m n * sz')) := hL.take _
        have hfcn := hfc (min m n) (Nat.min_le_left _ _)
        have hmm : #[d, s].map a.eval = #[a.eval d, a.eval s] := by simp
        rcases hH.at_slc (hown_hcells hb) hvd with ⟨g, f, c, k, hr, hu', _⟩ | ⟨hn0, ad, hu'⟩
        · obtain ⟨w', hrun, hH', hB⟩ := write_run (P := P) hH hb hle hr hL2
          refine ⟨.int .i64 (min m n : Nat), w', ρ, .inl (invoke_builtin hop (.inr (.inr (.inl rfl))) ?_), hH', RExt.refl ρ, ?_, hB⟩
          · rw [hmm, hu']
            simp [Builtin.copy_, run_underlying ht, hlenOf, run_sizeOf hsz, hmin, hfcn, hrun, goInt]
          · simp [i64, VR, CR]
        · subst hn0
          have hmin0 : min m 0 = 0 := Nat.min_zero m
          rw [hmin0] at hL2 hfcn hle ⊢
          simp only [Nat.zero_mul, List.take_zero] at hL2 hfcn hle ⊢
          have hset : H.set b (.own (bs.take off ++ [] ++ bs.drop (off + ([] : List Cell).length))) = H := by
            simp only [List.append_nil, List.length_nil, Nat.add_zero, List.take_append_drop]
            exact set_self hb
          rw [hset]
          refine Stepped.pure hH (u := .int .i64 0) (invoke_builtin hop (.inr (.inr (.inl rfl))) ?_) (by simp [i64, VR, CR])
          rw [hmm, hu']
          cases ad <;> simp [Builtin.copy_, run_underlying ht, hlenOf, run_sizeOf hsz, hfcn, goInt, storeCells]
    · cases h
  · cases h

theorem fold_run {f : AV → AV → Option AV} {g : Value → Value → Sem Value} (hfg : ∀ x y z u v, f x y = some z → VR ρ x u → VR ρ y v → ∃ r, (g u v).run P w = .ok r w ∧ VR ρ z r) :
    ∀ (xs : List AV) (vs : List Value) (x : AV) (u : Value) (z : AV), L2 (VR ρ) xs vs → VR ρ x u → foldA f x xs = some z → ∃ r, (vs.foldlM g u).run P w = .ok r w ∧ VR ρ z r
  | [], vs, x, u, z, hL, hx, h => by
    have : vs = [] := List.eq_nil_of_length_eq_zero hL.1.symm
    subst this
    simp [foldA] at h; subst h
    exact ⟨u, by simp, hx⟩
  | y :: r, vs, x, u, z, hL, hx, h => by
    cases vs with
    | nil => have := hL.1; simp at this
    | cons v vs =>
      simp only [foldA] at h
      split at h
      · rename_i b hb
        obtain ⟨v', hv', hR⟩ := hL.2 0 y rfl
        simp at hv'; subst hv'
        obtain ⟨r', hr', hVr⟩ := hfg _ _ _ _ _ hb hx hR
        have hL' : L2 (VR ρ) r vs := ⟨by have := hL.1; simpa using this, fun i z hz => by simpa using hL.2 (i + 1) z (by simpa using hz)⟩
        obtain ⟨r2, hr2, hV2⟩ := fold_run hfg r vs b r' z hL' hVr h
        exact ⟨r2, by simp [List.foldlM_cons, hr', hr2], hV2⟩
      · cases h

theorem max_run (x y z : AV) (u v : Value) (h : maxA x y = some z) (hx : VR ρ x u) (hy : VR ρ y v) : ∃ r, (Builtin.max2 u v).run P w = .ok r w ∧ VR ρ z r := by
  unfold maxA at h
  split at h
  · rename_i k a k' b
    split at h
    · rename_i hk
      subst hk
      simp at h; subst h
      have hx : u = .int k a := hx
      have hy : v = .int k b := hy
      subst hx hy
      exact ⟨_, by simp [Builtin.max2], rfl⟩
    · cases h
  · cases h
theorem min_run (x y z : AV) (u v : Value) (h : minA x y = some z) (hx : VR ρ x u) (hy : VR ρ y v) : ∃ r, (Builtin.min2 u v).run P w = .ok r w ∧ VR ρ z r := by
  unfold minA at h
  split at h
  · rename_i k a k' b
    split at h
    · rename_i hk
      subst hk
      simp at h; subst h
      have hx : u = .int k a := hx
      have hy : v = .int k b := hy
      subst hx hy
      exact ⟨_, by simp [Builtin.min2], rfl⟩
    · cases h
  · cases h

theorem st_max (hH : HR base ρ H w) (hF : FR ρ fr a.tmps) {args : Array Operand} {ts : Array TypeId} {as : List AOpd} (hop : o.op = .call { callee := .builtin .max, args := args, argTypes := ts }) (has : optMap absOpd args.toList = some as)
    (h : stepA fl H (·.ev fr) (.max as) = some (v, H')) : Stepped P o a base ρ w v H' := by
  have hL := absOpd_evs hF has
  simp only [stepA] at h
  split at h
  · rename_i x r hxr
    cases hf : foldA maxA x r with
    | none => rw [hf] at h; cases h
    | some z =>
      rw [hf] at h; simp at h
      obtain ⟨rfl, rfl⟩ := h
      rw [hxr] at hL
      cases hvs : args.toList.map a.eval with
      | nil => rw [hvs] at hL; have := hL.1; simp at this
      | cons u vs =>
        rw [hvs] at hL
        obtain ⟨u', hu', hR⟩ := hL.2 0 x rfl
        simp at hu'; subst hu'
        have hL' : L2 (VR ρ) r vs := ⟨by have := hL.1; simpa using this, fun i z hz => by simpa using hL.2 (i + 1) z (by simpa using hz)⟩
        obtain ⟨q, hq, hV⟩ := fold_run (P := P) (w := w) (fun x y z u v => max_run x y z u v) r vs x u z hL' hR hf
        refine Stepped.pure hH (u := q) (invoke_builtin hop (.inr (.inr (.inr (.inl rfl)))) ?_) hV
        simp only [Builtin.max_, Array.toList_map, hvs]
        exact hq
  · cases h
theorem st_min (hH : HR base ρ H w) (hF : FR ρ fr a.tmps) {args : Array Operand} {ts : Array TypeId} {as : List AOpd} (hop : o.op = .call { callee := .builtin .min, args := args, argTypes := ts }) (has : optMap absOpd args.toList = some as)
    (h : stepA fl H (·.ev fr) (.min as) = some (v, H')) : Stepped P o a base ρ w v H' := by
  have hL := absOpd_evs hF has
  simp only [stepA] at h
  split at h
  · rename_i x r hxr
    cases hf : foldA minA x r with
    | none => rw [hf] at h; cases h
    | some z =>
      rw [hf] at h; simp at h
      obtain ⟨rfl, rfl⟩ := h
      rw [hxr] at hL
      cases hvs : args.toList.map a.eval with
      | nil => rw [hvs] at hL; have := hL.1; simp at this
      | cons u vs =>
        rw [hvs] at hL
        obtain ⟨u', hu', hR⟩ := hL.2 0 x rfl
        simp at hu'; subst hu'
        have hL' : L2 (VR ρ) r vs := ⟨by have := hL.1; simpa using this, fun i z hz => by simpa using hL.2 (i + 1) z (by simpa using hz)⟩
        obtain ⟨q, hq, hV⟩ := fold_run (P := P) (w := w) (fun x y z u v => min_run x y z u v) r vs x u z hL' hR hf
        refine Stepped.pure hH (u := q) (invoke_builtin hop (.inr (.inr (.inr (.inr rfl)))) ?_) hV
        simp only [Builtin.min_, Array.toList_map, hvs]
        exact hq
  · cases h
end steps
end PAbs
