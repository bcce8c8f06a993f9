/- Each operation of the abstract machine, against the model's own: pieces, places, append, copy. -/
import Derived.Test.YtebccciodmlikaaOps4
namespace PAbs
open Go Go.RowKit
set_option linter.unusedSimpArgs false
set_option linter.unusedVariables false

section steps
variable {P : Program} {o : Oper} {a : Act} {base fl : Nat} {ρ : List Reg} {H H' : AHeap} {w : World} {fr : AFrame} {v : AV}

theorem st_sliceS (hH : HR base ρ H w) (hF : FR ρ fr a.tmps) {t e : TypeId} {x : Operand} {y : AOpd} {lo hi : Option AOpd} {lo' hi' : Option Operand} {zc : List Cell} (ho : o.op = .slice t x lo' hi' none) (hx : absOpd x = some y) (hlo : absOptOpd lo' = some lo) (hhi : absOptOpd hi' = some hi)
    (hu : P.underlying t = some (.slice e)) (hz : zeroE P e = some zc)
    (h : stepA fl H (·.ev fr) (.sliceS zc.length y lo hi) = some (v, H')) : Stepped P o a base ρ w v H' := by
  have hvx := absOpd_VR hF hx
  obtain ⟨hz, hz0⟩ := zeroE_zeroA hz
  obtain ⟨i, zv, hi0, hzv, hzl, hL⟩ := zeroA_info hz
  have hs : sizeT P e = some zc.length := by simp [sizeT, hi0, hzl]
  simp only [stepA] at h
  split at h
  · rename_i b off n sz e1
    rw [e1] at hvx
    split at h
    · rename_i hh l h1 h2
      split at h
      · rename_i hle
        obtain ⟨rfl, hle⟩ := hle
        cases hc : hcells H b with
        | none => rw [hc] at h; cases h
        | some cs =>
          rw [hc] at h; simp at h
          obtain ⟨rfl, rfl⟩ := h
          rcases hH.at_slc hc hvx with ⟨g, f, c, k, hr, hu', hnk, hk, _⟩ | ⟨h0, ad, hu'⟩
          · obtain ⟨hb, hhn⟩ := bounds_run (P := P) (w := w) (isSlice := true) (cap := k) hF hlo hhi h1 h2 hle hnk
            refine Stepped.pure hH (u := .slice (if k = l then some ⟨g, f + off, none⟩ else some ⟨g, f + off + l * zc.length, none⟩) (hh - l) (k - l)) ?_ ?_
            · simp only [execOp, ho, Instr.sliceAt, run_underlying hu, Sem.run_bind, Result.andThen_ok, Instr.slice, hu', Option.map_none, hb, run_sizeOf hs]
              simp only [Sem.run_pure, Result.andThen_ok, Option.map_some, addr_add]
              all_goals (split <;> rfl)
            · simp only [VR, CR, hr]
              by_cases hkl : k = l
              · right
                refine ⟨by omega, some ⟨g, f + off, none⟩, ?_⟩
                rw [if_pos hkl]; congr 1 <;> omega
              · left
                refine ⟨k - l, ?_, by omega, ?_⟩
                · rw [if_neg hkl, Nat.add_assoc]
                · have : l * zc.length + (k - l) * zc.length = k * zc.length := by rw [← Nat.add_mul]; congr 1; omega
                  omega
          · subst h0
            obtain ⟨hb, hhn⟩ := bounds_run (P := P) (w := w) (isSlice := true) (cap := 0) hF hlo hhi h1 h2 hle (Nat.le_refl _)
            have hl0 : l = 0 := by omega
            have hh0 : hh = 0 := by omega
            subst hl0 hh0
            refine Stepped.pure hH (u := .slice ad 0 0) ?_ ?_
            · simp only [execOp, ho, Instr.sliceAt, run_underlying hu, Sem.run_bind, Result.andThen_ok, Instr.slice, hu', Option.map_none, hb, run_sizeOf hs]
              simp
            · simp only [VR, CR] at hvx ⊢
              rw [hu'] at hvx
              split at hvx <;> simp_all
      · cases h
    · cases h
  · rename_i e1
    rw [e1] at hvx
    have hvx : a.eval x = .slice none 0 0 := hvx
    split at h
    · rename_i hh l h1 h2
      split at h
      · rename_i hl
        simp at h
        obtain ⟨rfl, rfl⟩ := h
        have hl0 : l = 0 := by omega
        subst hl0
        obtain ⟨hb, hhn⟩ := bounds_run (P := P) (w := w) (isSlice := true) (cap := 0) hF hlo hhi h1 h2 (Nat.zero_le _) (Nat.le_refl _)
        have hh0 : hh = 0 := by omega
        subst hh0
        refine Stepped.pure hH (u := .slice none 0 0) ?_ rfl
        simp only [execOp, ho, Instr.sliceAt, run_underlying hu, Sem.run_bind, Result.andThen_ok, Instr.slice, hvx, Option.map_none, hb, run_sizeOf hs]
        simp
      · cases h
    · cases h
  · cases h

theorem mk_extract (s : List UInt8) (l h : Nat) : (⟨s.toArray⟩ : ByteArray).extract l h = ⟨((s.drop l).take (h - l)).toArray⟩ := by
  apply ByteArray.ext
  simp [ByteArray.data_extract, List.extract]

theorem st_sliceStr (hH : HR base ρ H w) (hF : FR ρ fr a.tmps) {t : TypeId} {x : Operand} {y : AOpd} {lo hi : Option AOpd} {lo' hi' : Option Operand} (ho : o.op = .slice t x lo' hi' none) (hx : absOpd x = some y) (hlo : absOptOpd lo' = some lo) (hhi : absOptOpd hi' = some hi)
    (hu : P.underlying t = some .string)
    (h : stepA fl H (·.ev fr) (.sliceStr y lo hi) = some (v, H')) : Stepped P o a base ρ w v H' := by
  have hvx := absOpd_VR hF hx
  simp only [stepA] at h
  split at h
  · rename_i s e1
    rw [e1] at hvx
    have hvx : a.eval x = .string ⟨s.toArray⟩ := hvx
    split at h
    · rename_i hh l h1 h2
      split at h
      · rename_i hle
        simp at h
        obtain ⟨rfl, rfl⟩ := h
        obtain ⟨hb, hhn⟩ := bounds_run (P := P) (w := w) (isSlice := false) (cap := s.length) hF hlo hhi h1 h2 hle (Nat.le_refl _)
        refine Stepped.pure hH (u := .string ⟨((s.drop l).take (hh - l)).toArray⟩) ?_ rfl
        simp only [execOp, ho, Instr.sliceAt, run_underlying hu, Sem.run_bind, Result.andThen_ok, Instr.slice, hvx, mk_size, Option.isSome, Bool.false_eq_true, if_false, Option.map_none, hb, mk_extract]
        rfl
      · cases h
    · cases h
  · cases h

theorem sliceArr_aux (hH : HR base ρ H w) {b off n l hh : Nat} {zc : List Cell} {cs : List Cell} {x : Value} (hv : CR ρ (.ptr b off) x) (hc : hcells H b = some cs) (hfit : off + n * zc.length ≤ cs.length) (hle : l ≤ hh) (hhn : hh ≤ n) :
    ∃ g f, x = .pointer (some ⟨g, f + off, none⟩) ∧ VR ρ (.c (.slc b (off + l * zc.length) (hh - l) zc.length)) (.slice (some (if n = l then (⟨g, f + off, none⟩ : Addr) else (⟨g, f + off, none⟩ : Addr).add (l * zc.length))) (hh - l) (n - l)) := by
  obtain ⟨g, f, c, hr, hu', arr, ty, fz, hg, hholds⟩ := hH.at_ptr hc hv
  refine ⟨g, f, hu', ?_⟩
  simp only [VR, CR, hr, addr_add]
  by_cases hnl : n = l
  · right
    refine ⟨by omega, some ⟨g, f + off, none⟩, ?_⟩
    rw [if_pos hnl]; congr 1 <;> omega
  · left
    refine ⟨n - l, ?_, by omega, ?_⟩
    · rw [if_neg hnl, Nat.add_assoc]
    · have h1 : l * zc.length + (n - l) * zc.length = n * zc.length := by rw [← Nat.add_mul]; congr 1; omega
      have hcap : cs.length ≤ c := by
        rcases hcells_some hc with hb | hb
        · exact (by
            obtain ⟨r, hr', hB⟩ := hH.reg hb
            rw [hr] at hr'
            injection hr' with hr'
            subst hr'
            simp only [BR] at hB
            exact hB.2.1)
        · obtain ⟨r, hr', hB⟩ := hH.reg hb
          rw [hr] at hr'
          injection hr' with hr'
          subst hr'
          simp only [BR] at hB
          obtain ⟨_, _, _, _, _, _, _, hcl, _⟩ := hB
          exact hcl
      omega

theorem st_sliceArr (hH : HR base ρ H w) (hF : FR ρ fr a.tmps) {t e : TypeId} {n : Nat} {x : Operand} {y : AOpd} {lo hi : Option AOpd} {lo' hi' : Option Operand} {zc : List Cell} (ho : o.op = .slice t x lo' hi' none) (hx : absOpd x = some y) (hlo : absOptOpd lo' = some lo) (hhi : absOptOpd hi' = some hi)
    (hu : P.underlying t = some (.array n e) ∨ ∃ t', P.underlying t = some (.pointer t') ∧ P.underlying t' = some (.array n e)) (hz : zeroE P e = some zc)
    (h : stepA fl H (·.ev fr) (.sliceArr n zc.length y lo hi) = some (v, H')) : Stepped P o a base ρ w v H' := by
  have hvx := absOpd_VR hF hx
  obtain ⟨hz, hz0⟩ := zeroE_zeroA hz
  obtain ⟨i, zv, hi0, hzv, hzl, hL⟩ := zeroA_info hz
  have hs : sizeT P e = some zc.length := by simp [sizeT, hi0, hzl]
  simp only [stepA] at h
  split at h
  · rename_i b off e1
    rw [e1] at hvx
    split at h
    · rename_i hh l cs h1 h2 hc
      split at h
      · rename_i hle
        simp at h
        obtain ⟨rfl, rfl⟩ := h
        obtain ⟨hb, hhn⟩ := bounds_run (P := P) (w := w) (isSlice := false) (cap := n) hF hlo hhi h1 h2 hle.1 (Nat.le_refl _)
        obtain ⟨g, f, hu', hV⟩ := sliceArr_aux hH hvx hc hle.2 hle.1 hhn
        refine Stepped.pure hH ?_ hV
        rcases hu with hu | ⟨t', hu, hut⟩
        · simp only [execOp, ho, Instr.sliceAt, run_underlying hu, Sem.run_bind, Result.andThen_ok, hu', Instr.sureAddr, Sem.run_pure, Option.map_none, hb, run_sizeOf hs]
        · simp only [execOp, ho, Instr.sliceAt, run_underlying hu, Sem.run_bind, Result.andThen_ok, Instr.slice, hu', asAddr, run_underlying hut, Sem.run_pure, Option.map_none, hb, run_sizeOf hs]
      · cases h
    · cases h
  · cases h

theorem st_fieldAddr (hH : HR base ρ H w) (hF : FR ρ fr a.tmps) {t : TypeId} {n : Nat} {x : Operand} {y : AOpd} {fs : Array Field} {fd : Field} {m : Nat} (ho : o.op = .fieldAddr t x n) (hx : absOpd x = some y) (hu : P.underlying t = some (.struct fs)) (hf : fs[n]? = some fd) (hs : sizeT P fd.type = some (m + 1))
    (h : stepA fl H (·.ev fr) (.fieldAddr fd.offset y) = some (v, H')) : Stepped P o a base ρ w v H' := by
  have hvx := absOpd_VR hF hx
  simp only [stepA] at h
  split at h
  · rename_i b off e1
    rw [e1] at hvx
    cases hc : hcells H b with
    | none => rw [hc] at h; cases h
    | some cs =>
    rw [hc] at h
    simp at h
    obtain ⟨rfl, rfl⟩ := h
    obtain ⟨g, f, c, hr, hu', _⟩ := hH.at_ptr hc hvx
    refine Stepped.pure hH (u := .pointer (some ⟨g, f + (off + fd.offset), none⟩)) ?_ (by simp [VR, CR, hr])
    simp [execOp, ho, Instr.fieldAt, run_underlying hu, hf, hu', Instr.sureAddr, fieldPlace, run_sizeOf hs, addr_add, Nat.add_assoc]
  · cases h

theorem st_field1 (hH : HR base ρ H w) (hF : FR ρ fr a.tmps) {t : TypeId} {n : Nat} {x : Operand} {y : AOpd} {fs : Array Field} {fd : Field} (ho : o.op = .field t x n) (hx : absOpd x = some y) (hu : P.underlying t = some (.struct fs)) (hf : fs[n]? = some fd) (hag : aggT P fd.type = some false)
    (h : stepA fl H (·.ev fr) (.field1 fd.offset y) = some (v, H')) : Stepped P o a base ρ w v H' := by
  have hvx := absOpd_VR hF hx
  simp only [stepA] at h
  split at h
  · rename_i cs e1
    rw [e1] at hvx
    obtain ⟨l, hu', hL⟩ := hvx
    cases hc : cs[fd.offset]? with
    | none => rw [hc] at h; cases h
    | some q =>
      rw [hc] at h; simp at h
      obtain ⟨rfl, rfl⟩ := h
      obtain ⟨u, h1, h2⟩ := hL.2 _ _ hc
      refine Stepped.pure hH (u := u) ?_ h2
      simp [execOp, ho, Instr.field, run_underlying hu, hf, hu', asAgg, part, run_isAgg hag, h1]
  · cases h

theorem st_fieldN (hH : HR base ρ H w) (hF : FR ρ fr a.tmps) {t : TypeId} {n m : Nat} {x : Operand} {y : AOpd} {fs : Array Field} {fd : Field} (ho : o.op = .field t x n) (hx : absOpd x = some y) (hu : P.underlying t = some (.struct fs)) (hf : fs[n]? = some fd) (hag : aggT P fd.type = some true) (hs : sizeT P fd.type = some m)
    (h : stepA fl H (·.ev fr) (.fieldN fd.offset m y) = some (v, H')) : Stepped P o a base ρ w v H' := by
  have hvx := absOpd_VR hF hx
  simp only [stepA] at h
  split at h
  · rename_i cs e1
    rw [e1] at hvx
    obtain ⟨l, hu', hL⟩ := hvx
    split at h
    · rename_i hle
      simp at h
      obtain ⟨rfl, rfl⟩ := h
      refine Stepped.pure hH (u := .agg (l.toArray.extract fd.offset (fd.offset + m))) ?_ ⟨(l.drop fd.offset).take m, ?_, (hL.drop _).take _⟩
      · simp [execOp, ho, Instr.field, run_underlying hu, hf, hu', asAgg, part, run_isAgg hag, run_sizeOf hs]
      · congr 1
        apply Array.ext'
        simp [List.extract]
    · cases h
  · cases h

theorem st_idxSlc (hH : HR base ρ H w) (hF : FR ρ fr a.tmps) {t e : TypeId} {z : Nat} {x q : Operand} {y p : AOpd} (ho : o.op = .indexAddr t x q) (hx : absOpd x = some y) (hq : absOpd q = some p) (hu : P.underlying t = some (.slice e)) (hs : sizeT P e = some z)
    (h : stepA fl H (·.ev fr) (.idxSlc z y p) = some (v, H')) : Stepped P o a base ρ w v H' := by
  have hvx := absOpd_VR hF hx
  have hvq := absOpd_VR hF hq
  simp only [stepA] at h
  split at h
  · rename_i b off n sz k i e1 e2
    rw [e1] at hvx; rw [e2] at hvq
    have hvq : a.eval q = .int k i := hvq
    split at h
    · rename_i hle
      obtain ⟨rfl, h0, h1⟩ := hle
      cases hc : hcells H b with
      | none => rw [hc] at h; cases h
      | some cs =>
      rw [hc] at h
      simp at h
      obtain ⟨rfl, rfl⟩ := h
      rcases hH.at_slc hc hvx with ⟨g, f, c, k', hr, hu', _⟩ | ⟨hn0, _⟩
      · refine Stepped.pure hH (u := .pointer (some ⟨g, f + (off + i.toNat * sz), none⟩)) ?_ (by simp [VR, CR, hr])
        simp [execOp, ho, Instr.indexAt, run_underlying hu, hu', hvq, asIntOf, h0, h1, run_sizeOf hs, addr_add, Nat.add_assoc]
      · omega
    · cases h
  · cases h

theorem st_idxArr (hH : HR base ρ H w) (hF : FR ρ fr a.tmps) {t e : TypeId} {z n : Nat} {x q : Operand} {y p : AOpd} (ho : o.op = .indexAddr t x q) (hx : absOpd x = some y) (hq : absOpd q = some p) (hu : P.underlying t = some (.array n e)) (hs : sizeT P e = some z)
    (h : stepA fl H (·.ev fr) (.idxArr n z y p) = some (v, H')) : Stepped P o a base ρ w v H' := by
  have hvx := absOpd_VR hF hx
  have hvq := absOpd_VR hF hq
  simp only [stepA] at h
  split at h
  · rename_i b off k i e1 e2
    rw [e1] at hvx; rw [e2] at hvq
    have hvq : a.eval q = .int k i := hvq
    split at h
    · rename_i hle
      obtain ⟨h0, h1⟩ := hle
      cases hc : hcells H b with
      | none => rw [hc] at h; cases h
      | some cs =>
      rw [hc] at h
      simp at h
      obtain ⟨rfl, rfl⟩ := h
      obtain ⟨g, f, c, hr, hu', _⟩ := hH.at_ptr hc hvx
      refine Stepped.pure hH (u := .pointer (some ⟨g, f + (off + i.toNat * z), none⟩)) ?_ (by simp [VR, CR, hr])
      simp [execOp, ho, Instr.indexAt, run_underlying hu, hu', hvq, asIntOf, h0, h1, Instr.sureAddr, run_sizeOf hs, addr_add, Nat.add_assoc]
    · cases h
  · cases h

theorem st_elemStr (hH : HR base ρ H w) (hF : FR ρ fr a.tmps) {t : TypeId} {x q : Operand} {y p : AOpd} (ho : o.op = .index t x q) (hx : absOpd x = some y) (hq : absOpd q = some p) (hu : P.underlying t = some .string)
    (h : stepA fl H (·.ev fr) (.elemStr y p) = some (v, H')) : Stepped P o a base ρ w v H' := by
  have hvx := absOpd_VR hF hx
  have hvq := absOpd_VR hF hq
  simp only [stepA] at h
  split at h
  · rename_i s k i e1 e2
    rw [e1] at hvx; rw [e2] at hvq
    have hvq : a.eval q = .int k i := hvq
    have hvx : a.eval x = .string ⟨s.toArray⟩ := hvx
    split at h
    · rename_i h0
      cases hc : s[i.toNat]? with
      | none => rw [hc] at h; cases h
      | some b =>
        rw [hc] at h; simp at h
        obtain ⟨rfl, rfl⟩ := h
        refine Stepped.pure hH (u := .int .u8 b.toNat) ?_ rfl
        have hget : (⟨s.toArray⟩ : ByteArray)[i.toNat]? = some b := by
          have hlt := (List.getElem?_eq_some_iff.1 hc).1
          rw [getElem?_pos (⟨s.toArray⟩ : ByteArray) i.toNat (by rw [mk_size]; exact hlt)]
          have := (List.getElem?_eq_some_iff.1 hc).2
          simp only [← this]; rfl
        simp [execOp, ho, Instr.index, run_underlying hu, hvx, hvq, asIntOf, h0, hget]
    · cases h
  · cases h

theorem st_elem1 (hH : HR base ρ H w) (hF : FR ρ fr a.tmps) {t e : TypeId} {n : Nat} {x q : Operand} {y p : AOpd} (ho : o.op = .index t x q) (hx : absOpd x = some y) (hq : absOpd q = some p) (hu : P.underlying t = some (.array n e)) (hag : aggT P e = some false) (hs : sizeT P e = some 1)
    (h : stepA fl H (·.ev fr) (.elem1 n y p) = some (v, H')) : Stepped P o a base ρ w v H' := by
  have hvx := absOpd_VR hF hx
  have hvq := absOpd_VR hF hq
  simp only [stepA] at h
  split at h
  · rename_i cs k i e1 e2
    rw [e1] at hvx; rw [e2] at hvq
    have hvq : a.eval q = .int k i := hvq
    obtain ⟨l, hu', hL⟩ := hvx
    split at h
    · rename_i hle
      cases hc : cs[i.toNat]? with
      | none => rw [hc] at h; cases h
      | some b =>
        rw [hc] at h; simp at h
        obtain ⟨rfl, rfl⟩ := h
        obtain ⟨u, h1, h2⟩ := hL.2 _ _ hc
        refine Stepped.pure hH (u := u) ?_ h2
        simp [execOp, ho, Instr.index, run_underlying hu, hu', hvq, asIntOf, hle.1, hle.2, part, run_isAgg hag, run_sizeOf hs, h1]
    · cases h
  · cases h

theorem st_elemN (hH : HR base ρ H w) (hF : FR ρ fr a.tmps) {t e : TypeId} {n z : Nat} {x q : Operand} {y p : AOpd} (ho : o.op = .index t x q) (hx : absOpd x = some y) (hq : absOpd q = some p) (hu : P.underlying t = some (.array n e)) (hag : aggT P e = some true) (hs : sizeT P e = some z)
    (h : stepA fl H (·.ev fr) (.elemN n z y p) = some (v, H')) : Stepped P o a base ρ w v H' := by
  have hvx := absOpd_VR hF hx
  have hvq := absOpd_VR hF hq
  simp only [stepA] at h
  split at h
  · rename_i cs k i e1 e2
    rw [e1] at hvx; rw [e2] at hvq
    have hvq : a.eval q = .int k i := hvq
    obtain ⟨l, hu', hL⟩ := hvx
    split at h
    · rename_i hle
      simp at h
      obtain ⟨rfl, rfl⟩ := h
      refine Stepped.pure hH (u := .agg (l.toArray.extract (i.toNat * z) (i.toNat * z + z))) ?_ ⟨(l.drop (i.toNat * z)).take z, ?_, (hL.drop _).take _⟩
      · simp [execOp, ho, Instr.index, run_underlying hu, hu', hvq, asIntOf, hle.1, hle.2.1, part, run_isAgg hag, run_sizeOf hs]
      · congr 1
        apply Array.ext'
        simp [List.extract]
    · cases h
  · cases h

theorem st_extract (hH : HR base ρ H w) (hF : FR ρ fr a.tmps) {n : Nat} {x : Operand} {y : AOpd} (ho : o.op = .extract x n) (hx : absOpd x = some y)
    (h : stepA fl H (·.ev fr) (.extract y n) = some (v, H')) : Stepped P o a base ρ w v H' := by
  have hvx := absOpd_VR hF hx
  simp only [stepA] at h
  split at h
  · rename_i vs e1
    rw [e1] at hvx
    obtain ⟨l, hu', hL⟩ := hvx
    split at h
    · rename_i q hc
      simp only [Option.some.injEq, Prod.mk.injEq] at h
      obtain ⟨rfl, rfl⟩ := h
      obtain ⟨u, h1, h2⟩ := hL.2 _ _ hc
      refine Stepped.pure hH (u := u) ?_ h2
      simp [execOp, ho, Instr.extract, hu', h1]
    · rename_i q hc
      simp only [Option.some.injEq, Prod.mk.injEq] at h
      obtain ⟨rfl, rfl⟩ := h
      obtain ⟨u, h1, h2⟩ := hL.2 _ _ hc
      refine Stepped.pure hH (u := u) ?_ h2
      simp [execOp, ho, Instr.extract, hu', h1]
    · cases h
  · cases h
end steps
end PAbs
