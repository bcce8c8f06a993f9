/- Texts of this claim, put together: Ops2 Ops3. -/
import Derived.Test.YtkmclhpnakphfaaG0
import Derived.Laws.CopyOwn
import Derived.Laws.MakeOwn
import Derived.Laws.Strings
/- Each operation of the abstract machine, against the model's own: the steps, one by one. -/
namespace PAbs
open Go Go.RowKit
set_option linter.unusedSimpArgs false
set_option linter.unusedVariables false

section steps
variable {P : Program} {o : Oper} {a : Act} {base fl : Nat} {ρ : List Reg} {H H' : AHeap} {w : World} {fr : AFrame} {v : AV}

theorem st_mv (hH : HR base ρ H w) (hF : FR ρ fr a.tmps) {x : Operand} {y : AOpd} (ho : o.op = .move x ∨ o.op = .assign x) (hx : absOpd x = some y)
    (h : stepA fl H (·.ev fr) (.mv y) = some (v, H')) : Stepped P o a base ρ w v H' := by
  have h : v = y.ev fr ∧ H' = H := by
    simp only [stepA] at h
    split at h <;> (simp only [Option.some.injEq, Prod.mk.injEq] at h; exact ⟨by simp_all, h.2.symm⟩)
  obtain ⟨rfl, rfl⟩ := h
  exact Stepped.pure hH (by rcases ho with ho | ho <;> simp [execOp, ho]) (absOpd_VR hF hx)

theorem VR_bool {x : AV} {u : Value} {b : Bool} (h : VR ρ x u) (e : x = .c (.bool b)) : u = .bool b := by subst e; exact h
theorem VR_int {x : AV} {u : Value} {k : IntKind} {n : Int} (h : VR ρ x u) (e : x = .c (.int k n)) : u = .int k n := by subst e; exact h

theorem st_pick (hH : HR base ρ H w) (hF : FR ρ fr a.tmps) {c x y : Operand} {c' x' y' : AOpd} (ho : o.op = .pick c x y) (hc : absOpd c = some c') (hx : absOpd x = some x') (hy : absOpd y = some y')
    (h : stepA fl H (·.ev fr) (.pick c' x' y') = some (v, H')) : Stepped P o a base ρ w v H' := by
  have hvc := absOpd_VR hF hc
  have hvx := absOpd_VR hF hx
  have hvy := absOpd_VR hF hy
  simp only [stepA] at h
  split at h
  · rename_i ht
    have h : v = x'.ev fr ∧ H' = H := by
      split at h <;> (simp only [Option.some.injEq, Prod.mk.injEq] at h; exact ⟨by simp_all, h.2.symm⟩)
    obtain ⟨rfl, rfl⟩ := h
    rw [ht] at hvc
    have hvc : a.eval c = .bool true := hvc
    exact Stepped.pure hH (u := a.eval x) (by simp [execOp, ho, hvc, asBool]) hvx
  · rename_i ht
    have h : v = y'.ev fr ∧ H' = H := by
      split at h <;> (simp only [Option.some.injEq, Prod.mk.injEq] at h; exact ⟨by simp_all, h.2.symm⟩)
    obtain ⟨rfl, rfl⟩ := h
    rw [ht] at hvc
    have hvc : a.eval c = .bool false := hvc
    exact Stepped.pure hH (u := a.eval y) (by simp [execOp, ho, hvc, asBool]) hvy
  · cases h

theorem L2.take_self {cs : List Cell} {l : List Value} (h : L2 (CR ρ) cs l) : L2 (CR ρ) cs (l.take cs.length) := by
  rw [show l.take cs.length = l by rw [h.1]; exact List.take_length]; exact h

theorem ptr_new (ρ : List Reg) (H : AHeap) (hl : ρ.length = H.length) (g c : Nat) : VR (ρ ++ [.at g 0 c]) (.c (.ptr H.length 0)) (.pointer (some ⟨g, 0, none⟩)) := by
  simp [VR, CR, ← hl]

theorem st_alloc (hH : HR base ρ H w) {t : TypeId} {z : List Cell} (ho : o.op = .alloc t) (hz : zeroA P t = some z)
    (h : stepA fl H (·.ev fr) (.alloc z) = some (v, H')) : Stepped P o a base ρ w v H' := by
  simp [stepA] at h
  obtain ⟨rfl, rfl⟩ := h
  obtain ⟨i, zv, hi, hzv, hl, hL⟩ := zeroA_info hz
  have hL := hL ρ
  have hlen : zv.cells.size = z.length := by have := hL.1; simpa using this.symm
  refine Stepped.new hH (.inl rfl) (l := zv.cells.toList) (ty := t) (c := z.length) hL.take_self (by simp [hlen]) (Nat.le_refl _) (u := .pointer (some ⟨w.heap.size, 0, none⟩)) ?_ (ptr_new ρ H hH.len _ _)
  simp [execOp, ho, Instr.alloc, run_zeroValue hi hzv, newVar, newRow]

theorem st_box (hH : HR base ρ H w) (hF : FR ρ fr a.tmps) {t : TypeId} {x : Operand} {y : AOpd} (ho : o.op = .box t x) (hx : absOpd x = some y)
    (h : stepA fl H (·.ev fr) (.box y) = some (v, H')) : Stepped P o a base ρ w v H' := by
  have hv := absOpd_VR hF hx
  simp only [stepA] at h
  split at h
  · rename_i cs hcs
    simp at h
    obtain ⟨rfl, rfl⟩ := h
    have hL := hv.cells hcs
    have hlen : (a.eval x).cells.size = cs.length := by have := hL.1; simpa using this.symm
    refine Stepped.new hH (.inl rfl) (l := (a.eval x).cells.toList) (ty := t) (c := cs.length) hL.take_self (by simp [hlen]) (Nat.le_refl _) (u := .pointer (some ⟨w.heap.size, 0, none⟩)) ?_ (ptr_new ρ H hH.len _ _)
    simp [execOp, ho, Instr.box, newVar, newRow]
  · cases h

theorem fieldPlaces_run {fs : List Field} {pl : List (Nat × Nat)} (h : fieldPlaces P fs = some pl) (w : World) :
    (fs.toArray.mapM (fun f => (do pure (f.offset, ← Go.sizeOf f.type) : Sem (Nat × Nat)))).run P w = .ok pl.toArray w := by
  rw [List.mapM_toArray]
  have key : ∀ (fs : List Field) (pl : List (Nat × Nat)), fieldPlaces P fs = some pl → (fs.mapM (fun f => (do pure (f.offset, ← Go.sizeOf f.type) : Sem (Nat × Nat)))).run P w = .ok pl w := by
    intro fs
    induction fs with
    | nil => intro pl h; simp [fieldPlaces, optMap] at h; subst h; rfl
    | cons f r ih =>
      intro pl h
      simp only [fieldPlaces, optMap] at h
      split at h
      · rename_i b l' h1 h2
        have e : b :: l' = pl := by simpa using h
        subst e
        cases hs : sizeT P f.type with
        | none => rw [hs] at h1; cases h1
        | some n =>
          rw [hs] at h1
          simp at h1
          subst h1
          simp only [List.mapM_cons, Sem.run_bind, run_sizeOf hs, Result.andThen_ok, Sem.run_pure, ih l' h2]
      · cases h
  rw [Sem.run_map, key fs pl h]
  rfl

theorem st_buildStruct (hH : HR base ρ H w) (hF : FR ρ fr a.tmps) {t : TypeId} {ps : Array (Nat × Operand)} {z : List Cell} {fs : Array Field} {pl : List (Nat × Nat)} {l : List (Nat × Nat × AOpd)} (ho : o.op = .build t ps)
    (hz : zeroA P t = some z) (hu : P.underlying t = some (.struct fs)) (hpl : fieldPlaces P fs.toList = some pl) (hp : absParts (pl[·]?) ps.toList = some l)
    (h : stepA fl H (·.ev fr) (.build z l) = some (v, H')) : Stepped P o a base ρ w v H' := by
  simp only [stepA] at h
  split at h
  · rename_i cs hf
    simp at h
    obtain ⟨rfl, rfl⟩ := h
    obtain ⟨i, zv, hi, hzv, hl, hL⟩ := zeroA_info hz
    obtain ⟨arr', ha, hL'⟩ := fill_sound hF (pl[·]?) ps.toList l z cs zv.cells hp hf (hL ρ)
    have hfp := fieldPlaces_run hpl w
    refine Stepped.pure hH (u := .agg arr') ?_ ⟨arr'.toList, by simp, hL'⟩
    simp only [execOp, ho, Instr.build, Sem.run_bind, run_zeroValue hi hzv, Result.andThen_ok, run_underlying hu]
    rw [show fs = fs.toList.toArray by simp, hfp]
    simp only [Result.andThen_ok]
    have : (Instr.fill (fun x => pl.toArray[x]?) zv.cells (Array.map (fun x => (x.fst, a.eval x.snd)) ps).toList) = some arr' := by
      rw [← ha]; simp
    rw [this]
    rfl
  · cases h

theorem st_buildArray (hH : HR base ρ H w) (hF : FR ρ fr a.tmps) {t e : TypeId} {n m : Nat} {ps : Array (Nat × Operand)} {z : List Cell} {l : List (Nat × Nat × AOpd)} (ho : o.op = .build t ps)
    (hz : zeroA P t = some z) (hu : P.underlying t = some (.array m e)) (hn : sizeT P e = some n) (hp : absParts (fun i => some (i * n, n)) ps.toList = some l)
    (h : stepA fl H (·.ev fr) (.build z l) = some (v, H')) : Stepped P o a base ρ w v H' := by
  simp only [stepA] at h
  split at h
  · rename_i cs hf
    simp at h
    obtain ⟨rfl, rfl⟩ := h
    obtain ⟨i, zv, hi, hzv, hl, hL⟩ := zeroA_info hz
    obtain ⟨arr', ha, hL'⟩ := fill_sound hF _ ps.toList l z cs zv.cells hp hf (hL ρ)
    refine Stepped.pure hH (u := .agg arr') ?_ ⟨arr'.toList, by simp, hL'⟩
    simp only [execOp, ho, Instr.build, Sem.run_bind, run_zeroValue hi hzv, Result.andThen_ok, run_underlying hu, run_sizeOf hn]
    have : (Instr.fill (fun i => some (i * n, n)) zv.cells (Array.map (fun x => (x.fst, a.eval x.snd)) ps).toList) = some arr' := by
      rw [← ha]; simp
    rw [this]
    rfl
  · cases h

theorem flat_get {α : Type} (z : List α) (d : α) : ∀ (n i : Nat), i < n * z.length → ((List.replicate n z).flatten)[i]? = some (z[i % z.length]?.getD d)
  | 0, i, h => by simp at h
  | n + 1, i, h => by
    have hz : 0 < z.length := by
      rcases Nat.eq_zero_or_pos z.length with h0 | h0
      · rw [h0] at h; simp at h
      · exact h0
    rw [List.replicate_succ, List.flatten_cons, List.getElem?_append]
    by_cases hi : i < z.length
    · rw [if_pos hi, Nat.mod_eq_of_lt hi, List.getElem?_eq_getElem hi]; rfl
    · have e : i % z.length = (i - z.length) % z.length := Nat.mod_eq_sub_mod (by omega)
      rw [if_neg hi, flat_get z d n (i - z.length) (by have := Nat.add_mul n 1 z.length; omega), e]

theorem flat_length {α : Type} (z : List α) (n : Nat) : ((List.replicate n z).flatten).length = n * z.length := by
  induction n with
  | zero => simp
  | succ n ih => rw [List.replicate_succ, List.flatten_cons, List.length_append, ih, Nat.succ_mul]; omega

/-- so many zero elements, cell by cell -/
theorem flat_rel {z : List Cell} {zv : Array Value} (h : L2 (CR ρ) z zv.toList) (hz : 0 < z.length) (n m : Nat) (hm : m = n * z.length) :
    L2 (CR ρ) (List.replicate n z).flatten ((Array.range m).map (zv[· % zv.size]!)).toList := by
  have hsz : zv.size = z.length := by have := h.1; simpa using this.symm
  refine ⟨by rw [flat_length]; simp [hm], fun i x hx => ?_⟩
  have hi : i < n * z.length := by have := (List.getElem?_eq_some_iff.1 hx).1; rwa [flat_length] at this
  rw [flat_get z default n i hi] at hx
  have hmod : i % z.length < z.length := Nat.mod_lt _ hz
  rw [List.getElem?_eq_getElem hmod] at hx
  obtain ⟨y, hy, hR⟩ := h.2 _ _ (List.getElem?_eq_getElem hmod)
  have hx : x = z[i % z.length] := by simpa using hx.symm
  subst hx
  refine ⟨y, ?_, hR⟩
  have hlt : i % zv.size < zv.size := by rw [hsz]; exact hmod
  have hy2 : zv[i % zv.size]? = some y := by rw [hsz]; simpa using hy
  simp only [Array.toList_map, Array.toList_range, List.getElem?_map]
  rw [List.getElem?_range (by omega)]
  simp only [Option.map_some]
  rw [getElem!_pos zv _ hlt]
  rw [Array.getElem?_eq_getElem hlt] at hy2
  exact hy2

theorem slc_new (ρ : List Reg) (H : AHeap) (hl : ρ.length = H.length) (g c n k sz : Nat) (hnk : n ≤ k) (hk : k * sz ≤ c) : VR (ρ ++ [.at g 0 c]) (.c (.slc H.length 0 n sz)) (.slice (some ⟨g, 0, none⟩) n k) := by
  simp only [VR, CR, ← hl]
  rw [List.getElem?_append_right (Nat.le_refl _)]
  simp
  exact .inl ⟨hnk, hk⟩

theorem st_buildSlice (hH : HR base ρ H w) (hF : FR ρ fr a.tmps) {t e : TypeId} {len : Nat} {ps : Array (Nat × Operand)} {z : List Cell} {l : List (Nat × Nat × AOpd)} (ho : o.op = .buildSlice t len ps)
    (hu : P.underlying t = some (.slice e)) (hz : zeroE P e = some z) (hle : len * z.length ≤ 16777216) (hp : absParts (fun i => some (i * z.length, z.length)) ps.toList = some l)
    (h : stepA fl H (·.ev fr) (.buildSlice (List.replicate len z).flatten z.length len l) = some (v, H')) : Stepped P o a base ρ w v H' := by
  simp only [stepA] at h
  split at h
  · rename_i cs hf
    simp at h
    obtain ⟨rfl, rfl⟩ := h
    obtain ⟨hz, hz0⟩ := zeroE_zeroA hz
    obtain ⟨i, zv, hi, hzv, hl, hL⟩ := zeroA_info hz
    have hs : sizeT P e = some z.length := by simp [sizeT, hi, hl]
    have hrow : ∃ row : Array Value, L2 (CR ρ) (List.replicate len z).flatten row.toList ∧
        ((len * z.length = 0 ∧ row = (Array.range (len * z.length)).map ((#[] : Array Value)[· % (#[] : Array Value).size]!)) ∨ (¬ len * z.length = 0 ∧ row = (Array.range (len * z.length)).map (zv.cells[· % zv.cells.size]!))) := by
      by_cases h0 : len * z.length = 0
      · refine ⟨#[], ?_, .inl ⟨h0, by simp [h0]⟩⟩
        have : len = 0 := by rcases Nat.mul_eq_zero.1 h0 with h | h <;> omega
        subst this; simp; exact L2.nil
      · exact ⟨_, flat_rel (hL ρ) hz0 len _ rfl, .inr ⟨h0, rfl⟩⟩
    obtain ⟨row, hrow, hr1⟩ := hrow
    obtain ⟨arr', ha, hL'⟩ := fill_sound hF _ ps.toList l _ cs row hp hf hrow
    have hlen : arr'.size = cs.length := by have := hL'.1; simpa using this.symm
    have hcl : cs.length = len * z.length := by
      have key : ∀ (l : List (Nat × Nat × AV)) (c c' : List Cell), fillA c l = some c' → c'.length = c.length := by
        intro l
        induction l with
        | nil => intro c c' h; simp [fillA] at h; subst h; rfl
        | cons p r ih =>
          intro c c' h
          obtain ⟨o, n, x⟩ := p
          simp only [fillA] at h
          split at h
          · split at h
            · rename_i q hq hc
              rw [ih _ _ h]
              simp only [List.length_append, List.length_take, List.length_drop]; omega
            · cases h
          · cases h
      rw [key _ _ _ hf, flat_length]
    refine Stepped.new hH (.inl rfl) (l := arr'.toList) (ty := e) (c := cs.length) hL'.take_self (by simp [hlen]) (Nat.le_refl _) (u := .slice (some ⟨w.heap.size, 0, none⟩) len len) ?_
      (slc_new ρ H hH.len _ _ _ _ _ (Nat.le_refl _) (by omega))
    simp only [execOp, ho, Instr.buildSlice, Sem.run_bind, Result.andThen_ok, run_underlying hu, run_sizeOf hs]
    rw [if_neg (by simp; omega)]
    have hfill : (Instr.fill (fun i => some (i * z.length, z.length)) row (Array.map (fun x => (x.fst, a.eval x.snd)) ps).toList) = some arr' := by
      rw [← ha]; simp
    rcases hr1 with ⟨h0, rfl⟩ | ⟨h0, rfl⟩
    · rw [if_pos h0]
      simp only [Sem.run_bind, Sem.run_pure, Result.andThen_ok, hfill]
      simp [newRow]
    · rw [if_neg h0]
      simp only [Sem.run_bind, Sem.run_pure, Result.andThen_ok, run_zeroValue hi hzv, hfill]
      simp [newRow]
  · cases h

theorem st_load1 (hH : HR base ρ H w) (hF : FR ρ fr a.tmps) {t : TypeId} {x : Operand} {y : AOpd} (ho : o.op = .load t x) (hx : absOpd x = some y) (hag : aggT P t = some false)
    (h : stepA fl H (·.ev fr) (.load1 y) = some (v, H')) : Stepped P o a base ρ w v H' := by
  have hv := absOpd_VR hF hx
  simp only [stepA] at h
  split at h
  · rename_i b off hy
    rw [hy] at hv
    split at h
    · rename_i cs hcs
      obtain ⟨g, f, c, hr, hu, arr, ty, fz, hg, hh⟩ := hH.at_ptr hcs hv
      cases hc : cs[off]? with
      | none => rw [hc] at h; cases h
      | some cell =>
        rw [hc] at h
        simp at h
        obtain ⟨rfl, rfl⟩ := h
        obtain ⟨u, h1, h2⟩ := hh _ _ hc
        refine Stepped.pure hH (u := u) ?_ h2
        simp [execOp, ho, Instr.loadAt, hu, Instr.sureAddr, run_loadVar1 hag ((cell_of hg).trans h1)]
    · cases h
  · cases h

theorem readN_run (hH : HR base ρ H w) {b off n : Nat} {cs : List Cell} {u : Value} (hv : CR ρ (.ptr b off) u) (hc : readN H b off n = some cs) :
    ∃ g f, u = .pointer (some ⟨g, f + off, none⟩) ∧ ∃ l : List Value, L2 (CR ρ) cs l ∧ l.length = n ∧ ∀ (j : Nat) v, l[j]? = some v → w.cell? ((⟨g, f + off, none⟩ : Addr).add j) = some v := by
  simp only [readN] at hc
  split at hc
  · rename_i bs hb
    split at hc
    · rename_i hle
      have e : (bs.drop off).take n = cs := by simpa using hc
      subst e
      obtain ⟨g, f, c, hr, hu, arr, ty, fz, hg, hh⟩ := hH.at_ptr hb hv
      obtain ⟨l, hl, hll, hcell⟩ := hH.reads hr hg hh hle
      exact ⟨g, f, hu, l, hl, hll, hcell⟩
    · cases hc
  · cases hc

theorem st_loadN (hH : HR base ρ H w) (hF : FR ρ fr a.tmps) {t : TypeId} {x : Operand} {y : AOpd} {n : Nat} (ho : o.op = .load t x) (hx : absOpd x = some y) (hag : aggT P t = some true) (hn : sizeT P t = some n)
    (h : stepA fl H (·.ev fr) (.loadN n y) = some (v, H')) : Stepped P o a base ρ w v H' := by
  have hv := absOpd_VR hF hx
  simp only [stepA] at h
  split at h
  · rename_i b off hy
    rw [hy] at hv
    cases hc : readN H b off n with
    | none => rw [hc] at h; cases h
    | some cs =>
      rw [hc] at h
      simp at h
      obtain ⟨rfl, rfl⟩ := h
      obtain ⟨g, f, hu, l, hl, hll, hcell⟩ := readN_run hH hv hc
      refine Stepped.pure hH (u := .agg l.toArray) ?_ ⟨l, rfl, hl⟩
      simp [execOp, ho, Instr.loadAt, hu, Instr.sureAddr, run_loadVarN hag (hn.trans (by rw [hll])) hcell]
  · cases h

theorem writeN_own {b off : Nat} {vs : List Cell} (hw : writeN fl H b off vs = some H') :
    ∃ cs, H[b]? = some (.own cs) ∧ off + vs.length ≤ cs.length ∧ H' = H.set b (.own (cs.take off ++ vs ++ cs.drop (off + vs.length))) := by
  simp only [writeN] at hw
  split at hw
  · rename_i cs hcs
    split at hw
    · rename_i hle
      exact ⟨cs, hown_some hcs, hle.2, by simpa using hw.symm⟩
    · cases hw
  · cases hw

theorem hown_hcells {b : Nat} {cs : List Cell} (h : H[b]? = some (.own cs)) : hcells H b = some cs := by simp [hcells, h]

/-- a row of cells written at a place of an own block -/
theorem write_run (hH : HR base ρ H w) {b off : Nat} {vs : List Cell} {l : List Value} {g f c : Nat} {cs : List Cell} (hb : H[b]? = some (.own cs)) (hle : off + vs.length ≤ cs.length) (hr : ρ[b]? = some (.at g f c)) (hl : L2 (CR ρ) vs l) :
    ∃ w', (storeCells ⟨g, f + off, none⟩ l).run P w = .ok () w' ∧ HR base ρ (H.set b (.own (cs.take off ++ vs ++ cs.drop (off + vs.length)))) w' ∧ Below base w w' := by
  have hB := hH.blk b _ _ hb hr
  simp only [BR] at hB
  obtain ⟨hbase, arr, ty, fz, hg, hz, hfc, hcl, hh⟩ := hB
  have hrun := run_storeCells_thawed P g (f + off) ty fz l 0 arr w hg hz (by have := hl.1; omega) hl.one
  refine ⟨_, hrun, hH.write hb hr hg hl hle, ?_⟩
  exact below_setRow (Below.refl _ _) hbase _

theorem st_store (hH : HR base ρ H w) (hF : FR ρ fr a.tmps) {t : TypeId} {x z : Operand} {y q : AOpd} {n : Nat} (ho : o.op = .store t x z) (hx : absOpd x = some y) (hz : absOpd z = some q) (hn : sizeT P t = some n)
    (h : stepA fl H (·.ev fr) (.store n y q) = some (v, H')) : Stepped P o a base ρ w v H' := by
  have hv := absOpd_VR hF hx
  have hvz := absOpd_VR hF hz
  simp only [stepA] at h
  split at h
  · rename_i b off vs hy hq
    rw [hy] at hv
    split at h
    · rename_i hlen
      cases hw : writeN fl H b off vs with
      | none => rw [hw] at h; cases h
      | some H1 =>
        rw [hw] at h
        simp at h
        obtain ⟨rfl, rfl⟩ := h
        obtain ⟨cs, hb, hle, rfl⟩ := writeN_own hw
        obtain ⟨g, f, c, hr, hu, _⟩ := hH.at_ptr (hown_hcells hb) hv
        have hL := hvz.cells hq
        obtain ⟨w', hrun, hH', hB⟩ := write_run (P := P) hH hb hle hr hL
        refine ⟨undef, w', ρ, .inr ⟨?_, rfl⟩, hH', RExt.refl ρ, VR.undef ρ, hB⟩
        have hsz : (a.eval z).cells.size = n := by have := hL.1; rw [← hlen]; simpa using this.symm
        simp only [execOp, ho, Instr.storeAt, hu, Instr.sureAddr, Sem.run_bind, Sem.run_pure, Result.andThen_ok, storeVar, run_sizeOf hn, hsz]
        simp [hrun]
    · cases h
  · cases h

theorem st_nilCheck (hH : HR base ρ H w) (hF : FR ρ fr a.tmps) {x : Operand} {y : AOpd} (ho : o.op = .nilCheck x) (hx : absOpd x = some y)
    (h : stepA fl H (·.ev fr) (.nilCheck y) = some (v, H')) : Stepped P o a base ρ w v H' := by
  have hv := absOpd_VR hF hx
  simp only [stepA] at h
  split at h
  · rename_i b off hy
    rw [hy] at hv
    cases hc : hcells H b with
    | none => rw [hc] at h; cases h
    | some cs =>
      rw [hc] at h
      simp at h
      obtain ⟨rfl, rfl⟩ := h
      obtain ⟨g, f, c, hr, hu, _⟩ := hH.at_ptr hc hv
      exact Stepped.pure hH (u := a.eval x) (by simp [execOp, ho, hu]) hv
  · cases h

theorem bits_run (op : BinOp) (k : IntKind) (a b : Int) (hop : op = .and ∨ op = .or ∨ op = .xor ∨ op = .andNot) (w : World) : (Op.intBits op k a b).run P w = .ok (.int k (bitsA op k a b)) w := by
  rcases hop with rfl | rfl | rfl | rfl <;> rfl

theorem binInt_run {op : BinOp} {k k' : IntKind} {x y : Int} {c : Cell} (hk : k = k' ∨ op = .shl ∨ op = .shr) (h : binInt op k x y = some c) (t : TypeId) (w : World) :
    ∃ u, (binOp op t (.int k x) (.int k' y)).run P w = .ok u w ∧ CR ρ c u := by
  cases op <;> simp only [binInt] at h
  case shl =>
    split at h
    · cases h
    · rename_i hy; simp at h; subst h
      exact ⟨_, by simp [binOp, Op.shift, hy] <;> rfl, rfl⟩
  case shr =>
    split at h
    · cases h
    · rename_i hy; simp at h; subst h
      exact ⟨_, by simp [binOp, Op.shift, hy] <;> rfl, rfl⟩
  case quo =>
    obtain rfl : k = k' := by simpa using hk
    split at h
    · cases h
    · rename_i hy; simp at h; subst h
      exact ⟨_, by simp [binOp, Op.intDiv, hy] <;> rfl, rfl⟩
  case rem =>
    obtain rfl : k = k' := by simpa using hk
    split at h
    · cases h
    · rename_i hy; simp at h; subst h
      exact ⟨_, by simp [binOp, Op.intDiv, hy] <;> rfl, rfl⟩
  all_goals
    obtain rfl : k = k' := by simpa using hk
    simp at h; subst h
    first
      | exact ⟨_, by simp [binOp, Op.intArith] <;> rfl, rfl⟩
      | exact ⟨_, by simp [binOp, Op.intCmp] <;> rfl, rfl⟩
      | exact ⟨_, by simp only [binOp, ne_eq, not_true_eq_false, if_false]; exact bits_run _ _ _ _ (by simp) w, rfl⟩

theorem toList_mk (s : List UInt8) : (⟨s.toArray⟩ : ByteArray).toList = s := by
  rw [ByteArray.toList_eq]

end steps
end PAbs

/- Each operation of the abstract machine, against the model's own: numbers, texts, slices. -/
namespace PAbs
open Go Go.RowKit
set_option linter.unusedSimpArgs false
set_option linter.unusedVariables false

section steps
variable {P : Program} {o : Oper} {a : Act} {base fl : Nat} {ρ : List Reg} {H H' : AHeap} {w : World} {fr : AFrame} {v : AV}

theorem mk_append (x y : List UInt8) : (⟨x.toArray⟩ : ByteArray) ++ ⟨y.toArray⟩ = ⟨(x ++ y).toArray⟩ := by
  apply ByteArray.ext
  simp

theorem mk_size (x : List UInt8) : (⟨x.toArray⟩ : ByteArray).size = x.length := by simp [ByteArray.size]

theorem binStr_run {op : BinOp} {x y : List UInt8} {c : Cell} (h : binStr op x y = some c) (t : TypeId) (w : World) :
    ∃ u, (binOp op t (.string ⟨x.toArray⟩) (.string ⟨y.toArray⟩)).run P w = .ok u w ∧ CR ρ c u := by
  cases op <;> simp only [binStr] at h <;> try (cases h; done)
  case add =>
    split at h
    · rename_i hle
      simp at h; subst h
      refine ⟨_, ?_, rfl⟩
      simp only [binOp, Op.stringOp, mk_size]
      rw [if_neg (by simp [IntKind.max, IntKind.signed, IntKind.bits]; omega), mk_append]
      rfl
    · cases h
  all_goals
    simp at h; subst h
    exact ⟨_, by simp [binOp, Op.stringOp, toList_mk] <;> rfl, rfl⟩

theorem eqGuard_plain {op : BinOp} {t : TypeId} {x y : Operand} {u v : Value} (hu : (∃ k n, u = .int k n) ∨ (∃ s, u = .string s) ∨ (∃ b, u = .bool b) ∨ (∃ p, u = .pointer p) ∨ (∃ p n c, u = .slice p n c)) (w : World) :
    (eqGuard op t x y u v).run P w = .ok () w := by
  rcases hu with ⟨k, n, rfl⟩ | ⟨s, rfl⟩ | ⟨b, rfl⟩ | ⟨p, rfl⟩ | ⟨p, n, c, rfl⟩ <;> cases op <;> rfl

theorem st_bin (hH : HR base ρ H w) (hF : FR ρ fr a.tmps) {op : BinOp} {t u : TypeId} {x z : Operand} {y q : AOpd} (ho : o.op = .binOp op t x z u) (hx : absOpd x = some y) (hz : absOpd z = some q)
    (h : stepA fl H (·.ev fr) (.bin op y q) = some (v, H')) : Stepped P o a base ρ w v H' := by
  have hvx := absOpd_VR hF hx
  have hvz := absOpd_VR hF hz
  simp only [stepA] at h
  cases hb : binA op (y.ev fr) (q.ev fr) with
  | none => rw [hb] at h; cases h
  | some c =>
    rw [hb] at h
    simp at h
    obtain ⟨rfl, rfl⟩ := h
    unfold binA at hb
    split at hb
    · rename_i k n k' n' e1 e2
      rw [e1] at hvx; rw [e2] at hvz
      have hvx : a.eval x = .int k n := hvx
      have hvz : a.eval z = .int k' n' := hvz
      split at hb
      · rename_i hk
        obtain ⟨r, hr, hc⟩ := binInt_run (P := P) (ρ := ρ) hk hb t w
        refine Stepped.pure hH (u := r) ?_ hc
        simp only [execOp, ho, Sem.run_bind, hvx, hvz, eqGuard_plain (.inl ⟨k, n, rfl⟩), Result.andThen_ok, hr]
        rfl
      · cases hb
    · rename_i s s' e1 e2
      rw [e1] at hvx; rw [e2] at hvz
      have hvx : a.eval x = .string ⟨s.toArray⟩ := hvx
      have hvz : a.eval z = .string ⟨s'.toArray⟩ := hvz
      obtain ⟨r, hr, hc⟩ := binStr_run (P := P) (ρ := ρ) hb t w
      refine Stepped.pure hH (u := r) ?_ hc
      simp only [execOp, ho, Sem.run_bind, hvx, hvz, eqGuard_plain (.inr (.inl ⟨_, rfl⟩)), Result.andThen_ok, hr]
      rfl
    · cases hb

theorem st_un (hH : HR base ρ H w) (hF : FR ρ fr a.tmps) {op : UnOp} {t : TypeId} {x : Operand} {y : AOpd} (ho : o.op = .unOp op t x) (hx : absOpd x = some y)
    (h : stepA fl H (·.ev fr) (.un op y) = some (v, H')) : Stepped P o a base ρ w v H' := by
  have hvx := absOpd_VR hF hx
  simp only [stepA] at h
  cases hb : unA op (y.ev fr) with
  | none => rw [hb] at h; cases h
  | some c =>
    rw [hb] at h
    simp at h
    obtain ⟨rfl, rfl⟩ := h
    unfold unA at hb
    split at hb
    · rename_i k n e
      rw [e] at hvx
      have hvx : a.eval x = .int k n := hvx
      simp at hb; subst hb
      exact Stepped.pure hH (u := .int k (k.wrap (-n))) (by simp [execOp, ho, hvx, Op.unary, Op.intArith]) rfl
    · rename_i k n e
      rw [e] at hvx
      have hvx : a.eval x = .int k n := hvx
      simp at hb; subst hb
      exact Stepped.pure hH (u := .int k (bitsA .xor k (if k.signed then -1 else k.max) n)) (by simp only [execOp, ho, hvx, Op.unary, Sem.run_bind]; rw [bits_run _ _ _ _ (by simp) w]; rfl) rfl
    · rename_i b e
      rw [e] at hvx
      have hvx : a.eval x = .bool b := hvx
      simp at hb; subst hb
      exact Stepped.pure hH (u := .bool (!b)) (by simp [execOp, ho, hvx, Op.unary]) rfl
    · cases hb

theorem st_convInt (hH : HR base ρ H w) (hF : FR ρ fr a.tmps) {s t : TypeId} {k k0 : IntKind} {x : Operand} {y : AOpd} (ho : o.op = .convert s t x) (hx : absOpd x = some y) (hs : P.underlying s = some (.int k0)) (ht : P.underlying t = some (.int k))
    (h : stepA fl H (·.ev fr) (.convInt k y) = some (v, H')) : Stepped P o a base ρ w v H' := by
  have hvx := absOpd_VR hF hx
  simp only [stepA] at h
  split at h
  · rename_i k' n e
    rw [e] at hvx
    have hvx : a.eval x = .int k' n := hvx
    simp at h
    obtain ⟨rfl, rfl⟩ := h
    exact Stepped.pure hH (u := .int k (k.wrap n)) (by simp [execOp, ho, hvx, convert, run_underlying hs, run_underlying ht, Conv.intToInt]) rfl
  · cases h

theorem st_convStr (hH : HR base ρ H w) (hF : FR ρ fr a.tmps) {s t : TypeId} {x : Operand} {y : AOpd} (ho : o.op = .convert s t x) (hx : absOpd x = some y) (hs : P.underlying s = some .string) (ht : P.underlying t = some .string)
    (h : stepA fl H (·.ev fr) (.convStr y) = some (v, H')) : Stepped P o a base ρ w v H' := by
  have hvx := absOpd_VR hF hx
  simp only [stepA] at h
  split at h
  · rename_i l e
    rw [e] at hvx
    have hvx : a.eval x = .string ⟨l.toArray⟩ := hvx
    simp at h
    obtain ⟨rfl, rfl⟩ := h
    exact Stepped.pure hH (u := .string ⟨l.toArray⟩) (by simp [execOp, ho, hvx, convert, run_underlying hs, run_underlying ht]) rfl
  · cases h

theorem freeze_new (w : World) (C : Array Value) (e : TypeId) (k : Nat) : (w.alloc (.cells C e)).freeze ⟨w.heap.size, k, none⟩ 1 = w.alloc (.cells C e (k, k + 1)) := by
  have hm : ∀ (a : Array Obj) (x : Obj) (f : Obj → Obj), (a.push x).modify a.size f = a.push (f x) := by
    intro a x f
    apply Array.ext
    · simp
    · intro i h1 h2
      simp only [Array.getElem_modify, Array.getElem_push]
      by_cases h : a.size = i
      · subst h; simp
      · have hi : i < a.size := by simp at h1; omega
        simp [h, hi]
  unfold World.freeze
  rw [if_neg (by decide)]
  show ({ w.alloc (.cells C e) with heap := (w.heap.push (.cells C e)).modify w.heap.size _ } : World) = _
  rw [hm]
  rfl

theorem cut_ge (need old : Nat) (e : TypeId) (t : Nat) : need ≤ (Question.appendCap need old e).cut t := by simp [Question.cut]

theorem st_strBytes (hH : HR base ρ H w) (hF : FR ρ fr a.tmps) {s t e : TypeId} {x : Operand} {y : AOpd} (ho : o.op = .convert s t x) (hx : absOpd x = some y) (hs : P.underlying s = some .string) (ht : P.underlying t = some (.slice e)) (he : P.underlying e = some (.int .u8))
    (h : stepA fl H (·.ev fr) (.strBytes y) = some (v, H')) : Stepped P o a base ρ w v H' := by
  have hvx := absOpd_VR hF hx
  simp only [stepA] at h
  split at h
  · rename_i l el
    rw [el] at hvx
    have hvx : a.eval x = .string ⟨l.toArray⟩ := hvx
    simp at h
    obtain ⟨rfl, rfl⟩ := h
    obtain ⟨k, hk⟩ : ∃ k, k = (Question.appendCap l.length 0 e).cut (w.tape w.drawn (.appendCap l.length 0 e)) := ⟨_, rfl⟩
    have hge : l.length ≤ k := by rw [hk]; exact cut_ge _ _ _ _
    obtain ⟨arr, harr⟩ : ∃ arr : Array Value, arr = (l.toArray.map fun b => Value.int .u8 b.toNat) ++ Array.replicate (k - l.length) (.int .u8 0) := ⟨_, rfl⟩
    have hsz : arr.size = k := by rw [harr]; simp; omega
    have hp := hH.drew.push (arr := arr) (ty := e) (fz := (k, k + 1)) (cs := l.map fun u => Cell.int .u8 u.toNat) (c := k) (fun o ho1 ho2 => by omega) (by omega) (by simpa using hge) (fun i z hz => by
      rw [List.getElem?_map] at hz
      cases hq : l[i]? with
      | none => rw [hq] at hz; cases hz
      | some q =>
        rw [hq] at hz; simp at hz; subst hz
        refine ⟨.int .u8 q.toNat, ?_, rfl⟩
        have hlt := (List.getElem?_eq_some_iff.1 hq).1
        rw [harr, Nat.zero_add, Array.getElem?_append_left (by simpa using hlt)]
        simp [hq])
    refine ⟨.slice (some ⟨w.heap.size, 0, none⟩) l.length k, w.drew.alloc (.cells arr e (k, k + 1)), ρ ++ [.at w.heap.size 0 k], .inl ?_, hp, RExt.push ρ _, slc_new ρ H hH.len _ _ _ _ _ hge (by omega), (Below.refl _ _).drew.alloc (by simpa using hH.base_le) _⟩
    simp only [execOp, ho, hvx, convert, Sem.run_bind, run_underlying hs, run_underlying ht, run_underlying he, Result.andThen_ok, Conv.stringToBytes, mk_size, run_choose, Question.forced]
    simp only [Bool.false_eq_true, if_false, Result.andThen_ok]
    rw [← hk, ← harr]
    simp only [newRow, Sem.run_bind, run_newObj, Result.andThen_ok, Sem.run_pure, markStringish, run_shape]
    have hsh : (w.drew.alloc (.cells arr e)).shape? w.drew.heap.size = some (e, k) := by
      have : (w.drew.alloc (.cells arr e)).heap[w.drew.heap.size]? = some (.cells arr e) := heap_alloc_new w.drew _
      unfold World.shape?
      rw [this]; simp [hsz]
    have hfr := freeze_new w.drew arr e k
    change (((Sem.run P (match (w.drew.alloc (.cells arr e)).shape? w.drew.heap.size with | some (_, n) => freeze { block := w.heap.size, off := n } 1 | x => pure ()) (w.drew.alloc (.cells arr e))).andThen _).andThen _) = _
    rw [hsh]
    simp only [run_freeze, Result.andThen_ok]
    change Result.ok _ ((w.drew.alloc (.cells arr e)).freeze ⟨w.drew.heap.size, k, none⟩ 1) = _
    rw [hfr]
  · cases h

theorem bytesOf_rel : ∀ {cs : List Cell} {l : List UInt8} {vs : List Value}, bytesOf cs = some l → L2 (CR ρ) cs vs → ∃ ns : List Int, vs = ns.map (Value.int .u8) ∧ l = ns.map fun n => UInt8.ofNat n.toNat
  | [], l, vs, h, hL => by
    simp [bytesOf] at h; subst h
    have : vs = [] := List.eq_nil_of_length_eq_zero hL.1.symm
    subst this; exact ⟨[], rfl, rfl⟩
  | c :: r, l, vs, h, hL => by
    simp only [bytesOf] at h
    split at h
    · rename_i u l' h1 h2
      have e : u :: l' = l := by simpa using h
      subst e
      cases vs with
      | nil => have := hL.1; simp at this
      | cons x vs =>
        obtain ⟨y, hy, hR⟩ := hL.2 0 c rfl
        simp at hy; subst hy
        have hL' : L2 (CR ρ) r vs := ⟨by have := hL.1; simpa using this, fun i z hz => by simpa using hL.2 (i + 1) z (by simpa using hz)⟩
        obtain ⟨ns, rfl, rfl⟩ := bytesOf_rel h2 hL'
        unfold byteOf at h1
        split at h1
        · rename_i n
          simp at h1; subst h1
          have hR : x = .int .u8 n := hR
          subst hR
          exact ⟨n :: ns, rfl, rfl⟩
        · cases h1
    · cases h

theorem fold_bytes (ns : List Int) : ∀ s : List UInt8, ns.foldl (fun (r : ByteArray) n => r.push (UInt8.ofNat n.toNat)) ⟨s.toArray⟩ = ⟨(s ++ ns.map fun n => UInt8.ofNat n.toNat).toArray⟩ := by
  induction ns with
  | nil => intro s; simp
  | cons n r ih =>
    intro s
    have e : (⟨s.toArray⟩ : ByteArray).push (UInt8.ofNat n.toNat) = ⟨(s ++ [UInt8.ofNat n.toNat]).toArray⟩ := by simp [ByteArray.push]
    simp only [List.foldl_cons, e, ih, List.map_cons, List.append_assoc, List.singleton_append]

theorem st_bytesStr (hH : HR base ρ H w) (hF : FR ρ fr a.tmps) {s t e : TypeId} {x : Operand} {y : AOpd} (ho : o.op = .convert s t x) (hx : absOpd x = some y) (hs : P.underlying s = some (.slice e)) (ht : P.underlying t = some .string) (he : P.underlying e = some (.int .u8))
    (h : stepA fl H (·.ev fr) (.bytesStr y) = some (v, H')) : Stepped P o a base ρ w v H' := by
  have hvx := absOpd_VR hF hx
  simp only [stepA] at h
  split at h
  · cases h
  · rename_i hns
    split at h
    · rename_i cs hcs
      cases hb : bytesOf cs with
      | none => rw [hb] at h; cases h
      | some l =>
        rw [hb] at h
        simp at h
        obtain ⟨rfl, rfl⟩ := h
        obtain ⟨vs, n, hL, hlen, _, hfc, _, hlenA⟩ := sliceCells_run (P := P) hH hvx hcs rfl (by omega)
        obtain ⟨ns, rfl, rfl⟩ := bytesOf_rel hb hL
        refine Stepped.pure hH (u := .string ⟨(ns.map fun (n : Int) => UInt8.ofNat n.toNat).toArray⟩) ?_ rfl
        have hsl : ∃ ad m k, a.eval x = .slice ad m k ∧ (m = n) := by
          have hfc' := hfc w (fun _ _ => rfl)
          cases hy : y.ev fr with
          | agg _ => rw [hy] at hlenA; cases hlenA
          | tup _ => rw [hy] at hlenA; cases hlenA
          | clo _ _ => rw [hy] at hlenA; cases hlenA
          | c q =>
            rw [hy] at hlenA hvx
            cases q <;> simp only [lenA] at hlenA <;> try (cases hlenA; done)
            · exact absurd hy (hns _)
            · have hvx : a.eval x = .slice none 0 0 := hvx
              simp at hlenA; exact ⟨_, _, _, hvx, hlenA⟩
            · rename_i b o' n' sz'
              simp at hlenA; subst hlenA
              rw [hy] at hcs
              simp only [sliceCells] at hcs
              split at hcs
              · simp only [readN] at hcs
                split at hcs
                · rename_i bs hbs
                  rcases hH.at_slc hbs hvx with ⟨g, f, c, k, _, hu, _⟩ | ⟨h0, ad, hu⟩
                  · exact ⟨_, _, _, hu, rfl⟩
                  · exact ⟨_, _, _, hu, h0.symm⟩
                · cases hcs
              · cases hcs
        obtain ⟨ad, m, k, hu, rfl⟩ := hsl
        simp only [execOp, ho, hu, Sem.run_bind, run_convert_bytes_string w s t e ad m k hs he ht]
        have hfc' := hfc w (fun _ _ => rfl)
        rw [hu] at hfc'
        cases ad with
        | none =>
          simp only [Builtin.firstCells, Sem.run_pure] at hfc'
          have : ns = [] := by
            have := congrArg (fun r => match r with | Result.ok (q : Array Value) _ => q.size | _ => 0) hfc'
            simp at this
            exact List.eq_nil_of_length_eq_zero this.symm
          subst this
          rfl
        | some ad =>
          have hload : (loadCells ad m).run P w = .ok (ns.map (Value.int .u8)).toArray w := by
            simpa [Builtin.firstCells] using hfc'
          rw [run_bytesToString w ad m k ns hload]
          have := fold_bytes ns []
          simp only [List.nil_append] at this
          rw [show (ByteArray.empty) = (⟨([] : List UInt8).toArray⟩ : ByteArray) from rfl, this]
          rfl
    · cases h

end steps
end PAbs
