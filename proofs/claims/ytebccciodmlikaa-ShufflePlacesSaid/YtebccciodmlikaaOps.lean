/- Each operation of the abstract machine, against the model's own. -/
import Derived.Test.YtebccciodmlikaaRel
namespace PAbs
open Go Go.RowKit
set_option linter.unusedSimpArgs false
set_option linter.unusedVariables false

section types
variable {P : Program} {w : World} {t e : TypeId}

theorem run_isAgg {b : Bool} (h : aggT P t = some b) : (isAgg t).run P w = .ok b w := by
  unfold aggT at h
  split at h <;> first | (rename_i hu; simp at h; subst h; simp [isAgg, run_underlying hu]) | (rename_i d hu; simp at h; subst h; simp [isAgg, run_underlying hu]; split <;> simp_all) | cases h

theorem sizeT_info {n : Nat} (h : sizeT P t = some n) : ∃ i, P.info? t = some i ∧ i.size = n := by
  unfold sizeT at h
  cases hi : P.info? t with
  | none => rw [hi] at h; cases h
  | some i => rw [hi] at h; exact ⟨i, rfl, by simpa using h⟩

theorem run_sizeOf {n : Nat} (h : sizeT P t = some n) : (Go.sizeOf t).run P w = .ok n w := by
  obtain ⟨i, hi, rfl⟩ := sizeT_info h
  simp [Go.sizeOf, typeInfo, hi]

theorem bytesT_info {n : Nat} (h : bytesT P t = some n) : ∃ i, P.info? t = some i ∧ i.bytes = n ∧ 0 < n := by
  unfold bytesT at h
  cases hi : P.info? t with
  | none => rw [hi] at h; cases h
  | some i =>
    rw [hi] at h
    simp only [Option.map_some] at h
    split at h
    · rename_i k hk
      simp at hk h
      exact ⟨i, rfl, by omega, by omega⟩
    · cases h

/-- what a type's zero cells are -/
theorem zeroA_info {l : List Cell} (h : zeroA P t = some l) : ∃ i z, P.info? t = some i ∧ i.zero = some z ∧ l.length = i.size ∧ (∀ ρ, L2 (CR ρ) l z.cells.toList) := by
  unfold zeroA at h
  split at h
  · rename_i i hi
    split at h
    · rename_i z hz
      split at h
      · rename_i l' ho
        split at h
        · rename_i hl
          have e : l' = l := by simpa using h
          subst e
          exact ⟨i, z, hi, hz, hl, fun ρ => optMap_L2 (R := CR ρ) (fun _ _ h => absCell_CR h) ho⟩
        · cases h
      · cases h
    · cases h
  · cases h

theorem zeroE_zeroA {l : List Cell} (h : zeroE P t = some l) : zeroA P t = some l ∧ 0 < l.length := by
  unfold zeroE at h
  split at h
  · rename_i c r hz
    have e : c :: r = l := by simpa using h
    subst e
    exact ⟨hz, by simp⟩
  · cases h

theorem run_zeroValue {z : Value} {i : TypeInfo} (hi : P.info? t = some i) (hz : i.zero = some z) : (zeroValue t).run P w = .ok z w := by
  simp [zeroValue, typeInfo, hi, hz]

theorem run_loadVar1 {a : Addr} {v : Value} (h : aggT P t = some false) (hc : w.cell? a = some v) : (loadVar t a).run P w = .ok v w := by
  simp [loadVar, run_isAgg h, hc]

theorem run_loadVarN {a : Addr} {l : List Value} (h : aggT P t = some true) (hs : sizeT P t = some l.length) (hc : ∀ (j : Nat) v, l[j]? = some v → w.cell? (a.add j) = some v) :
    (loadVar t a).run P w = .ok (.agg l.toArray) w := by
  simp [loadVar, run_isAgg h, run_sizeOf hs, run_loadCells_list w a l hc]
end types

/-! ### writing parts into cells -/
theorem fold_over (off : Nat) : ∀ (vs : List Value) (k : Nat) (arr : Array Value), off + k + vs.length ≤ arr.size →
    (vs.zipIdx k).foldl (fun cs (p : Value × Nat) => cs.setIfInBounds (off + p.2) p.1) arr = overAt arr (off + k) vs
  | [], k, arr, _ => by simp [overAt]
  | v :: rest, k, arr, h => by
    simp only [List.zipIdx_cons, List.foldl_cons]
    rw [fold_over off rest (k + 1) _ (by simp at h ⊢; omega)]
    have e := list_seg_step arr.toList (off + k) v rest (by simp at h ⊢; omega)
    unfold overAt
    congr 1
    simpa [Array.toList_setIfInBounds, Nat.add_assoc] using e

theorem L2.over {ρ : List Reg} {cs vs : List Cell} {arr : Array Value} {l : List Value} {o : Nat} (h : L2 (CR ρ) cs arr.toList) (hv : L2 (CR ρ) vs l) (ho : o + vs.length ≤ cs.length) :
    L2 (CR ρ) (cs.take o ++ vs ++ cs.drop (o + vs.length)) (overAt arr o l).toList := by
  simp only [overAt]
  rw [show (o + l.length) = (o + vs.length) by rw [hv.1]]
  exact ((h.take o).append hv).append (h.drop _)

theorem fill_sound {ρ : List Reg} {fr : AFrame} {a : Act} (hF : FR ρ fr a.tmps) (place : Nat → Option (Nat × Nat)) :
    ∀ (ps : List (Nat × Operand)) (l : List (Nat × Nat × AOpd)) (cs cs' : List Cell) (arr : Array Value), absParts place ps = some l → fillA cs (l.map fun (o, n, x) => (o, n, x.ev fr)) = some cs' → L2 (CR ρ) cs arr.toList →
      ∃ arr', Instr.fill place arr (ps.map fun (i, x) => (i, a.eval x)) = some arr' ∧ L2 (CR ρ) cs' arr'.toList
  | [], l, cs, cs', arr, hp, hf, hL => by
    simp [absParts] at hp; subst hp
    simp [fillA] at hf; subst hf
    exact ⟨arr, rfl, hL⟩
  | (i, x) :: r, l, cs, cs', arr, hp, hf, hL => by
    simp only [absParts] at hp
    split at hp
    · rename_i o n y l' h1 h2 h3
      have e : (o, n, y) :: l' = l := by simpa using hp
      subst e
      simp only [List.map_cons, fillA] at hf
      split at hf
      · rename_i vs hvs
        split at hf
        · rename_i hc
          obtain ⟨hc1, hc2⟩ := hc
          have hv := VR.cells (absOpd_VR hF h2) hvs
          subst hc1
          have hL' := hL.over hv hc2
          obtain ⟨arr', ha, hL''⟩ := fill_sound hF place r l' _ cs' (overAt arr o (a.eval x).cells.toList) h3 hf hL'
          refine ⟨arr', ?_, hL''⟩
          have hsz : (a.eval x).cells.size = vs.length := by have := hv.1; simpa using this.symm
          have hbig : o + vs.length ≤ arr.size := by have := hL.1; simp at this; omega
          simp only [List.map_cons, Instr.fill, h1]
          rw [if_neg (by rw [hsz]; simp; omega)]
          have hfo := fold_over o (a.eval x).cells.toList 0 arr (by simpa [hsz] using hbig)
          rw [Nat.add_zero] at hfo
          rw [← hfo] at ha
          rw [← ha]
          congr 1
          rw [← Array.foldl_toList]
          simp [Array.toList_zipIdx]
        · cases hf
      · cases hf
    · cases hp

/-- WHAT A STEP COMES TO. -/
def Stepped (P : Program) (o : Oper) (a : Act) (base : Nat) (ρ : List Reg) (w : World) (v : AV) (H' : AHeap) : Prop :=
  ∃ u w' ρ', ((execOp a.eval o).run P w = .ok (.value u) w' ∨ ((execOp a.eval o).run P w = .ok .skip w' ∧ u = undef)) ∧
    HR base ρ' H' w' ∧ RExt ρ ρ' ∧ VR ρ' v u ∧ Below base w w'

section steps
variable {P : Program} {o : Oper} {a : Act} {base : Nat} {ρ : List Reg} {H : AHeap} {w : World} {fr : AFrame}

/-- nothing but a value -/
theorem Stepped.pure {v : AV} {u : Value} (hH : HR base ρ H w) (hr : (execOp a.eval o).run P w = .ok (.value u) w) (hv : VR ρ v u) : Stepped P o a base ρ w v H :=
  ⟨u, w, ρ, .inl hr, hH, RExt.refl ρ, hv, Below.refl _ _⟩

/-- a new block, and a pointer to it -/
theorem Stepped.new {cs : List Cell} {l : List Value} {ty : TypeId} {c : Nat} {v : AV} {u : Value} {w1 : World} (hH : HR base ρ H w) (hw1 : w1 = w ∨ w1 = w.drew) (hl : L2 (CR ρ) cs (l.take cs.length)) (hc : c ≤ l.length) (hcs : cs.length ≤ c)
    (hr : (execOp a.eval o).run P w = .ok (.value u) (w1.alloc (.cells l.toArray ty))) (hv : VR (ρ ++ [.at w.heap.size 0 c]) v u) : Stepped P o a base ρ w v (H ++ [.own cs]) := by
  have hs : w1.heap.size = w.heap.size := by rcases hw1 with rfl | rfl <;> rfl
  have hH1 : HR base ρ H w1 := by rcases hw1 with rfl | rfl; exact hH; exact hH.drew
  have hB : Below base w w1 := by rcases hw1 with rfl | rfl; exact Below.refl _ _; exact (Below.refl _ _).drew
  refine ⟨u, _, _, .inl hr, ?_, RExt.push ρ _, hv, hB.alloc (by rw [hs]; exact hH.base_le) _⟩
  have := hH1.push (arr := l.toArray) (ty := ty) (fz := (0, 0)) (cs := cs) (c := c) (fun o _ h => by omega) (by simpa using hc) hcs (fun i x hx => by
    obtain ⟨y, hy, hR⟩ := hl.2 i x hx
    rw [List.getElem?_take] at hy
    split at hy
    · exact ⟨y, by simpa using hy, hR⟩
    · cases hy)
  rwa [hs] at this

theorem sliceCells_run {size sz : Nat} {x : AV} {u : Value} {cs : List Cell} (hH : HR base ρ H w) (hx : VR ρ x u) (hc : sliceCells H sz x = some cs) (hsz : size = sz) (hp : 0 < sz) :
    ∃ (l : List Value) (n : Nat), L2 (CR ρ) cs l ∧ l.length = n * size ∧ (Builtin.lenOf u).run P w = .ok n w ∧ (∀ w' : World, (∀ g, g < w.heap.size → w'.heap[g]? = w.heap[g]?) → (Builtin.firstCells size n u).run P w' = .ok l.toArray w') ∧
      (∀ m, m ≤ n → (Builtin.firstCells size m u).run P w = .ok (l.take (m * size)).toArray w) ∧ lenA x = some n := by
  subst hsz
  cases x with
  | agg _ => simp [sliceCells] at hc
  | tup _ => simp [sliceCells] at hc
  | c x =>
    cases x <;> simp only [sliceCells] at hc <;> try (cases hc; done)
    case snil =>
      simp at hc; subst hc
      have hu : u = .slice none 0 0 := hx
      subst hu
      exact ⟨[], 0, L2.nil, by simp, by simp [Builtin.lenOf], fun w' _ => by simp [Builtin.firstCells], fun m hm => by simp [Builtin.firstCells], rfl⟩
    case str s =>
      split at hc
      · rename_i h1
        subst h1
        have e : (s.map fun u => Cell.int .u8 u.toNat) = cs := by simpa using hc
        subst e
        have hu : u = .string ⟨s.toArray⟩ := hx
        subst hu
        refine ⟨s.map fun u => Value.int .u8 u.toNat, s.length, ⟨by simp, fun i x hx => ?_⟩, by simp, by simp [Builtin.lenOf, ByteArray.size], fun w' _ => ?_, fun m hm => ?_, rfl⟩
        · rw [List.getElem?_map] at hx ⊢
          cases hs : s[i]? with
          | none => rw [hs] at hx; cases hx
          | some q => rw [hs] at hx; simp at hx; subst hx; exact ⟨_, rfl, rfl⟩
        · simp [Builtin.firstCells]
        · simp only [Builtin.firstCells, Sem.run_pure, Nat.mul_one]
          congr 1
          apply Array.ext'
          simp [List.map_take]
      · cases hc
    case slc b o n sz' =>
      split at hc
      · rename_i h1
        subst h1
        simp only [readN] at hc
        split at hc
        · rename_i bs hb
          split at hc
          · rename_i hle
            have e : (bs.drop o).take (n * sz') = cs := by simpa using hc
            subst e
            rcases hH.at_slc hb hx with ⟨g, f, c, k, hr, rfl, hnk, hk, arr, ty, fz, hg, hh⟩ | ⟨rfl, ad, rfl⟩
            · obtain ⟨l, hl, hll, hcell⟩ := hH.reads hr hg hh hle
              have hlt : g < w.heap.size := (Array.getElem?_eq_some_iff.1 hg).1
              refine ⟨l, n, hl, hll, by simp [Builtin.lenOf], fun w' hw' => ?_, fun m hm => ?_, rfl⟩
              · refine run_firstCells_some w' sz' n _ n k l hll fun j v hj => ?_
                rw [World.cell?_of_block (w := w) (by rw [addr_add]; exact hw' g hlt)]
                exact hcell j v hj
              · refine run_firstCells_some w sz' m _ n k (l.take (m * sz')) ?_ fun j v hj => ?_
                · rw [List.length_take, hll]; exact Nat.min_eq_left (Nat.mul_le_mul_right _ hm)
                · rw [List.getElem?_take] at hj
                  split at hj
                  · exact hcell j v hj
                  · cases hj
            · refine ⟨[], 0, ?_, by simp, by simp [Builtin.lenOf], fun w' _ => ?_, fun m hm => ?_, rfl⟩
              · simp only [Nat.zero_mul, List.take_zero]; exact L2.nil
              · cases ad <;> simp [Builtin.firstCells, loadCells, loadCellsFrom]
              · have : m = 0 := by omega
                subst this
                cases ad <;> simp [Builtin.firstCells, loadCells, loadCellsFrom]
          · cases hc
        · cases hc
      · cases hc

end steps
end PAbs
