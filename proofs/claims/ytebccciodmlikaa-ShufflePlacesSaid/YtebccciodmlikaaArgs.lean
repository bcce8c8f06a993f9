/- Arguments that are slices of integers or of strings: as cells and blocks that are only read. -/
import Derived.Test.YtebccciodmlikaaGlue
import Derived.Test.YtebccciodmlikaaHeap
import Derived.ChangeSlices
import Derived.SliceStrings
namespace PAbs
open Go Go.RowKit Go.ChangeShapes Go.WideShapes Go.ChangeAt
set_option linter.unusedSimpArgs false
set_option linter.unusedVariables false

/-- a slice argument of one-cell elements: nil, or block b from its first cell on -/
def SlA (b : Nat) (x : Cell) (n : Nat) : Prop := (x = .snil ∧ n = 0) ∨ x = .slc b 0 n 1

/-- how such an argument stands in the world: a block only read, of these cells, and the value -/
def ArgR (W : World) (b : Nat) (x : Cell) (cs : List Cell) (v : Value) : Prop := SlA b x cs.length ∧ ∃ r : Reg, (∀ ρ, BR W.heap.size ρ W r (.ro cs)) ∧ ∀ ρ : List Reg, ρ[b]? = some r → VR ρ (.c x) v

theorem ArgR.nil (W : World) (b : Nat) : ArgR W b .snil [] (.slice none 0 0) :=
  ⟨.inl ⟨rfl, rfl⟩, .empty, fun ρ => (rfl : ([] : List Cell) = []), fun ρ h => (rfl : Value.slice none 0 0 = .slice none 0 0)⟩

theorem cell_heap {W : World} {g o : Nat} {v : Value} (h : W.cell? ⟨g, o, none⟩ = some v) : ∃ arr ty fz, W.heap[g]? = some (.cells arr ty fz) ∧ arr[o]? = some v := by
  simp only [World.cell?] at h
  split at h
  · rename_i c ty fz hc; exact ⟨c, ty, fz, hc, by simpa using h⟩
  · cases h

theorem ArgR.slice {W : World} {b : Nat} {a : Addr} {len cap : Nat} {cs : List Cell} {vals : Nat → Value} (hl : len ≤ cap) (hn : cs.length = len)
    (hcell : ∀ i, i < cap → W.cell? (a.add i) = some (vals i)) (hR : ∀ (i : Nat) (c : Cell), cs[i]? = some c → ∀ ρ, CR ρ c (vals i)) : ArgR W b (.slc b 0 len 1) cs (.slice (some a) len cap) := by
  refine ⟨.inr (by rw [hn]), ?_⟩
  rcases Nat.eq_zero_or_pos cap with h0 | hp
  · subst h0
    obtain rfl : len = 0 := by omega
    obtain rfl : cs = [] := List.length_eq_zero_iff.mp hn
    refine ⟨.empty, fun ρ => (rfl : ([] : List Cell) = []), fun ρ h => ?_⟩
    show CR ρ (.slc b 0 0 1) _
    simp only [CR, h]
    exact ⟨trivial, _, rfl⟩
  · obtain ⟨g, o, spot⟩ := a
    have hspot : spot = none := by simpa [Addr.add] using World.cell?_spot (hcell 0 hp)
    subst hspot
    have hc : ∀ i, i < cap → W.cell? ⟨g, o + i, none⟩ = some (vals i) := fun i hi => by rw [← Go.WideShapes.add_plain]; exact hcell i hi
    obtain ⟨arr, ty, fz, hh, _⟩ := cell_heap (hc 0 hp)
    have hg : g < W.heap.size := (Array.getElem?_eq_some_iff.mp hh).1
    refine ⟨.at g o cap, fun ρ => ⟨hg, by omega, arr, ty, fz, hh, fun i x hx => ?_⟩, fun ρ h => ?_⟩
    · have hi : i < cs.length := (List.getElem?_eq_some_iff.mp hx).1
      obtain ⟨arr', ty', fz', hh', hv'⟩ := cell_heap (hc i (by omega))
      rw [hh] at hh'
      cases hh'
      exact ⟨_, hv', hR i x hx ρ⟩
    · show CR ρ (.slc b 0 len 1) _
      simp only [CR, h]
      exact .inl ⟨cap, by simp, hl, by omega⟩

/-- the words of a slice of integers -/
theorem open_intsA {H : Type} {enc : TypeId × Value → H} {P : Program} {W : World} {base t e : Nat} {k : IntKind} {v : Value} {d : DataW H} {ps : List MemPlace} (b : Nat) (ht : P.underlying t = some (.slice e)) (he : P.underlying e = some (.int k)) (hc : P.cellsOf e = 1)
    (hval : Value.okWide P W .any base t v) (h : DataW.Trod enc P W 0 (fun _ => true) true t v d ps) :
    ∃ (zs : List Int) (x : Cell), ArgR W b x (zs.map fun z => Cell.int k z) v ∧ (∀ n ∈ zs, (Lit.int k n).wf = true) ∧ zs.length ≤ maxLen ∧ (d = .nil ∧ zs = [] ∨ ∃ sp, d = .slice (lits k zs) (lits k sp)) := by
  obtain ⟨a0, len0, cap0, rfl⟩ := okWide_slice ht hval
  obtain ⟨fuel, hf⟩ := h
  rcases open_ints ht he hc hf with ⟨h1, h2⟩ | ⟨a, len, cap, zs, h1, _, hl, hm, hz, hx, hcell, hwf⟩
  · simp only [Value.cells] at h1
    cases h1
    cases h2
    exact ⟨[], .snil, ArgR.nil W b, fun n hn => (by cases hn), Nat.zero_le _, .inl ⟨rfl, rfl⟩⟩
  · simp only [Value.cells] at h1
    cases h1
    cases hx
    simp only [if_true] at hz
    refine ⟨zs.take len0, .slc b 0 len0 1, ArgR.slice (vals := fun i => .int k (zs.getD i 0)) hl (by simp; omega) (fun i hi => hcell i (by omega)) ?_, fun n hn => hwf n (List.mem_of_mem_take hn), by simp; omega, .inr ⟨_, rfl⟩⟩
    intro i c hc ρ
    rw [List.getElem?_map] at hc
    cases hz' : (zs.take len0)[i]? with
    | none => rw [hz'] at hc; cases hc
    | some z =>
      rw [hz'] at hc
      have hc : Cell.int k z = c := by simpa using hc
      subst hc
      have hz2 : zs[i]? = some z := by
        rw [List.getElem?_take] at hz'
        split at hz'
        · exact hz'
        · cases hz'
      show Value.int k (zs.getD i 0) = .int k z
      simp [hz2]

/-- the texts of a slice of strings -/
theorem open_strsA {H : Type} {enc : TypeId × Value → H} {P : Program} {W : World} {base t e : Nat} {v : Value} {d : DataW H} {ps : List MemPlace} (b : Nat) (ht : P.underlying t = some (.slice e)) (he : P.underlying e = some .string) (hc : P.cellsOf e = 1)
    (hval : Value.okWide P W .any base t v) (h : DataW.Trod enc P W 0 (fun _ => true) true t v d ps) :
    ∃ (ss : List ByteArray) (x : Cell), ArgR W b x (ss.map fun s => Cell.str s.data.toList) v ∧ (∀ s ∈ ss, s.size ≤ maxLen) ∧ ss.length ≤ maxLen ∧ (d = .nil ∧ ss = [] ∨ ∃ sp, d = .slice (strs ss) (strs sp)) := by
  obtain ⟨a0, len0, cap0, rfl⟩ := okWide_slice ht hval
  obtain ⟨fuel, hf⟩ := h
  rcases open_strings ht he hc hf with ⟨h1, h2⟩ | ⟨a, len, cap, ss, h1, _, hl, hm, hz, hx, hcell, hsz⟩
  · simp only [Value.cells] at h1
    cases h1
    cases h2
    exact ⟨[], .snil, ArgR.nil W b, fun n hn => (by cases hn), Nat.zero_le _, .inl ⟨rfl, rfl⟩⟩
  · simp only [Value.cells] at h1
    cases h1
    cases hx
    simp only [if_true] at hz
    refine ⟨ss.take len0, .slc b 0 len0 1, ArgR.slice (vals := fun i => .string (ss.getD i ByteArray.empty)) hl (by simp; omega) (fun i hi => hcell i (by omega)) ?_, fun n hn => hsz n (List.mem_of_mem_take hn), by simp; omega, .inr ⟨_, rfl⟩⟩
    intro i c hc ρ
    rw [List.getElem?_map] at hc
    cases hz' : (ss.take len0)[i]? with
    | none => rw [hz'] at hc; cases hc
    | some z =>
      rw [hz'] at hc
      have hc : Cell.str z.data.toList = c := by simpa using hc
      subst hc
      have hz2 : ss[i]? = some z := by
        rw [List.getElem?_take] at hz'
        split at hz'
        · exact hz'
        · cases hz'
      show Value.string (ss.getD i ByteArray.empty) = .string ⟨z.data.toList.toArray⟩
      simp [hz2]

/-- the texts as lists of letters -/
theorem open_textsA {H : Type} {enc : TypeId × Value → H} {P : Program} {W : World} {base t e : Nat} {v : Value} {d : DataW H} {ps : List MemPlace} (b : Nat) (ht : P.underlying t = some (.slice e)) (he : P.underlying e = some .string) (hc : P.cellsOf e = 1)
    (hval : Value.okWide P W .any base t v) (h : DataW.Trod enc P W 0 (fun _ => true) true t v d ps) :
    ∃ (ss : List (List UInt8)) (x : Cell), ArgR W b x (ss.map Cell.str) v ∧ (∀ s ∈ ss, s.length ≤ maxLen) ∧ ss.length ≤ maxLen ∧ (d = .nil ∧ ss = [] ∨ ∃ sp, d = .slice (ss.map fun s => .lit (.string s)) sp) := by
  obtain ⟨ss, x, h1, h2, h3, h4⟩ := open_strsA b ht he hc hval h
  refine ⟨ss.map fun s => s.data.toList, x, by rw [List.map_map]; exact h1, ?_, by simpa using h3, ?_⟩
  · intro s hs
    obtain ⟨u, hu, rfl⟩ := List.mem_map.mp hs
    have := h2 u hu
    rw [Array.length_toList]; exact this
  · rcases h4 with ⟨h5, h6⟩ | ⟨sp, h5⟩
    · exact .inl ⟨h5, by rw [h6]; rfl⟩
    · exact .inr ⟨_, by rw [h5, List.map_map]; rfl⟩

/-- words of an unsigned kind -/
theorem open_natsA {H : Type} {enc : TypeId × Value → H} {P : Program} {W : World} {base t e : Nat} {k : IntKind} {v : Value} {d : DataW H} {ps : List MemPlace} (b : Nat) (hk : k.min = 0) (ht : P.underlying t = some (.slice e)) (he : P.underlying e = some (.int k)) (hc : P.cellsOf e = 1)
    (hval : Value.okWide P W .any base t v) (h : DataW.Trod enc P W 0 (fun _ => true) true t v d ps) :
    ∃ (ns : List Nat) (x : Cell), ArgR W b x (ns.map fun (n : Nat) => Cell.int k (n : Int)) v ∧ (∀ n ∈ ns, (n : Int) ≤ k.max) ∧ ns.length ≤ maxLen ∧ (d = .nil ∧ ns = [] ∨ ∃ sp, d = .slice (ns.map fun (n : Nat) => .lit (.int k (n : Int))) sp) := by
  obtain ⟨zs, x, h1, h2, h3, h4⟩ := open_intsA b ht he hc hval h
  have hz : ∀ z ∈ zs, 0 ≤ z ∧ z ≤ k.max := fun z hz => by
    have := h2 z hz
    simp only [Lit.wf, Bool.and_eq_true, decide_eq_true_eq, hk] at this
    exact this
  have e1 : zs = zs.map fun z => ((z.toNat : Nat) : Int) := by
    have : zs.map (fun z => ((z.toNat : Nat) : Int)) = zs.map id := List.map_congr_left fun z hz' => by have := (hz z hz').1; simp only [id]; omega
    rw [this]; simp
  refine ⟨zs.map Int.toNat, x, ?_, ?_, by simpa using h3, ?_⟩
  · rw [List.map_map]
    have : zs.map ((fun (n : Nat) => Cell.int k (n : Int)) ∘ Int.toNat) = zs.map fun z => Cell.int k z := List.map_congr_left fun z hz' => by have := (hz z hz').1; simp only [Function.comp]; congr 1; omega
    rw [this]; exact h1
  · intro n hn
    obtain ⟨z, hz', rfl⟩ := List.mem_map.mp hn
    have := hz z hz'; omega
  · rcases h4 with ⟨h5, h6⟩ | ⟨sp, h5⟩
    · exact .inl ⟨h5, by rw [h6]; rfl⟩
    · refine .inr ⟨lits k sp, ?_⟩
      rw [h5, List.map_map]
      congr 1
      simp only [lits]
      exact List.map_congr_left fun z hz' => by have := (hz z hz').1; simp only [Function.comp]; congr 2; omega

/-- heaps of blocks that are only read -/
theorem HR.ro1 {W : World} {r : Reg} {cs : List Cell} (h : ∀ ρ, BR W.heap.size ρ W r (.ro cs)) : HR W.heap.size [r] [.ro cs] W := by
  refine ⟨rfl, fun b x r' hx hr => ?_, fun b b' c c' g f c2 f' c3 h1 => ?_, Nat.le_refl _⟩
  · match b with
    | 0 => simp at hx hr; subst hx hr; exact h _
    | b + 1 => simp at hx
  · match b with
    | 0 => simp at h1
    | b + 1 => simp at h1
theorem HR.ro2 {W : World} {r s : Reg} {cs ds : List Cell} (h : ∀ ρ, BR W.heap.size ρ W r (.ro cs)) (k : ∀ ρ, BR W.heap.size ρ W s (.ro ds)) : HR W.heap.size [r, s] [.ro cs, .ro ds] W := by
  refine ⟨rfl, fun b x r' hx hr => ?_, fun b b' c c' g f c2 f' c3 h1 => ?_, Nat.le_refl _⟩
  · match b with
    | 0 => simp at hx hr; subst hx hr; exact h _
    | 1 => simp at hx hr; subst hx hr; exact k _
    | b + 2 => simp at hx
  · match b with
    | 0 => simp at h1
    | 1 => simp at h1
    | b + 2 => simp at h1

/-- an array of words, by value -/
theorem open_wordsA {H : Type} {enc : TypeId × Value → H} {P : Program} {W : World} {base t e n : Nat} {k : IntKind} {v : Value} {d : DataW H} {ps : List MemPlace} (hk : k.min = 0) (ht : P.underlying t = some (.array n e)) (he : P.underlying e = some (.int k)) (hc : P.cellsOf e = 1) (hct : P.cellsOf t = n)
    (hval : Value.okWide P W .any base t v) (h : DataW.Trod enc P W 0 (fun _ => true) true t v d ps) :
    ∃ ns : List Nat, ns.length = n ∧ (∀ m ∈ ns, (m : Int) ≤ k.max) ∧ ∀ ρ, VR ρ (.agg (ns.map fun (m : Nat) => Cell.int k (m : Int))) v := by
  simp only [Value.okWide, ht] at hval
  obtain ⟨cs, rfl, hs, _⟩ := hval
  obtain ⟨fuel, hf⟩ := h
  obtain ⟨xs, m, rfl, _, hl, hx, hel⟩ := DataW.trod_array ht hf
  simp only [Value.cells] at hl hel
  rw [hct] at hl
  have each : ∀ i (hi : i < cs.toList.length), ∃ z : Nat, cs.toList[i] = .int k (z : Int) ∧ (z : Int) ≤ k.max := by
    intro i hi
    have h1 := hel i (by omega)
    rw [hc, Nat.mul_one] at h1
    have h2 : (cs.toList.drop i).take 1 = [cs.toList[i]] := by
      rw [List.drop_eq_getElem_cons hi]; rfl
    rw [h2, List.getElem?_eq_getElem (by omega)] at h1
    obtain ⟨z, hz, _, hw⟩ := DataW.trod_int he h1
    have hz : cs.toList[i] = .int k z := by simpa using hz
    simp only [Lit.wf, Bool.and_eq_true, decide_eq_true_eq, hk] at hw
    obtain ⟨u, rfl⟩ := Int.eq_ofNat_of_zero_le hw.1
    exact ⟨u, hz, hw.2⟩
  let ns : List Nat := cs.toList.map fun v => match v with | .int _ z => z.toNat | _ => 0
  have en : cs.toList = ns.map fun (m : Nat) => Value.int k (m : Int) := by
    apply List.ext_getElem (by simp [ns])
    intro i h1 h2
    obtain ⟨z, hz, _⟩ := each i h1
    simp only [ns, List.getElem_map, hz, Int.toNat_natCast]
  refine ⟨ns, by simp only [ns, List.length_map]; omega, ?_, fun ρ => ⟨cs.toList, by simp, ?_⟩⟩
  · intro m hm
    obtain ⟨u, hu, rfl⟩ := List.mem_map.mp hm
    obtain ⟨i, hi, rfl⟩ := List.mem_iff_getElem.mp hu
    obtain ⟨z, hz, hb⟩ := each i hi
    rw [hz]; simpa using hb
  · rw [en]
    exact ⟨by simp, fun i x hx => by
      rw [List.getElem?_map] at hx
      cases hn : ns[i]? with
      | none => rw [hn] at hx; cases hx
      | some z =>
        rw [hn] at hx
        have hx : Cell.int k (z : Int) = x := by simpa using hx
        subst hx
        exact ⟨.int k z, by rw [List.getElem?_map, hn]; rfl, (rfl : Value.int k (z : Int) = .int k z)⟩⟩
end PAbs
