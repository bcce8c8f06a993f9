/- Texts of this claim, put together: Args Slc Flat Go Base Chg More Go2 Sm KF L00 KArena L20a L20b KLease. -/
import Derived.Test.YtdbpnkbboiplaaaG7
import Derived.ChangeSlices
import Derived.SliceStrings
import Derived.Test.YtdbpnkbboiplaaaProg
import Derived.Test.YtdbpnkbboiplaaaG6
/- Arguments that are slices of integers or of strings: as cells and blocks that are only read. -/
namespace PAbs
open Go Go.RowKit Go.ChangeShapes Go.WideShapes Go.ChangeAt
set_option linter.unusedSimpArgs false
set_option linter.unusedVariables false

/-- a slice argument of one-cell elements: nil, or block b from its first cell on -/
def SlA (b : Nat) (x : Cell) (n : Nat) : Prop := (x = .snil ∧ n = 0) ∨ x = .slc b 0 n 1

/-- how such an argument stands in the world: a block only read, of these cells, and the value -/
def ArgR (W : World) (b : Nat) (x : Cell) (cs : List Cell) (v : Value) : Prop := SlA b x cs.length ∧ ∃ r : Reg, (∀ ρ, BR W.heap.size ρ W r (.ro cs)) ∧ ∀ ρ : List Reg, ρ[b]? = some r → VR ρ (.c x) v

theorem ArgR.nil (W : World) (b : Nat) : ArgR W b .snil [] (.slice none 0 0) :=
  ⟨.inl ⟨rfl, rfl⟩, .empty, fun ρ => (rfl : ([] : List Cell) = []), fun ρ h => (rfl : Value.slice none 0 0 = .slice none 0 0)⟩

theorem cell_heap {W : World} {g o : Nat} {v : Value} (h : W.cell? ⟨g, o, none⟩ = some v) : ∃ arr ty fz, W.heap[g]? = some (.cells arr ty fz) ∧ arr[o]? = some v := by
  simp only [World.cell?] at h
  split at h
  · rename_i c ty fz hc; exact ⟨c, ty, fz, hc, by simpa using h⟩
  · cases h

theorem ArgR.slice {W : World} {b : Nat} {a : Addr} {len cap : Nat} {cs : List Cell} {vals : Nat → Value} (hl : len ≤ cap) (hn : cs.length = len)
    (hcell : ∀ i, i < cap → W.cell? (a.add i) = some (vals i)) (hR : ∀ (i : Nat) (c : Cell), cs[i]? = some c → ∀ ρ, CR ρ c (vals i)) : ArgR W b (.slc b 0 len 1) cs (.slice (some a) len cap) := by
  refine ⟨.inr (by rw [hn]), ?_⟩
  rcases Nat.eq_zero_or_pos cap with h0 | hp
  · subst h0
    obtain rfl : len = 0 := by omega
    obtain rfl : cs = [] := List.length_eq_zero_iff.mp hn
    refine ⟨.empty, fun ρ => (rfl : ([] : List Cell) = []), fun ρ h => ?_⟩
    show CR ρ (.slc b 0 0 1) _
    simp only [CR, h]
    exact ⟨trivial, _, rfl⟩
  · obtain ⟨g, o, spot⟩ := a
    have hspot : spot = none := by simpa [Addr.add] using World.cell?_spot (hcell 0 hp)
    subst hspot
    have hc : ∀ i, i < cap → W.cell? ⟨g, o + i, none⟩ = some (vals i) := fun i hi => by rw [← Go.WideShapes.add_plain]; exact hcell i hi
    obtain ⟨arr, ty, fz, hh, _⟩ := cell_heap (hc 0 hp)
    have hg : g < W.heap.size := (Array.getElem?_eq_some_iff.mp hh).1
    refine ⟨.at g o cap, fun ρ => ⟨hg, by omega, arr, ty, fz, hh, fun i x hx => ?_⟩, fun ρ h => ?_⟩
    · have hi : i < cs.length := (List.getElem?_eq_some_iff.mp hx).1
      obtain ⟨arr', ty', fz', hh', hv'⟩ := cell_heap (hc i (by omega))
      rw [hh] at hh'
      cases hh'
      exact ⟨_, hv', hR i x hx ρ⟩
    · show CR ρ (.slc b 0 len 1) _
      simp only [CR, h]
      exact .inl ⟨cap, by simp, hl, by omega⟩

/-- the words of a slice of integers -/
theorem open_intsA {H : Type} {enc : TypeId × Value → H} {P : Program} {W : World} {base t e : Nat} {k : IntKind} {v : Value} {d : DataW H} {ps : List MemPlace} (b : Nat) (ht : P.underlying t = some (.slice e)) (he : P.underlying e = some (.int k)) (hc : P.cellsOf e = 1)
    (hval : Value.okWide P W .any base t v) (h : DataW.Trod enc P W 0 (fun _ => true) true t v d ps) :
    ∃ (zs : List Int) (x : Cell), ArgR W b x (zs.map fun z => Cell.int k z) v ∧ (∀ n ∈ zs, (Lit.int k n).wf = true) ∧ zs.length ≤ maxLen ∧ (d = .nil ∧ zs = [] ∨ ∃ sp, d = .slice (lits k zs) (lits k sp)) := by
  obtain ⟨a0, len0, cap0, rfl⟩ := okWide_slice ht hval
  obtain ⟨fuel, hf⟩ := h
  rcases open_ints ht he hc hf with ⟨h1, h2⟩ | ⟨a, len, cap, zs, h1, _, hl, hm, hz, hx, hcell, hwf⟩
  · simp only [Value.cells] at h1
    cases h1
    cases h2
    exact ⟨[], .snil, ArgR.nil W b, fun n hn => (by cases hn), Nat.zero_le _, .inl ⟨rfl, rfl⟩⟩
  · simp only [Value.cells] at h1
    cases h1
    cases hx
    simp only [if_true] at hz
    refine ⟨zs.take len0, .slc b 0 len0 1, ArgR.slice (vals := fun i => .int k (zs.getD i 0)) hl (by simp; omega) (fun i hi => hcell i (by omega)) ?_, fun n hn => hwf n (List.mem_of_mem_take hn), by simp; omega, .inr ⟨_, rfl⟩⟩
    intro i c hc ρ
    rw [List.getElem?_map] at hc
    cases hz' : (zs.take len0)[i]? with
    | none => rw [hz'] at hc; cases hc
    | some z =>
      rw [hz'] at hc
      have hc : Cell.int k z = c := by simpa using hc
      subst hc
      have hz2 : zs[i]? = some z := by
        rw [List.getElem?_take] at hz'
        split at hz'
        · exact hz'
        · cases hz'
      show Value.int k (zs.getD i 0) = .int k z
      simp [hz2]

/-- the texts of a slice of strings -/
theorem open_strsA {H : Type} {enc : TypeId × Value → H} {P : Program} {W : World} {base t e : Nat} {v : Value} {d : DataW H} {ps : List MemPlace} (b : Nat) (ht : P.underlying t = some (.slice e)) (he : P.underlying e = some .string) (hc : P.cellsOf e = 1)
    (hval : Value.okWide P W .any base t v) (h : DataW.Trod enc P W 0 (fun _ => true) true t v d ps) :
    ∃ (ss : List ByteArray) (x : Cell), ArgR W b x (ss.map fun s => Cell.str s.data.toList) v ∧ (∀ s ∈ ss, s.size ≤ maxLen) ∧ ss.length ≤ maxLen ∧ (d = .nil ∧ ss = [] ∨ ∃ sp, d = .slice (strs ss) (strs sp)) := by
  obtain ⟨a0, len0, cap0, rfl⟩ := okWide_slice ht hval
  obtain ⟨fuel, hf⟩ := h
  rcases open_strings ht he hc hf with ⟨h1, h2⟩ | ⟨a, len, cap, ss, h1, _, hl, hm, hz, hx, hcell, hsz⟩
  · simp only [Value.cells] at h1
    cases h1
    cases h2
    exact ⟨[], .snil, ArgR.nil W b, fun n hn => (by cases hn), Nat.zero_le _, .inl ⟨rfl, rfl⟩⟩
  · simp only [Value.cells] at h1
    cases h1
    cases hx
    simp only [if_true] at hz
    refine ⟨ss.take len0, .slc b 0 len0 1, ArgR.slice (vals := fun i => .string (ss.getD i ByteArray.empty)) hl (by simp; omega) (fun i hi => hcell i (by omega)) ?_, fun n hn => hsz n (List.mem_of_mem_take hn), by simp; omega, .inr ⟨_, rfl⟩⟩
    intro i c hc ρ
    rw [List.getElem?_map] at hc
    cases hz' : (ss.take len0)[i]? with
    | none => rw [hz'] at hc; cases hc
    | some z =>
      rw [hz'] at hc
      have hc : Cell.str z.data.toList = c := by simpa using hc
      subst hc
      have hz2 : ss[i]? = some z := by
        rw [List.getElem?_take] at hz'
        split at hz'
        · exact hz'
        · cases hz'
      show Value.string (ss.getD i ByteArray.empty) = .string ⟨z.data.toList.toArray⟩
      simp [hz2]

/-- the texts as lists of letters -/
theorem open_textsA {H : Type} {enc : TypeId × Value → H} {P : Program} {W : World} {base t e : Nat} {v : Value} {d : DataW H} {ps : List MemPlace} (b : Nat) (ht : P.underlying t = some (.slice e)) (he : P.underlying e = some .string) (hc : P.cellsOf e = 1)
    (hval : Value.okWide P W .any base t v) (h : DataW.Trod enc P W 0 (fun _ => true) true t v d ps) :
    ∃ (ss : List (List UInt8)) (x : Cell), ArgR W b x (ss.map Cell.str) v ∧ (∀ s ∈ ss, s.length ≤ maxLen) ∧ ss.length ≤ maxLen ∧ (d = .nil ∧ ss = [] ∨ ∃ sp, d = .slice (ss.map fun s => .lit (.string s)) sp) := by
  obtain ⟨ss, x, h1, h2, h3, h4⟩ := open_strsA b ht he hc hval h
  refine ⟨ss.map fun s => s.data.toList, x, by rw [List.map_map]; exact h1, ?_, by simpa using h3, ?_⟩
  · intro s hs
    obtain ⟨u, hu, rfl⟩ := List.mem_map.mp hs
    have := h2 u hu
    rw [Array.length_toList]; exact this
  · rcases h4 with ⟨h5, h6⟩ | ⟨sp, h5⟩
    · exact .inl ⟨h5, by rw [h6]; rfl⟩
    · exact .inr ⟨_, by rw [h5, List.map_map]; rfl⟩

/-- words of an unsigned kind -/
theorem open_natsA {H : Type} {enc : TypeId × Value → H} {P : Program} {W : World} {base t e : Nat} {k : IntKind} {v : Value} {d : DataW H} {ps : List MemPlace} (b : Nat) (hk : k.min = 0) (ht : P.underlying t = some (.slice e)) (he : P.underlying e = some (.int k)) (hc : P.cellsOf e = 1)
    (hval : Value.okWide P W .any base t v) (h : DataW.Trod enc P W 0 (fun _ => true) true t v d ps) :
    ∃ (ns : List Nat) (x : Cell), ArgR W b x (ns.map fun (n : Nat) => Cell.int k (n : Int)) v ∧ (∀ n ∈ ns, (n : Int) ≤ k.max) ∧ ns.length ≤ maxLen ∧ (d = .nil ∧ ns = [] ∨ ∃ sp, d = .slice (ns.map fun (n : Nat) => .lit (.int k (n : Int))) sp) := by
  obtain ⟨zs, x, h1, h2, h3, h4⟩ := open_intsA b ht he hc hval h
  have hz : ∀ z ∈ zs, 0 ≤ z ∧ z ≤ k.max := fun z hz => by
    have := h2 z hz
    simp only [Lit.wf, Bool.and_eq_true, decide_eq_true_eq, hk] at this
    exact this
  have e1 : zs = zs.map fun z => ((z.toNat : Nat) : Int) := by
    have : zs.map (fun z => ((z.toNat : Nat) : Int)) = zs.map id := List.map_congr_left fun z hz' => by have := (hz z hz').1; simp only [id]; omega
    rw [this]; simp
  refine ⟨zs.map Int.toNat, x, ?_, ?_, by simpa using h3, ?_⟩
  · rw [List.map_map]
    have : zs.map ((fun (n : Nat) => Cell.int k (n : Int)) ∘ Int.toNat) = zs.map fun z => Cell.int k z := List.map_congr_left fun z hz' => by have := (hz z hz').1; simp only [Function.comp]; congr 1; omega
    rw [this]; exact h1
  · intro n hn
    obtain ⟨z, hz', rfl⟩ := List.mem_map.mp hn
    have := hz z hz'; omega
  · rcases h4 with ⟨h5, h6⟩ | ⟨sp, h5⟩
    · exact .inl ⟨h5, by rw [h6]; rfl⟩
    · refine .inr ⟨lits k sp, ?_⟩
      rw [h5, List.map_map]
      congr 1
      simp only [lits]
      exact List.map_congr_left fun z hz' => by have := (hz z hz').1; simp only [Function.comp]; congr 2; omega

/-- heaps of blocks that are only read -/
theorem HR.ro1 {W : World} {r : Reg} {cs : List Cell} (h : ∀ ρ, BR W.heap.size ρ W r (.ro cs)) : HR W.heap.size [r] [.ro cs] W := by
  refine ⟨rfl, fun b x r' hx hr => ?_, fun b b' c c' g f c2 f' c3 h1 => ?_, Nat.le_refl _⟩
  · match b with
    | 0 => simp at hx hr; subst hx hr; exact h _
    | b + 1 => simp at hx
  · match b with
    | 0 => simp at h1
    | b + 1 => simp at h1
theorem HR.ro2 {W : World} {r s : Reg} {cs ds : List Cell} (h : ∀ ρ, BR W.heap.size ρ W r (.ro cs)) (k : ∀ ρ, BR W.heap.size ρ W s (.ro ds)) : HR W.heap.size [r, s] [.ro cs, .ro ds] W := by
  refine ⟨rfl, fun b x r' hx hr => ?_, fun b b' c c' g f c2 f' c3 h1 => ?_, Nat.le_refl _⟩
  · match b with
    | 0 => simp at hx hr; subst hx hr; exact h _
    | 1 => simp at hx hr; subst hx hr; exact k _
    | b + 2 => simp at hx
  · match b with
    | 0 => simp at h1
    | 1 => simp at h1
    | b + 2 => simp at h1

/-- an array of words, by value -/
theorem open_wordsA {H : Type} {enc : TypeId × Value → H} {P : Program} {W : World} {base t e n : Nat} {k : IntKind} {v : Value} {d : DataW H} {ps : List MemPlace} (hk : k.min = 0) (ht : P.underlying t = some (.array n e)) (he : P.underlying e = some (.int k)) (hc : P.cellsOf e = 1) (hct : P.cellsOf t = n)
    (hval : Value.okWide P W .any base t v) (h : DataW.Trod enc P W 0 (fun _ => true) true t v d ps) :
    ∃ ns : List Nat, ns.length = n ∧ (∀ m ∈ ns, (m : Int) ≤ k.max) ∧ ∀ ρ, VR ρ (.agg (ns.map fun (m : Nat) => Cell.int k (m : Int))) v := by
  simp only [Value.okWide, ht] at hval
  obtain ⟨cs, rfl, hs, _⟩ := hval
  obtain ⟨fuel, hf⟩ := h
  obtain ⟨xs, m, rfl, _, hl, hx, hel⟩ := DataW.trod_array ht hf
  simp only [Value.cells] at hl hel
  rw [hct] at hl
  have each : ∀ i (hi : i < cs.toList.length), ∃ z : Nat, cs.toList[i] = .int k (z : Int) ∧ (z : Int) ≤ k.max := by
    intro i hi
    have h1 := hel i (by omega)
    rw [hc, Nat.mul_one] at h1
    have h2 : (cs.toList.drop i).take 1 = [cs.toList[i]] := by
      rw [List.drop_eq_getElem_cons hi]; rfl
    rw [h2, List.getElem?_eq_getElem (by omega)] at h1
    obtain ⟨z, hz, _, hw⟩ := DataW.trod_int he h1
    have hz : cs.toList[i] = .int k z := by simpa using hz
    simp only [Lit.wf, Bool.and_eq_true, decide_eq_true_eq, hk] at hw
    obtain ⟨u, rfl⟩ := Int.eq_ofNat_of_zero_le hw.1
    exact ⟨u, hz, hw.2⟩
  let ns : List Nat := cs.toList.map fun v => match v with | .int _ z => z.toNat | _ => 0
  have en : cs.toList = ns.map fun (m : Nat) => Value.int k (m : Int) := by
    apply List.ext_getElem (by simp [ns])
    intro i h1 h2
    obtain ⟨z, hz, _⟩ := each i h1
    simp only [ns, List.getElem_map, hz, Int.toNat_natCast]
  refine ⟨ns, by simp only [ns, List.length_map]; omega, ?_, fun ρ => ⟨cs.toList, by simp, ?_⟩⟩
  · intro m hm
    obtain ⟨u, hu, rfl⟩ := List.mem_map.mp hm
    obtain ⟨i, hi, rfl⟩ := List.mem_iff_getElem.mp hu
    obtain ⟨z, hz, hb⟩ := each i hi
    rw [hz]; simpa using hb
  · rw [en]
    exact ⟨by simp, fun i x hx => by
      rw [List.getElem?_map] at hx
      cases hn : ns[i]? with
      | none => rw [hn] at hx; cases hx
      | some z =>
        rw [hn] at hx
        have hx : Cell.int k (z : Int) = x := by simpa using hx
        subst hx
        exact ⟨.int k z, by rw [List.getElem?_map, hn]; rfl, (rfl : Value.int k (z : Int) = .int k z)⟩⟩
end PAbs

/- Slices in the abstract heap: such as may be read, such as are one's own; append. -/
namespace PAbs
open Go
set_option linter.unusedSimpArgs false
set_option linter.unusedVariables false

/-- a slice that may be read: these cells -/
def Rd (H : AHeap) (x : Cell) (sz : Nat) (cs : List Cell) : Prop := (x = .snil ∧ cs = []) ∨ ∃ s o n, x = .slc s o n sz ∧ cs.length = n * sz ∧ readN H s o (n * sz) = some cs
/-- a slice that is one's own, the whole of its block, which is not below f -/
def Own (f : Nat) (H : AHeap) (x : Cell) (sz : Nat) (cs : List Cell) : Prop := (x = .snil ∧ cs = []) ∨ ∃ s n, x = .slc s 0 n sz ∧ cs.length = n * sz ∧ f ≤ s ∧ hown H s = some cs
/-- of no common block -/
def Apart (x y : Cell) : Prop := ∀ s o n z s' o' n' z', x = .slc s o n z → y = .slc s' o' n' z' → s ≠ s'

theorem readN_all {H : AHeap} {s : Nat} {cs : List Cell} (h : hcells H s = some cs) : readN H s 0 cs.length = some cs := by simp [readN, h]

theorem Own.rd {f : Nat} {H : AHeap} {x : Cell} {sz : Nat} {cs : List Cell} (h : Own f H x sz cs) : Rd H x sz cs := by
  rcases h with h | ⟨s, n, h1, h2, _, h4⟩
  · exact .inl h
  · exact .inr ⟨s, 0, n, h1, h2, by rw [← h2]; exact readN_all (hcells_own h4)⟩
theorem Own.mono {f g : Nat} {H : AHeap} {x : Cell} {sz : Nat} {cs : List Cell} (h : Own f H x sz cs) (hg : g ≤ f) : Own g H x sz cs := by
  rcases h with h | ⟨s, n, h1, h2, h3, h4⟩
  · exact .inl h
  · exact .inr ⟨s, n, h1, h2, by omega, h4⟩
theorem Own.nil {f : Nat} {H : AHeap} {sz : Nat} : Own f H .snil sz [] := .inl ⟨rfl, rfl⟩
theorem Own.app {f : Nat} {H l : AHeap} {x : Cell} {sz : Nat} {cs : List Cell} (h : Own f H x sz cs) : Own f (H ++ l) x sz cs := by
  rcases h with h | ⟨s, n, h1, h2, h3, h4⟩
  · exact .inl h
  · exact .inr ⟨s, n, h1, h2, h3, hown_app h4⟩
theorem Own.kept {f : Nat} {H H' : AHeap} {x : Cell} {sz : Nat} {cs : List Cell} (h : Own f H x sz cs) (hk : Kept H.length H H') : Own f H' x sz cs := by
  rcases h with h | ⟨s, n, h1, h2, h3, h4⟩
  · exact .inl h
  · exact .inr ⟨s, n, h1, h2, h3, by rw [hk.hown (hown_lt h4) (hown_lt h4)]; exact h4⟩
theorem Own.lt {f : Nat} {H : AHeap} {sz s o n z : Nat} {cs : List Cell} (h : Own f H (.slc s o n z) sz cs) : s < H.length := by
  rcases h with ⟨h, _⟩ | ⟨s', n', h1, h2, h3, h4⟩
  · cases h
  · cases h1; exact hown_lt h4
theorem Own.one {f : Nat} {H : AHeap} {cs : List Cell} (hf : f ≤ H.length) : Own f (H ++ [.own cs]) (.slc H.length 0 cs.length 1) 1 cs := .inr ⟨_, _, rfl, by omega, hf, hown_last⟩
theorem readN_kept {H H' : AHeap} {s o n : Nat} {cs : List Cell} (h : readN H s o n = some cs) (hk : Kept H.length H H') : readN H' s o n = some cs := by
  simp only [readN] at h ⊢
  cases hc : hcells H s with
  | none => rw [hc] at h; cases h
  | some l => rw [hk.hcells (hcells_lt hc) (hcells_lt hc), hc]; rw [hc] at h; exact h
theorem Rd.kept {H H' : AHeap} {x : Cell} {sz : Nat} {cs : List Cell} (h : Rd H x sz cs) (hk : Kept H.length H H') : Rd H' x sz cs := by
  rcases h with h | ⟨s, o, n, h1, h2, h3⟩
  · exact .inl h
  · exact .inr ⟨s, o, n, h1, h2, readN_kept h3 hk⟩
theorem Rd.of_arg {H : AHeap} {b : Nat} {x : Cell} {cs : List Cell} (h : SlA b x cs.length) (hc : hcells H b = some cs) : Rd H x 1 cs := by
  rcases h with ⟨h1, h2⟩ | h
  · exact .inl ⟨h1, List.length_eq_zero_iff.mp h2⟩
  · exact .inr ⟨b, 0, cs.length, h, by omega, by rw [Nat.mul_one]; exact readN_all hc⟩
theorem Kept.more (f : Nat) (H l : AHeap) : Kept f H (H ++ l) := ⟨by simp, fun b _ h => by simp [List.getElem?_append, h]⟩

/-- what stands at place i -/
theorem Rd.get {H : AHeap} {x : Cell} {cs : List Cell} (h : Rd H x 1 cs) {i : Nat} (hi : i < cs.length) : ∃ s o full, x = .slc s o cs.length 1 ∧ hcells H s = some full ∧ full[o + i]? = cs[i]? := by
  rcases h with ⟨_, h⟩ | ⟨s, o, n, h1, h2, h3⟩
  · rw [h] at hi; simp at hi
  · obtain rfl : n = cs.length := by omega
    simp only [readN] at h3
    cases hc : hcells H s with
    | none => rw [hc] at h3; cases h3
    | some l =>
      rw [hc] at h3
      simp only at h3
      split at h3
      · have h3 := Option.some.inj h3
        refine ⟨s, o, l, h1, hc, ?_⟩
        conv => rhs; rw [← h3]
        rw [List.getElem?_take, if_pos (by omega), List.getElem?_drop]
      · cases h3
theorem Rd.cells {H : AHeap} {x : Cell} {sz : Nat} {cs : List Cell} (h : Rd H x sz cs) : sliceCells H sz (.c x) = some cs := by
  rcases h with ⟨rfl, rfl⟩ | ⟨s, o, n, rfl, h2, h3⟩
  · rfl
  · simp only [sliceCells, if_true]; exact h3

theorem exec_len {call : ACall} {fl : Nat} {fr : AFrame} {H : AHeap} {x : Cell} {cs : List Cell} {o : AOpd} (h : Rd H x 1 cs) (ho : o.ev fr = .c x) : execA call fl fr H (.len false o) = some (.c (.int .i64 (cs.length : Int)), H) := by
  rcases h with ⟨rfl, rfl⟩ | ⟨s, b, n, rfl, h2, h3⟩
  · simp only [execA, stepA, ho, i64]; rfl
  · obtain rfl : n = cs.length := by omega
    simp only [readN] at h3
    cases hc : hcells H s with
    | none => rw [hc] at h3; cases h3
    | some l => simp only [execA, stepA, ho, i64, hc]; rfl

theorem exec_lenN {call : ACall} {fl n : Nat} {fr : AFrame} {H : AHeap} {x : Cell} {cs : List Cell} {o : AOpd} (h : Rd H x 1 cs) (hn : cs.length = n) (ho : o.ev fr = .c x) : execA call fl fr H (.len false o) = some (.c (.int .i64 (n : Int)), H) := by
  subst hn; exact exec_len h ho

theorem exec_append {call : ACall} {fl f sz bytes : Nat} {fr : AFrame} {H : AHeap} {x : Cell} {y : AV} {cs news zero : List Cell} {o1 o2 : AOpd} (hx : Own f H x sz cs) (hy : sliceCells H sz y = some news) (hz : zero.length = sz) (hsz : 0 < sz) (hn : news.length % sz = 0) (hf : fl ≤ f) (hfH : f ≤ H.length)
    (hb : (cs.length + news.length) * bytes ≤ 140737488355328) (h1 : o1.ev fr = .c x) (h2 : o2.ev fr = y) :
    ∃ x' H', execA call fl fr H (.append zero bytes o1 o2) = some (.c x', H') ∧ Own f H' x' sz (cs ++ news) ∧ Kept f H H' ∧ ∀ z ds k, Own f H z k ds → Apart x z → Own f H' z k ds ∧ Apart x' z := by
  have hdiv : news.length = news.length / sz * sz := by
    have := Nat.div_add_mod news.length sz; rw [hn, Nat.add_zero, Nat.mul_comm] at this; exact this.symm
  rcases hx with ⟨rfl, rfl⟩ | ⟨s, n, rfl, hl, hs, ho⟩
  · have hb' : news.length * bytes ≤ 140737488355328 := by simpa using hb
    refine ⟨.slc H.length 0 (news.length / sz) sz, H ++ [.own news], ?_, .inr ⟨H.length, news.length / sz, rfl, by simpa using hdiv, hfH, hown_last⟩, Kept.more _ _ _, fun z ds k hz' ha => ⟨hz'.app, ?_⟩⟩
    · simp only [execA, stepA, h1, h2, appendA, hz, hy, hb', if_true]
    · intro s o n z s' o' n' z' e1 e2
      cases e1; subst e2
      have := hz'.lt; omega
  · have ls := hown_lt ho
    have hb' : (n * sz + news.length) * bytes ≤ 140737488355328 := by rw [← hl]; exact hb
    refine ⟨.slc H.length 0 (n + news.length / sz) sz, H.set s .dead ++ [.own (cs ++ news)], ?_, .inr ⟨H.length, _, rfl, ?_, hfH, ?_⟩, ⟨by simp, fun b hb1 hb2 => ?_⟩, fun z ds k hz' ha => ⟨?_, ?_⟩⟩
    · simp only [execA, stepA, h1, h2, appendA, hz, hy, ho]
      rw [if_pos ⟨by omega, by first | rfl | trivial, by omega, hb'⟩]; simp
    · simp only [List.length_append, Nat.add_mul, ← hdiv, hl]
    · have := hown_last (H := H.set s .dead) (cs := cs ++ news)
      simpa using this
    · rw [List.getElem?_append, if_pos (by simpa using hb2), List.getElem?_set, if_neg (by omega)]
    · rcases hz' with h | ⟨s', n', rfl, h4, h5, h6⟩
      · exact .inl h
      · exact .inr ⟨s', n', rfl, h4, h5, by
          refine hown_app ?_
          rw [hown_set_ne (ha _ _ _ _ _ _ _ _ rfl rfl)]; exact h6⟩
    · intro s o n z s' o' n' z' e1 e2
      cases e1; subst e2
      have := hz'.lt; omega

theorem Apart.symm {x y : Cell} (h : Apart x y) : Apart y x := fun s o n z s' o' n' z' e1 e2 e => h _ _ _ _ _ _ _ _ e2 e1 e.symm
theorem Apart.nil {y : Cell} : Apart .snil y := fun s o n z s' o' n' z' e1 => by cases e1

/-- append, in a statement -/
theorem AO_append {A : Nat → Option AFn} {fl f sz bytes : Nat} {fr : AFrame} {H : AHeap} {x : Cell} {y : AV} {cs news zero : List Cell} {o1 o2 : AOpd} {d : Option Nat} {rest : List AOper} {Q : AFrame → AHeap → Prop} (hx : Own f H x sz cs) (hy : sliceCells H sz y = some news) (hz : zero.length = sz) (hsz : 0 < sz) (hn : news.length % sz = 0) (hf : fl ≤ f) (hfH : f ≤ H.length)
    (hb : (cs.length + news.length) * bytes ≤ 140737488355328) (h1 : o1.ev fr = .c x) (h2 : o2.ev fr = y)
    (h : ∀ x' H', Own f H' x' sz (cs ++ news) → Kept f H H' → (∀ z ds k, Own f H z k ds → Apart x z → Own f H' z k ds ∧ Apart x' z) → AO A fl rest (putA fr d (.c x')) H' Q) : AO A fl (⟨d, .append zero bytes o1 o2, none⟩ :: rest) fr H Q := by
  obtain ⟨x', H', e, h3, h4, h5⟩ := exec_append (call := noCall) hx hy hz hsz hn hf hfH hb h1 h2
  exact AO_step rfl e (h x' H' h3 h4 h5)
theorem cells_last {H : AHeap} {cs : List Cell} {n : Nat} (h : cs.length = n) : sliceCells (H ++ [.own cs]) 1 (.c (.slc H.length 0 n 1)) = some cs := by
  subst h
  simp only [sliceCells, if_true, Nat.mul_one]; exact readN_all hcells_last
end PAbs

/- Arguments of plain kinds (whole numbers, texts, bools, arrays and structs of these), and slices of such. -/
namespace PAbs
open Go Go.RowKit Go.ChangeShapes Go.WideShapes Go.ChangeAt
set_option linter.unusedSimpArgs false
set_option linter.unusedVariables false

def CK.wf (k : CK) (c : Cell) : Bool :=
  match k, c with
  | .int k, .int k' n => decide (k' = k) && (Lit.int k n).wf
  | .str, .str s => decide (s.length ≤ maxLen)
  | .bool, .bool _ => true
  | _, _ => false
/-- cells of these kinds, within their bounds -/
def wfAll : List CK → List Cell → Bool
  | [], [] => true
  | k :: sh, c :: cs => k.wf c && wfAll sh cs
  | _, _ => false
theorem wfAll_length : ∀ {sh : List CK} {cs : List Cell}, wfAll sh cs = true → cs.length = sh.length
  | [], [], _ => rfl
  | [], _ :: _, h => by cases h
  | _ :: _, [], h => by cases h
  | k :: sh, c :: cs, h => by
    simp only [wfAll, Bool.and_eq_true] at h
    simp [wfAll_length h.2]
theorem wfAll_append : ∀ {a b : List CK} {x y : List Cell}, wfAll a x = true → wfAll b y = true → wfAll (a ++ b) (x ++ y) = true
  | [], b, [], y, _, h => h
  | [], _, _ :: _, _, h, _ => by cases h
  | _ :: _, _, [], _, h, _ => by cases h
  | k :: a, b, c :: x, y, h, h2 => by
    simp only [wfAll, Bool.and_eq_true, List.cons_append] at h ⊢
    exact ⟨h.1, wfAll_append h.2 h2⟩

theorem listEx {α : Type} {p : Nat → α → Prop} : ∀ n, (∀ i, i < n → ∃ x, p i x) → ∃ l : List α, l.length = n ∧ ∀ i x, l[i]? = some x → p i x
  | 0, _ => ⟨[], rfl, fun i x h => by simp at h⟩
  | n + 1, h => by
    obtain ⟨l, hl, hp⟩ := listEx n fun i hi => h i (by omega)
    obtain ⟨x, hx⟩ := h n (by omega)
    refine ⟨l ++ [x], by simp [hl], fun i y hy => ?_⟩
    rw [List.getElem?_append] at hy
    split at hy
    · exact hp i y hy
    · rename_i hi
      have : i - l.length = 0 := by
        have := (List.getElem?_eq_some_iff.1 hy).1
        simpa using this
      rw [this] at hy
      simp at hy; subst hy
      obtain rfl : i = n := by omega
      exact hx
theorem flatZ_get {α : Type} {sz : Nat} (hz : 0 < sz) : ∀ {els : List (List α)}, (∀ e ∈ els, e.length = sz) → ∀ k, els.flatten[k]? = (els[k / sz]?).bind (·[k % sz]?)
  | [], _, k => by simp
  | e :: els, h, k => by
    have he := h e (by simp)
    have ih := flatZ_get hz (els := els) (fun x hx => h x (by simp [hx]))
    rw [List.flatten_cons, List.getElem?_append]
    split
    · rename_i hk
      rw [he] at hk
      rw [Nat.div_eq_of_lt hk, Nat.mod_eq_of_lt hk]; rfl
    · rename_i hk
      rw [he] at hk ⊢
      rw [ih]
      have h1 : k / sz = (k - sz) / sz + 1 := by
        have : k = (k - sz) + sz := by omega
        rw [this, Nat.add_div_right _ hz, Nat.add_sub_cancel]
      have h2 : k % sz = (k - sz) % sz := by
        have : k = (k - sz) + sz := by omega
        rw [this, Nat.add_mod_right, Nat.add_sub_cancel]
      rw [h1, h2]; rfl
theorem flat_len {α : Type} {sz : Nat} : ∀ {els : List (List α)}, (∀ e ∈ els, e.length = sz) → els.flatten.length = els.length * sz
  | [], _ => by simp
  | e :: els, h => by
    rw [List.flatten_cons, List.length_append, flat_len (fun x hx => h x (by simp [hx])), h e (by simp), List.length_cons, Nat.add_mul]; omega

section
variable {H : Type} {enc : TypeId × Value → H} {P : Program} {W : World} {base : Nat} {spare : Nat → Bool} {held : Bool}
theorem cellsOf_size {t : TypeId} {n : Nat} (h : sizeT P t = some n) : P.cellsOf t = n := by
  simp only [sizeT] at h
  simp only [Program.cellsOf, h, Option.getD_some]

def FlatOf (P : Program) (enc : TypeId × Value → H) (W : World) (base : Nat) (spare : Nat → Bool) (held : Bool) (t : TypeId) (sh : List CK) : Prop :=
  P.cellsOf t = sh.length → ∀ fuel cs x, DataW.trod enc P W base spare held fuel t cs = some x → ∃ cells : List Cell, wfAll sh cells = true ∧ ∀ ρ, L2 (CR ρ) cells cs

theorem flat_parts {n sz : Nat} {cs : List Value} {sh : List CK} (hsh : sh.length = sz) (h : ∀ i, i < n → ∃ cells : List Cell, wfAll sh cells = true ∧ ∀ ρ, L2 (CR ρ) cells ((cs.drop (i * sz)).take sz)) (hl : cs.length = n * sz) :
    ∃ cells : List Cell, wfAll (List.replicate n sh).flatten cells = true ∧ ∀ ρ, L2 (CR ρ) cells cs := by
  induction n generalizing cs with
  | zero =>
    obtain rfl : cs = [] := List.length_eq_zero_iff.1 (by simpa using hl)
    exact ⟨[], rfl, fun ρ => L2.nil⟩
  | succ n ih =>
    obtain ⟨c0, w0, r0⟩ := h 0 (by omega)
    obtain ⟨c1, w1, r1⟩ := ih (cs := cs.drop sz) (fun i hi => by
      obtain ⟨c, w, r⟩ := h (i + 1) (by omega)
      refine ⟨c, w, ?_⟩
      rw [List.drop_drop, show sz + i * sz = (i + 1) * sz by rw [Nat.add_mul]; omega]
      exact r) (by rw [List.length_drop, hl, Nat.add_mul]; omega)
    refine ⟨c0 ++ c1, ?_, fun ρ => ?_⟩
    · rw [List.replicate_succ, List.flatten_cons]; exact wfAll_append w0 w1
    · have := (r0 ρ).append (r1 ρ)
      rwa [Nat.zero_mul, List.drop_zero, List.take_append_drop] at this

theorem flat_fields {d : Nat} (IH : ∀ t sh, shapeT P d t = some sh → FlatOf P enc W base spare held t sh) {n : Nat} {cs : List Value} {xs : List (DataW H × List MemPlace)} :
    ∀ (fs : List Field) (off k : Nat) (sh : List CK), shapeT.shapeFs P (shapeT P d) off fs = some sh →
      (∀ i f, fs[i]? = some f → DataW.trod enc P W base spare held n f.type ((cs.drop f.offset).take (P.cellsOf f.type)) = xs[k + i]?) → k + fs.length = xs.length → cs.length = off + sh.length →
      ∃ cells : List Cell, wfAll sh cells = true ∧ ∀ ρ, L2 (CR ρ) cells (cs.drop off)
  | [], off, k, sh, h, _, _, hl => by
    simp [shapeT.shapeFs] at h; subst h
    refine ⟨[], rfl, fun ρ => ?_⟩
    rw [List.drop_eq_nil_of_le (by simp at hl; omega)]; exact L2.nil
  | f :: r, off, k, sh, h, hx, hk, hl => by
    simp only [shapeT.shapeFs] at h
    split at h
    · rename_i s s' hs hs'
      split at h
      · rename_i hc
        obtain ⟨_, hoff, hn⟩ := hc
        have e : s ++ s' = sh := by simpa using h
        subst e
        rw [hn] at hs'
        simp only [Option.getD_some] at hs'
        have h0 := hx 0 f rfl
        rw [Nat.add_zero, hoff, cellsOf_size hn] at h0
        have hkx : k < xs.length := by simp at hk; omega
        rw [List.getElem?_eq_getElem hkx] at h0
        obtain ⟨c0, w0, r0⟩ := IH _ _ hs (cellsOf_size hn) _ _ _ h0
        obtain ⟨c1, w1, r1⟩ := flat_fields IH r (off + s.length) (k + 1) s' hs' (fun i g hg => by
          have := hx (i + 1) g (by simpa using hg)
          rw [show k + 1 + i = k + (i + 1) by omega]; exact this) (by simp at hk; omega) (by simp at hl; omega)
        refine ⟨c0 ++ c1, wfAll_append w0 w1, fun ρ => ?_⟩
        have := (r0 ρ).append (r1 ρ)
        rwa [← List.drop_drop, List.take_append_drop] at this
      · cases h
    · cases h

theorem trod_flat : ∀ (d : Nat) (t : TypeId) (sh : List CK), shapeT P d t = some sh → FlatOf P enc W base spare held t sh
  | 0, _, _, h => by simp [shapeT] at h
  | d + 1, t, sh, h => by
    intro hct fuel cs x hx
    unfold shapeT at h
    cases hu : P.underlying t with
    | none => simp [hu] at h
    | some kd =>
      rw [hu] at h
      cases kd <;> simp only at h <;> try (cases h; done)
      case bool =>
        simp at h; subst h
        obtain ⟨b, rfl, _⟩ := DataW.trod_bool hu hx
        exact ⟨[.bool b], rfl, fun ρ => L2.cons L2.nil rfl⟩
      case int q =>
        simp at h; subst h
        obtain ⟨n, rfl, _, hw⟩ := DataW.trod_int hu hx
        exact ⟨[.int q n], by simp [wfAll, CK.wf, hw], fun ρ => L2.cons L2.nil rfl⟩
      case string =>
        simp at h; subst h
        obtain ⟨s, rfl, _, hw⟩ := DataW.trod_string hu hx
        refine ⟨[.str s.data.toList], ?_, fun ρ => L2.cons L2.nil ?_⟩
        · have : s.data.toList.length ≤ maxLen := by rw [Array.length_toList]; exact hw
          simp only [wfAll, CK.wf, decide_eq_true this, Bool.and_true]
        · show Value.string s = .string ⟨s.data.toList.toArray⟩
          simp
      case array n e =>
        split at h
        · rename_i s hs
          split at h
          · rename_i hc
            obtain ⟨hc, hn⟩ := hc
            have e' : (List.replicate n s).flatten = sh := by simpa using h
            subst e'
            obtain ⟨xs, m, _, _, hl, hxl, hel⟩ := DataW.trod_array hu hx
            refine flat_parts (sz := s.length) rfl (fun i hi => ?_) ?_
            · have h1 := hel i (by omega)
              rw [hc, List.getElem?_eq_getElem (by omega)] at h1
              exact trod_flat d e s hs hc _ _ _ h1
            · rw [hl, hct]; simp
          · cases h
        · cases h
      case struct fs =>
        split at h
        · cases h
        · obtain ⟨xs, m, _, _, hl, hxl, hel⟩ := DataW.trod_struct hu hx
          have := flat_fields (P := P) (enc := enc) (W := W) (base := base) (spare := spare) (held := held) (fun t sh h => trod_flat d t sh h) fs.toList 0 0 sh h (fun i f hf => by
            rw [Nat.zero_add]
            exact hel i f (by simpa using hf)) (by simp [hxl]) (by rw [hl, hct]; omega)
          simpa using this

/-- a slice argument: nil, or block b from its first cell on -/
def SlZ (b : Nat) (x : Cell) (n sz : Nat) : Prop := (x = .snil ∧ n = 0) ∨ x = .slc b 0 n sz
theorem Rd.of_argZ {H : AHeap} {b n sz : Nat} {x : Cell} {cs : List Cell} (h : SlZ b x n sz) (hl : cs.length = n * sz) (hc : hcells H b = some cs) : Rd H x sz cs := by
  rcases h with ⟨rfl, rfl⟩ | rfl
  · exact .inl ⟨rfl, List.length_eq_zero_iff.1 (by simpa using hl)⟩
  · refine .inr ⟨b, 0, n, rfl, hl, ?_⟩
    simp only [readN, hc, hl]
    simp only [Nat.zero_add, Nat.le_refl, if_true, List.drop_zero]
    rw [List.take_of_length_le (by omega)]
def ArgZ (W : World) (b : Nat) (x : Cell) (sz n : Nat) (cs : List Cell) (v : Value) : Prop :=
  SlZ b x n sz ∧ cs.length = n * sz ∧ ∃ r : Reg, (∀ ρ, BR W.heap.size ρ W r (.ro cs)) ∧ ∀ ρ : List Reg, ρ[b]? = some r → VR ρ (.c x) v
theorem cells_at {a : Addr} {n : Nat} {vs : List Value} (h : W.cells? base a n = some vs) : vs.length = n ∧ ∀ j, j < n → W.cell? (a.add j) = vs[j]? := by
  unfold World.cells? at h
  split at h
  · refine ⟨by simpa using mapM_some_length h, fun j hj => ?_⟩
    have := mapM_some_get h j j (by simp [hj])
    exact this
  · cases h
theorem add_add (a : Addr) (i j : Nat) : (a.add i).add j = a.add (i + j) := by
  by_cases hi : i = 0 <;> by_cases hj : j = 0 <;> simp [Addr.add, hi, hj, Nat.add_assoc]
theorem open_flatA {t e : TypeId} {sh : List CK} {v : Value} {d : DataW H} {ps : List MemPlace} (b dep : Nat) (ht : P.underlying t = some (.slice e)) (hsh : shapeT P dep e = some sh) (hc : P.cellsOf e = sh.length) (hz : 0 < sh.length)
    (hval : Value.okWide P W .any base t v) (h : DataW.Trod enc P W 0 (fun _ => true) true t v d ps) :
    ∃ (els : List (List Cell)) (x : Cell), ArgZ W b x sh.length els.length els.flatten v ∧ (∀ el ∈ els, wfAll sh el = true) ∧ els.length ≤ maxLen ∧ (d = .nil ∧ els = [] ∨ ∃ es sp, d = .slice es sp ∧ es.length = els.length) := by
  obtain ⟨a0, len0, cap0, rfl⟩ := okWide_slice ht hval
  obtain ⟨fuel, hf⟩ := h
  rcases DataW.trod_slice ht hf with ⟨h1, h2⟩ | ⟨a, len, cap, elems, rest, n, _, h1, hx, _, hl, hm, hlen, hel, hsp, _⟩
  · simp only [Value.cells] at h1
    cases h1
    cases h2
    exact ⟨[], .snil, ⟨.inl ⟨rfl, rfl⟩, by simp, .empty, fun ρ => (rfl : ([] : List Cell) = []), fun ρ h => (rfl : Value.slice none 0 0 = .slice none 0 0)⟩, fun n hn => (by cases hn), Nat.zero_le _, .inl ⟨rfl, rfl⟩⟩
  · simp only [Value.cells] at h1
    cases h1
    cases hx
    obtain ⟨hrl, hre⟩ := hsp rfl
    rw [hc] at hel hre
    -- every element, also those to spare
    have each : ∀ i, i < cap0 → ∃ cells : List Cell, wfAll sh cells = true ∧ ∃ vs : List Value, vs.length = sh.length ∧ (∀ j, j < sh.length → W.cell? (a.add (i * sh.length + j)) = vs[j]?) ∧ ∀ ρ, L2 (CR ρ) cells vs := fun i hi => by
      have : ∃ y, (W.cells? 0 (a.add (i * sh.length)) sh.length).bind (DataW.trod enc P W 0 (fun _ => true) true n e) = some y := by
        rcases Nat.lt_or_ge i len0 with h | h
        · exact ⟨_, (hel i h).trans (List.getElem?_eq_getElem (by omega))⟩
        · have := hre (i - len0) (by omega)
          rw [show len0 + (i - len0) = i by omega] at this
          exact ⟨_, this.trans (List.getElem?_eq_getElem (by omega))⟩
      obtain ⟨y, hy⟩ := this
      cases hv : W.cells? 0 (a.add (i * sh.length)) sh.length with
      | none => rw [hv] at hy; cases hy
      | some vs =>
        rw [hv] at hy
        obtain ⟨cells, hw, hr⟩ := trod_flat dep e sh hsh hc _ _ _ hy
        obtain ⟨hvl, hva⟩ := cells_at hv
        exact ⟨cells, hw, vs, hvl, fun j hj => by rw [← add_add]; exact hva j hj, hr⟩
    obtain ⟨all, hal, hall⟩ := listEx cap0 each
    have hlens : ∀ e ∈ all, e.length = sh.length := fun e he => by
      obtain ⟨i, hi, rfl⟩ := List.getElem_of_mem he
      exact wfAll_length (hall i _ (List.getElem?_eq_getElem hi)).1
    have hlent : ∀ e ∈ all.take len0, e.length = sh.length := fun e he => hlens e (List.mem_of_mem_take he)
    have htl : (all.take len0).length = len0 := by rw [List.length_take]; omega
    have hfl : (all.take len0).flatten.length = len0 * sh.length := by rw [flat_len hlent, htl]
    refine ⟨all.take len0, .slc b 0 len0 sh.length, ⟨.inr (by rw [htl]), by rw [hfl, htl], ?_⟩, fun el he => ?_, by rw [htl]; omega, .inr ⟨_, _, rfl, by rw [htl]; simp [hlen]⟩⟩
    · rcases Nat.eq_zero_or_pos cap0 with h0 | hp
      · subst h0
        obtain rfl : len0 = 0 := by omega
        refine ⟨.empty, fun ρ => ?_, fun ρ h => ?_⟩
        · show (all.take 0).flatten = []
          simp
        · show CR ρ (.slc b 0 0 sh.length) _
          simp only [CR, h]
          exact ⟨trivial, _, rfl⟩
      · obtain ⟨g, o, spot⟩ := a
        obtain ⟨c0, hc0⟩ : ∃ c0, all[0]? = some c0 := ⟨_, List.getElem?_eq_getElem (by omega)⟩
        obtain ⟨_, vs0, hvl0, hva0, _⟩ := hall 0 c0 hc0
        have h00 := hva0 0 hz
        rw [List.getElem?_eq_getElem (by omega)] at h00
        have hspot : spot = none := by simpa [Addr.add] using World.cell?_spot h00
        subst hspot
        have h00' : W.cell? ⟨g, o, none⟩ = some (vs0[0]'(by omega)) := by simpa [Addr.add] using h00
        obtain ⟨arr, ty, fz, hh, _⟩ := cell_heap h00'
        have hg : g < W.heap.size := (Array.getElem?_eq_some_iff.mp hh).1
        refine ⟨.at g o (cap0 * sh.length), fun ρ => ⟨hg, by rw [hfl]; exact Nat.mul_le_mul_right _ hl, arr, ty, fz, hh, fun k x hx => ?_⟩, fun ρ h => ?_⟩
        · rw [flatZ_get hz hlent] at hx
          have hk : k / sh.length < len0 := by
            rcases Nat.lt_or_ge (k / sh.length) len0 with h | h
            · exact h
            · rw [List.getElem?_eq_none (by omega)] at hx; cases hx
          rw [List.getElem?_take, if_pos hk] at hx
          cases he : all[k / sh.length]? with
          | none => rw [he] at hx; cases hx
          | some el =>
            rw [he] at hx
            simp only [Option.bind_some] at hx
            obtain ⟨hw, vs, hvl, hva, hR⟩ := hall _ _ he
            obtain ⟨u, hu, hc'⟩ := (hR ρ).2 _ _ hx
            have hk2 : k % sh.length < sh.length := Nat.mod_lt _ hz
            have h2 := hva (k % sh.length) hk2
            rw [hu, show k / sh.length * sh.length + k % sh.length = k by rw [Nat.mul_comm]; exact Nat.div_add_mod _ _, add_plain] at h2
            obtain ⟨arr', ty', fz', hh', hv'⟩ := cell_heap h2
            rw [hh] at hh'
            cases hh'
            exact ⟨u, hv', hc'⟩
        · show CR ρ (.slc b 0 len0 sh.length) _
          simp only [CR, h]
          exact .inl ⟨cap0, by simp, hl, by omega⟩
    · obtain ⟨i, hi, rfl⟩ := List.getElem_of_mem he
      have : all[i]? = some (all.take len0)[i] := by
        have h1 := List.getElem?_eq_getElem hi
        rw [List.getElem?_take] at h1
        split at h1
        · exact h1
        · cases h1
      exact (hall i _ this).1
/-- a struct or an array of plain kinds, by value -/
theorem open_valueA {t : TypeId} {sh : List CK} {v : Value} {d : DataW H} {ps : List MemPlace} (dep : Nat) (hag : aggT P t = some true) (hsh : shapeT P dep t = some sh) (hc : P.cellsOf t = sh.length)
    (hval : Value.okWide P W .any base t v) (h : DataW.Trod enc P W 0 (fun _ => true) true t v d ps) : ∃ cells : List Cell, wfAll sh cells = true ∧ ∀ ρ, VR ρ (.agg cells) v := by
  have : ∃ cs, v = .agg cs := by
    simp only [aggT] at hag
    cases hu : P.underlying t with
    | none => rw [hu] at hag; cases hag
    | some k =>
      rw [hu] at hag
      simp only [Value.okWide, hu] at hval
      cases k <;> simp at hag <;> first | (obtain ⟨cs, rfl, _⟩ := hval; exact ⟨cs, rfl⟩) | skip
  obtain ⟨cs, rfl⟩ := this
  obtain ⟨fuel, hf⟩ := h
  obtain ⟨cells, hw, hr⟩ := trod_flat dep t sh hsh hc _ _ _ hf
  exact ⟨cells, hw, fun ρ => ⟨cs.toList, by simp, hr ρ⟩⟩
end
end PAbs

/- Steps that go as far as they can: operations up to the first call or append; lengths by facts; loops that count up. -/
namespace PAbs
open Go
set_option linter.unusedSimpArgs false
set_option linter.unusedVariables false

def AOp.stops : AOp → Bool
  | .call _ _ => true
  | .callV _ _ => true
  | .append _ _ (.k (.c .snil)) _ => false
  | .append _ _ _ _ => true
  | _ => false

inductive Pre where
  | at (ops : List AOper) (fr : AFrame) (H : AHeap)
  | bad

def Pre.isAt : Pre → List AOper → AFrame → AHeap → Prop
  | .at o f h, o', f', h' => o = o' ∧ f = f' ∧ h = h'
  | .bad, _, _, _ => False

def evalPre (fl : Nat) : List AOper → AFrame → AHeap → Pre
  | [], fr, H => .at [] fr H
  | o :: r, fr, H =>
    if wantedA fr o.guard then
      if o.op.stops then .at (o :: r) fr H else
      match execA noCall fl fr H o.op with
      | some (v, H') => evalPre fl r (putA fr o.dst v) H'
      | none => .bad
    else evalPre fl r (putA fr o.dst aundef) H

/-- the first one is not to stop -/
def evalPre1 (fl : Nat) : List AOper → AFrame → AHeap → Pre
  | [], _, _ => .bad
  | o :: r, fr, H =>
    if wantedA fr o.guard then
      if o.op.stops then .bad else
      match execA noCall fl fr H o.op with
      | some (v, H') => evalPre fl r (putA fr o.dst v) H'
      | none => .bad
    else evalPre fl r (putA fr o.dst aundef) H

def hPre : List AOper → AFrame → AHeap → Pre
  | [], fr, H => .at [] fr H
  | o :: r, fr, H =>
    if wantedA fr o.guard then
      if o.op.stops then .at (o :: r) fr H else
      match execA noCall H.length fr H o.op with
      | some (v, H') => hPre r (putA fr o.dst v) H'
      | none => .bad
    else hPre r (putA fr o.dst aundef) H
def hPre1 : List AOper → AFrame → AHeap → Pre
  | [], _, _ => .bad
  | o :: r, fr, H =>
    if wantedA fr o.guard then
      if o.op.stops then .bad else
      match execA noCall H.length fr H o.op with
      | some (v, H') => hPre r (putA fr o.dst v) H'
      | none => .bad
    else hPre r (putA fr o.dst aundef) H

section
variable {A : Nat → Option AFn} {fl : Nat}
theorem AO_pre0 : ∀ {ops ops' : List AOper} {fr fr' : AFrame} {H H' : AHeap} {Q : AFrame → AHeap → Prop}, evalPre fl ops fr H = .at ops' fr' H' → AO A fl ops' fr' H' Q → AO A fl ops fr H Q
  | [], ops', fr, fr', H, H', Q, h, h2 => by simp only [evalPre, Pre.at.injEq] at h; obtain ⟨rfl, rfl, rfl⟩ := h; exact h2
  | o :: r, ops', fr, fr', H, H', Q, h, h2 => by
    simp only [evalPre] at h
    split at h
    · rename_i hw
      split at h
      · simp only [Pre.at.injEq] at h; obtain ⟨rfl, rfl, rfl⟩ := h; exact h2
      · split at h
        · rename_i v H1 hx
          exact AO_step hw hx (AO_pre0 h h2)
        · cases h
    · rename_i hw
      exact AO_skip (by simpa using hw) (AO_pre0 h h2)
theorem AO_pre {ops ops' : List AOper} {fr fr' : AFrame} {H H' : AHeap} {Q : AFrame → AHeap → Prop} (h : evalPre1 fl ops fr H = .at ops' fr' H') (h2 : AO A fl ops' fr' H' Q) : AO A fl ops fr H Q := by
  refine AO_pre0 (ops' := ops') (fr' := fr') (H' := H') ?_ h2
  cases ops with
  | nil => cases h
  | cons o r =>
    simp only [evalPre, evalPre1] at h ⊢
    split at h
    · rename_i hw
      rw [if_pos hw]
      split at h
      · cases h
      · rename_i hs
        rw [if_neg hs]; exact h
    · rename_i hw
      rw [if_neg hw]; exact h
theorem AHd_pre0 : ∀ {ops ops' : List AOper} {fr fr' : AFrame} {H H' : AHeap} {Q : AFrame → AHeap → Prop}, hPre ops fr H = .at ops' fr' H' → AHd A ops' fr' H' Q → AHd A ops fr H Q
  | [], ops', fr, fr', H, H', Q, h, h2 => by simp only [hPre, Pre.at.injEq] at h; obtain ⟨rfl, rfl, rfl⟩ := h; exact h2
  | o :: r, ops', fr, fr', H, H', Q, h, h2 => by
    simp only [hPre] at h
    split at h
    · rename_i hw
      split at h
      · simp only [Pre.at.injEq] at h; obtain ⟨rfl, rfl, rfl⟩ := h; exact h2
      · split at h
        · rename_i v H1 hx
          exact AHd_step hw hx (AHd_pre0 h h2)
        · cases h
    · rename_i hw
      exact AHd_skip (by simpa using hw) (AHd_pre0 h h2)
theorem AHd_pre {ops ops' : List AOper} {fr fr' : AFrame} {H H' : AHeap} {Q : AFrame → AHeap → Prop} (h : hPre1 ops fr H = .at ops' fr' H') (h2 : AHd A ops' fr' H' Q) : AHd A ops fr H Q := by
  refine AHd_pre0 (ops' := ops') (fr' := fr') (H' := H') ?_ h2
  cases ops with
  | nil => cases h
  | cons o r =>
    simp only [hPre, hPre1] at h ⊢
    split at h
    · rename_i hw
      rw [if_pos hw]
      split at h
      · cases h
      · rename_i hs
        rw [if_neg hs]; exact h
    · rename_i hw
      rw [if_neg hw]; exact h
end

def contP (fl : Nat) (d : Option Nat) (rest : List AOper) (fr : AFrame) : Option (AV × AHeap) → Pre
  | some (v, H) => evalPre fl rest (putA fr d v) H
  | none => .bad
def stopP (fl : Nat) (o : AOper) (rest : List AOper) (fr : AFrame) (H : AHeap) : Bool → Pre
  | true => .at (o :: rest) fr H
  | false => contP fl o.dst rest fr (execA noCall fl fr H o.op)
def gateP (fl : Nat) (o : AOper) (rest : List AOper) (fr : AFrame) (H : AHeap) : Bool → Pre
  | true => stopP fl o rest fr H o.op.stops
  | false => evalPre fl rest (putA fr o.dst aundef) H
def stopQ (fl : Nat) (o : AOper) (rest : List AOper) (fr : AFrame) (H : AHeap) : Bool → Pre
  | true => .bad
  | false => contP fl o.dst rest fr (execA noCall fl fr H o.op)
def gateQ (fl : Nat) (o : AOper) (rest : List AOper) (fr : AFrame) (H : AHeap) : Bool → Pre
  | true => stopQ fl o rest fr H o.op.stops
  | false => evalPre fl rest (putA fr o.dst aundef) H
def contHP (d : Option Nat) (rest : List AOper) (fr : AFrame) : Option (AV × AHeap) → Pre
  | some (v, H) => hPre rest (putA fr d v) H
  | none => .bad
def stopHP (o : AOper) (rest : List AOper) (fr : AFrame) (H : AHeap) : Bool → Pre
  | true => .at (o :: rest) fr H
  | false => contHP o.dst rest fr (execA noCall H.length fr H o.op)
def stopHQ (o : AOper) (rest : List AOper) (fr : AFrame) (H : AHeap) : Bool → Pre
  | true => .bad
  | false => contHP o.dst rest fr (execA noCall H.length fr H o.op)
def gateHQ (o : AOper) (rest : List AOper) (fr : AFrame) (H : AHeap) : Bool → Pre
  | true => stopHQ o rest fr H o.op.stops
  | false => hPre rest (putA fr o.dst aundef) H
def gateHP (o : AOper) (rest : List AOper) (fr : AFrame) (H : AHeap) : Bool → Pre
  | true => stopHP o rest fr H o.op.stops
  | false => hPre rest (putA fr o.dst aundef) H

section
variable {fl : Nat} {d : Option Nat} {op : AOp} {rest : List AOper} {fr : AFrame} {H : AHeap} {v : AV} {g : Nat × Bool}
theorem pre_nil : evalPre fl [] fr H = .at [] fr H := rfl
theorem pre_cons : evalPre fl (⟨d, op, none⟩ :: rest) fr H = stopP fl ⟨d, op, none⟩ rest fr H op.stops := by
  simp only [evalPre, wantedA, if_true]; cases h : op.stops <;> simp only [stopP, if_true, if_false, Bool.false_eq_true]
  cases execA noCall fl fr H op <;> rfl
theorem pre_gate : evalPre fl (⟨d, op, some g⟩ :: rest) fr H = gateP fl ⟨d, op, some g⟩ rest fr H (wantedA fr (some g)) := by
  simp only [evalPre]
  cases hw : wantedA fr (some g) with
  | true =>
    simp only [if_true, gateP]; cases h : op.stops <;> simp only [stopP, if_true, if_false, Bool.false_eq_true]
    cases execA noCall fl fr H op <;> rfl
  | false => simp [gateP]
theorem pre1_nil : evalPre1 fl [] fr H = .bad := rfl
theorem pre1_cons : evalPre1 fl (⟨d, op, none⟩ :: rest) fr H = stopQ fl ⟨d, op, none⟩ rest fr H op.stops := by
  simp only [evalPre1, wantedA, if_true]; cases h : op.stops <;> simp only [stopQ, if_true, if_false, Bool.false_eq_true]
  cases execA noCall fl fr H op <;> rfl
theorem pre1_gate : evalPre1 fl (⟨d, op, some g⟩ :: rest) fr H = gateQ fl ⟨d, op, some g⟩ rest fr H (wantedA fr (some g)) := by
  simp only [evalPre1]
  cases hw : wantedA fr (some g) with
  | true =>
    simp only [if_true, gateQ]; cases h : op.stops <;> simp only [stopQ, if_true, if_false, Bool.false_eq_true]
    cases execA noCall fl fr H op <;> rfl
  | false => simp [gateQ]
theorem qstop_true {o : AOper} : stopQ fl o rest fr H true = .bad := rfl
theorem qstop_false : stopQ fl ⟨d, op, none⟩ rest fr H false = contP fl d rest fr (execA noCall fl fr H op) := rfl
theorem qstopg_false : stopQ fl ⟨d, op, some g⟩ rest fr H false = contP fl d rest fr (execA noCall fl fr H op) := rfl
theorem qgate_true : gateQ fl ⟨d, op, some g⟩ rest fr H true = stopQ fl ⟨d, op, some g⟩ rest fr H op.stops := rfl
theorem qgate_false : gateQ fl ⟨d, op, some g⟩ rest fr H false = evalPre fl rest (putA fr d aundef) H := rfl
theorem pcont_some : contP fl d rest fr (some (v, H)) = evalPre fl rest (putA fr d v) H := rfl
theorem pstop_true {o : AOper} : stopP fl o rest fr H true = .at (o :: rest) fr H := rfl
theorem pstop_false : stopP fl ⟨d, op, none⟩ rest fr H false = contP fl d rest fr (execA noCall fl fr H op) := rfl
theorem pstopg_false : stopP fl ⟨d, op, some g⟩ rest fr H false = contP fl d rest fr (execA noCall fl fr H op) := rfl
theorem pgate_true : gateP fl ⟨d, op, some g⟩ rest fr H true = stopP fl ⟨d, op, some g⟩ rest fr H op.stops := rfl
theorem pgate_false : gateP fl ⟨d, op, some g⟩ rest fr H false = evalPre fl rest (putA fr d aundef) H := rfl
theorem hpre_nil : hPre [] fr H = .at [] fr H := rfl
theorem hpre_cons : hPre (⟨d, op, none⟩ :: rest) fr H = stopHP ⟨d, op, none⟩ rest fr H op.stops := by
  simp only [hPre, wantedA, if_true]; cases h : op.stops <;> simp only [stopHP, if_true, if_false, Bool.false_eq_true]
  cases execA noCall H.length fr H op <;> rfl
theorem hpre_gate : hPre (⟨d, op, some g⟩ :: rest) fr H = gateHP ⟨d, op, some g⟩ rest fr H (wantedA fr (some g)) := by
  simp only [hPre]
  cases hw : wantedA fr (some g) with
  | true =>
    simp only [if_true, gateHP]; cases h : op.stops <;> simp only [stopHP, if_true, if_false, Bool.false_eq_true]
    cases execA noCall H.length fr H op <;> rfl
  | false => simp [gateHP]
theorem hpre1_nil : hPre1 [] fr H = .bad := rfl
theorem hpre1_cons : hPre1 (⟨d, op, none⟩ :: rest) fr H = stopHQ ⟨d, op, none⟩ rest fr H op.stops := by
  simp only [hPre1, wantedA, if_true]; cases h : op.stops <;> simp only [stopHQ, if_true, if_false, Bool.false_eq_true]
  cases execA noCall H.length fr H op <;> rfl
theorem hpre1_gate : hPre1 (⟨d, op, some g⟩ :: rest) fr H = gateHQ ⟨d, op, some g⟩ rest fr H (wantedA fr (some g)) := by
  simp only [hPre1]
  cases hw : wantedA fr (some g) with
  | true =>
    simp only [if_true, gateHQ]; cases h : op.stops <;> simp only [stopHQ, if_true, if_false, Bool.false_eq_true]
    cases execA noCall H.length fr H op <;> rfl
  | false => simp [gateHQ]
theorem hqstop_true {o : AOper} : stopHQ o rest fr H true = .bad := rfl
theorem hqstop_false : stopHQ ⟨d, op, none⟩ rest fr H false = contHP d rest fr (execA noCall H.length fr H op) := rfl
theorem hqstopg_false : stopHQ ⟨d, op, some g⟩ rest fr H false = contHP d rest fr (execA noCall H.length fr H op) := rfl
theorem hqgate_true : gateHQ ⟨d, op, some g⟩ rest fr H true = stopHQ ⟨d, op, some g⟩ rest fr H op.stops := rfl
theorem hqgate_false : gateHQ ⟨d, op, some g⟩ rest fr H false = hPre rest (putA fr d aundef) H := rfl
theorem hpcont_some : contHP d rest fr (some (v, H)) = hPre rest (putA fr d v) H := rfl
theorem hpstop_true {o : AOper} : stopHP o rest fr H true = .at (o :: rest) fr H := rfl
theorem hpstop_false : stopHP ⟨d, op, none⟩ rest fr H false = contHP d rest fr (execA noCall H.length fr H op) := rfl
theorem hpstopg_false : stopHP ⟨d, op, some g⟩ rest fr H false = contHP d rest fr (execA noCall H.length fr H op) := rfl
theorem hpgate_true : gateHP ⟨d, op, some g⟩ rest fr H true = stopHP ⟨d, op, some g⟩ rest fr H op.stops := rfl
theorem hpgate_false : gateHP ⟨d, op, some g⟩ rest fr H false = hPre rest (putA fr d aundef) H := rfl
end

/-- whether a guarded operation is wanted -/
def wantV (x : Option AV) (w : Bool) : Bool := match x with | some (.c (.bool b)) => b == w | _ => false
theorem want_eq {fr : AFrame} {t : Nat} {w : Bool} : wantedA fr (some (t, w)) = wantV fr[t]? w := rfl
theorem wantV_bool {b w : Bool} : wantV (some (.c (.bool b))) w = (b == w) := rfl
theorem wantV_undef {w : Bool} : wantV (some aundef) w = false := rfl

/-- the length of a slice -/
def lenX (H : AHeap) (x : AV) : Option (AV × AHeap) :=
  match x with
  | .c .snil => some (i64 0, H)
  | .c (.slc b _ n _) => (hcells H b).map fun _ => (i64 n, H)
  | _ => none
theorem exec_lenX {call : ACall} {fl : Nat} {fr : AFrame} {H : AHeap} {o : AOpd} : execA call fl fr H (.len false o) = lenX H (o.ev fr) := by
  simp only [execA, stepA, lenX]
  cases o.ev fr with
  | c x => cases x <;> rfl
  | agg l => rfl
  | tup l => rfl
  | clo f l => rfl
theorem lenX_snil {H : AHeap} : lenX H (.c .snil) = some (.c (.int .i64 0), H) := rfl
theorem lenX_slc {H : AHeap} {b o n z : Nat} : lenX H (.c (.slc b o n z)) = (hcells H b).map fun _ => (.c (.int .i64 (n : Int)), H) := rfl
theorem Rd.len {H : AHeap} {x : Cell} {sz : Nat} {cs : List Cell} (h : Rd H x sz cs) (n : Nat) (hn : cs.length = n * sz) (hz : 0 < sz) : lenX H (.c x) = some (.c (.int .i64 (n : Int)), H) := by
  rcases h with ⟨rfl, rfl⟩ | ⟨s, b, m, rfl, h2, h3⟩
  · obtain rfl : n = 0 := by
      rcases Nat.eq_zero_or_pos n with h | h
      · exact h
      · have := Nat.mul_pos h hz
        simp only [List.length_nil] at hn; omega
    rfl
  · obtain rfl : n = m := Nat.eq_of_mul_eq_mul_right hz (by omega)
    simp only [readN] at h3
    cases hc : hcells H s with
    | none => rw [hc] at h3; cases h3
    | some l => rw [lenX_slc, hc]; rfl
theorem Rd.len1 {H : AHeap} {x : Cell} {cs : List Cell} (h : Rd H x 1 cs) (n : Nat) (hn : cs.length = n) : lenX H (.c x) = some (.c (.int .i64 (n : Int)), H) := h.len n (by omega) (by omega)
theorem Rd.len0 {H : AHeap} {x : Cell} {sz : Nat} {cs : List Cell} (h : Rd H x sz cs) (hn : cs.length = 0) (hz : 0 < sz) : lenX H (.c x) = some (.c (.int .i64 0), H) := h.len 0 (by omega) hz

section
variable {A : Nat → Option AFn} {fl id : Nat} {fr : AFrame} {H : AHeap} {Q : AExit → AFrame → AHeap → Prop}
theorem thenQ_n {b : ACode} (h : AW A fl b fr H Q) : thenQ A fl b Q .normal fr H := h
theorem blockQ_n (h : Q .normal fr H) : blockQ id Q .normal fr H := h
theorem AW_blockS {a b : ACode} (h : AW A fl (.seq a b) fr H (blockQ id Q)) : AW A fl (.block id (.seq a b)) fr H Q := AW_block h
theorem AW_blockR {a : List AOper} (h : AW A fl (.region a) fr H (blockQ id Q)) : AW A fl (.block id (.region a)) fr H Q := AW_block h
theorem AW_blockD3 {a b : List AOper} (h : AW A fl (.draw3 a b) fr H (blockQ id Q)) : AW A fl (.block id (.draw3 a b)) fr H Q := AW_block h
theorem AW_blockD {a b : List AOper} (h : AW A fl (.draw a b) fr H (blockQ id Q)) : AW A fl (.block id (.draw a b)) fr H Q := AW_block h
theorem AW_blockC {c : AOpd} {a b : ACode} (h : AW A fl (.cond c a b) fr H (blockQ id Q)) : AW A fl (.block id (.cond c a b)) fr H Q := AW_block h
end
theorem ret_ok {rs : List ARes} {fr : AFrame} {H : AHeap} {Q : AV → AHeap → Prop} {v : AV} (h : outA fr H rs = some v) (hq : Q v H) : exitQ rs Q .ret fr H := ⟨v, h, hq⟩

/-- a loop that counts up -/
theorem AW_up {A : Nat → Option AFn} {fl : Nat} {c : ACode} {fr : AFrame} {H : AHeap} {Q : AExit → AFrame → AHeap → Prop} (I : Nat → AFrame → AHeap → Prop) (n : Nat) (h0 : I 0 fr H)
    (hr : ∀ i fr H, i ≤ n → I i fr H → AW A fl c fr H (fun e fr' H' => match e with | .normal => i < n ∧ I (i + 1) fr' H' | e => Q e fr' H')) : AW A fl (.loop c) fr H Q := by
  refine AW_loopN (fun m fr H => m ≤ n ∧ I (n - m) fr H) n ⟨Nat.le_refl _, by rw [Nat.sub_self]; exact h0⟩ ?_
  intro m fr H ⟨hm, hI⟩
  refine (hr (n - m) fr H (Nat.sub_le _ _) hI).mono fun e fr' H' h => ?_
  cases e with
  | normal =>
    obtain ⟨h1, h2⟩ := h
    refine ⟨m - 1, by omega, by omega, ?_⟩
    have e : n - (m - 1) = n - m + 1 := by omega
    rw [e]; exact h2
  | exit id => exact h
  | ret => exact h

theorem i64_of {n : Int} (h : -9223372036854775808 ≤ n) (h' : n < 9223372036854775808) : IntKind.i64.wrap n = n := by
  show (if (true && decide (n % (2 ^ 64 : Int) ≥ (2 ^ 63 : Int))) = true then n % (2 ^ 64 : Int) - (2 ^ 64 : Int) else n % (2 ^ 64 : Int)) = n
  simp only [Bool.true_and, decide_eq_true_eq]
  split <;> omega
theorem i64_add {a b : Nat} (h : a + b < 9223372036854775808) : IntKind.i64.wrap ((a : Int) + (b : Int)) = ((a + b : Nat) : Int) := by rw [i64_of (by omega) (by omega)]; omega
theorem i64_succ {a : Nat} (h : a < 9223372036854775807) : IntKind.i64.wrap ((a : Int) + 1) = ((a + 1 : Nat) : Int) := by rw [i64_of (by omega) (by omega)]; omega

theorem nat_0 : ((0 : Nat) : Int) = 0 := rfl
theorem nat_1 : ((1 : Nat) : Int) = 1 := rfl
theorem nat_2 : ((2 : Nat) : Int) = 2 := rfl
theorem nat_3 : ((3 : Nat) : Int) = 3 := rfl
theorem nat_4 : ((4 : Nat) : Int) = 4 := rfl
theorem nat_8 : ((8 : Nat) : Int) = 8 := rfl
theorem nat_16 : ((16 : Nat) : Int) = 16 := rfl
theorem nat_64 : ((64 : Nat) : Int) = 64 := rfl
theorem nat_128 : ((128 : Nat) : Int) = 128 := rfl
end PAbs

/- Lists of cells: bytes, words; a list changed place by place; stores; bits. -/
namespace PAbs
open Go
set_option linter.unusedSimpArgs false
set_option linter.unusedVariables false

/-- the cells of letters -/
def B8 (s : List UInt8) : List Cell := s.map fun u => .int .u8 u.toNat
theorem B8_length {s : List UInt8} : (B8 s).length = s.length := by simp [B8]
theorem B8_append {s t : List UInt8} : B8 (s ++ t) = B8 s ++ B8 t := by simp [B8]
theorem B8_get {s : List UInt8} {i : Nat} {u : UInt8} (h : s[i]? = some u) : (B8 s)[i]? = some (.int .u8 (u.toNat : Int)) := by simp [B8, h]
theorem B8_set {s : List UInt8} {i : Nat} {u : UInt8} : (B8 s).set i (.int .u8 (u.toNat : Int)) = B8 (s.set i u) := by simp [B8, List.map_set]
theorem bytesOf_B8 : ∀ s : List UInt8, bytesOf (B8 s) = some s
  | [] => rfl
  | u :: s => by
    have := bytesOf_B8 s
    simp only [B8, List.map_cons, bytesOf, byteOf] at this ⊢
    rw [this]; simp
theorem B8_of_str (s : List UInt8) : (s.map fun u => Cell.int .u8 (u.toNat : Int)) = B8 s := rfl

/-- a list whose first k places are new -/
def upd {α : Type} (f : Nat → α) (l : List α) : Nat → List α
  | 0 => l
  | k + 1 => (upd f l k).set k (f k)
theorem upd_length {α : Type} {f : Nat → α} {l : List α} : ∀ k, (upd f l k).length = l.length
  | 0 => rfl
  | k + 1 => by simp [upd, upd_length k]
theorem upd_get {α : Type} {f : Nat → α} {l : List α} : ∀ k j, j < l.length → (upd f l k)[j]? = if j < k then some (f j) else l[j]?
  | 0, j, h => by simp [upd]
  | k + 1, j, h => by
    simp only [upd, List.getElem?_set, upd_length]
    by_cases hk : k = j
    · subst hk; rw [if_pos rfl, if_pos h, if_pos (by omega)]
    · rw [if_neg hk, upd_get k j h]
      by_cases hj : j < k
      · rw [if_pos hj, if_pos (by omega)]
      · rw [if_neg hj, if_neg (by omega)]
theorem upd_self {α : Type} {f : Nat → α} {l : List α} (k : Nat) (h : k < l.length) : (upd f l k)[k]? = l[k]? := by rw [upd_get k k h, if_neg (by omega)]
theorem upd_eq {α : Type} {f : Nat → α} {l m : List α} (hl : l.length = m.length) (h : ∀ j, j < m.length → m[j]? = some (f j)) : upd f l m.length = m := by
  apply List.ext_getElem?
  intro j
  rcases Nat.lt_or_ge j m.length with hj | hj
  · rw [upd_get _ j (by omega), if_pos hj, h j hj]
  · rw [List.getElem?_eq_none (by rw [upd_length]; omega), List.getElem?_eq_none hj]

theorem Kept.setB {f b : Nat} {H : AHeap} {y : Blk} (h : f ≤ b) : Kept f H (H.set b y) := ⟨by simp, fun c hc _ => by rw [List.getElem?_set, if_neg (by omega)]⟩

/-- bytes as a text -/
def bsX (H : AHeap) (y : AV) : Option (AV × AHeap) :=
  match y with
  | .c (.str _) => none
  | v => match sliceCells H 1 v with | some cs => (bytesOf cs).map fun l => (.c (.str l), H) | none => none
theorem exec_bsX {call : ACall} {fl : Nat} {fr : AFrame} {H : AHeap} {o : AOpd} : execA call fl fr H (.bytesStr o) = bsX H (o.ev fr) := by simp only [execA, stepA, bsX]; rfl
theorem bsX_rd {H : AHeap} {x : Cell} {s : List UInt8} (h : Rd H x 1 (B8 s)) : bsX H (.c x) = some (.c (.str s), H) := by
  have hc := h.cells
  rcases h with ⟨rfl, h2⟩ | ⟨s', o, n, rfl, h2, h3⟩
  · simp only [bsX, hc, bytesOf_B8]; rfl
  · simp only [bsX, hc, bytesOf_B8]; rfl

/-- append to nothing -/
def appNil (H : AHeap) (z bytes : Nat) (y : AV) : Option (AV × AHeap) :=
  match sliceCells H z y with
  | some news => if news.length * bytes ≤ 140737488355328 then some (.c (.slc H.length 0 (news.length / z) z), H ++ [.own news]) else none
  | none => none
theorem exec_appNil {call : ACall} {fl bytes : Nat} {fr : AFrame} {H : AHeap} {zero : List Cell} {o : AOpd} : execA call fl fr H (.append zero bytes (.k (.c .snil)) o) = appNil H zero.length bytes (o.ev fr) := by
  simp only [execA, stepA, appendA, appNil]
  generalize o.ev fr = y
  cases sliceCells H zero.length y <;> rfl
theorem appNil_one {H : AHeap} {bytes n : Nat} {y : AV} {news : List Cell} (h : sliceCells H 1 y = some news) (hn : news.length = n) (hb : n * bytes ≤ 140737488355328) : appNil H 1 bytes y = some (.c (.slc H.length 0 n 1), H ++ [.own news]) := by
  subst hn; simp only [appNil, h, if_pos hb, Nat.div_one]

/-- a store of one cell -/
def storeX (fl : Nat) (H : AHeap) (a x : AV) : Option (AV × AHeap) :=
  match a, x.cells with
  | .c (.ptr b o), some vs => if vs.length = 1 then (writeN fl H b o vs).map fun H' => (aundef, H') else none
  | _, _ => none
theorem exec_storeX {call : ACall} {fl : Nat} {fr : AFrame} {H : AHeap} {a x : AOpd} : execA call fl fr H (.store 1 a x) = storeX fl H (a.ev fr) (x.ev fr) := by
  simp only [execA, stepA, storeX]; rfl
theorem storeX_own {fl : Nat} {H : AHeap} {b o : Nat} {cs : List Cell} {v : Cell} (hb : hown H b = some cs) (hf : fl ≤ b) (ho : o < cs.length) : storeX fl H (.c (.ptr b o)) (.c v) = some (aundef, H.set b (.own (cs.set o v))) := by
  have e : cs.set o v = cs.take o ++ [v] ++ cs.drop (o + 1) := by rw [List.set_eq_take_append_cons_drop, if_pos ho]; simp
  simp only [storeX, AV.cells, writeN, hb, List.length_cons, List.length_nil, Nat.zero_add, if_true]
  rw [if_pos ⟨hf, by omega⟩, e]; rfl
/-- a store of several cells -/
def storeN (n fl : Nat) (H : AHeap) (a x : AV) : Option (AV × AHeap) :=
  match a, x.cells with
  | .c (.ptr b o), some vs => if vs.length = n then (writeN fl H b o vs).map fun H' => (aundef, H') else none
  | _, _ => none
theorem exec_storeN {call : ACall} {fl n : Nat} {fr : AFrame} {H : AHeap} {a x : AOpd} : execA call fl fr H (.store n a x) = storeN n fl H (a.ev fr) (x.ev fr) := by
  simp only [execA, stepA, storeN]; rfl
theorem storeN_all {n fl : Nat} {H : AHeap} {b : Nat} {cs vs : List Cell} (hb : hown H b = some cs) (hf : fl ≤ b) (hc : cs.length = n) (hv : vs.length = n) : storeN n fl H (.c (.ptr b 0)) (.agg vs) = some (aundef, H.set b (.own vs)) := by
  simp only [storeN, AV.cells, writeN, hb, hv, if_true]
  rw [if_pos ⟨hf, by omega⟩, List.drop_eq_nil_of_le (by omega)]; simp

theorem Rd.full {H : AHeap} {u o n sz : Nat} {cs : List Cell} (h : Rd H (.slc u o n sz) sz cs) : ∃ full, hcells H u = some full ∧ cs.length = n * sz ∧ o + n * sz ≤ full.length ∧ cs = (full.drop o).take (n * sz) := by
  rcases h with ⟨h, _⟩ | ⟨s, o', n', e, h2, h3⟩
  · cases h
  · cases e
    simp only [readN] at h3
    cases hc : hcells H u with
    | none => rw [hc] at h3; cases h3
    | some l =>
      rw [hc] at h3
      simp only at h3
      split at h3
      · exact ⟨l, rfl, h2, by assumption, (Option.some.inj h3).symm⟩
      · cases h3
theorem Rd.of_full {H : AHeap} {u o n sz : Nat} {full cs : List Cell} (hc : hcells H u = some full) (hl : o + n * sz ≤ full.length) (he : cs = (full.drop o).take (n * sz)) : Rd H (.slc u o n sz) sz cs := by
  refine .inr ⟨u, o, n, rfl, ?_, ?_⟩
  · rw [he, List.length_take, List.length_drop]; omega
  · simp only [readN, hc, he]; rw [if_pos hl]
/-- a part of a slice -/
theorem Rd.sub {H : AHeap} {u o n sz i j : Nat} {cs : List Cell} (h : Rd H (.slc u o n sz) sz cs) (hij : i ≤ j) (hj : j ≤ n) : Rd H (.slc u (o + i * sz) (j - i) sz) sz ((cs.drop (i * sz)).take ((j - i) * sz)) := by
  obtain ⟨full, hc, hl, ho, he⟩ := h.full
  have h1 : j * sz ≤ n * sz := Nat.mul_le_mul_right _ hj
  have h2 : (j - i) * sz + i * sz = j * sz := by rw [← Nat.add_mul]; congr 1; omega
  refine Rd.of_full hc (by omega) ?_
  rw [he, List.drop_take, List.take_take, List.drop_drop]
  congr 1; omega

theorem xor_of {k : IntKind} (hs : k.signed = false) {a b : Nat} (ha : a < 2 ^ k.bits) (hb : b < 2 ^ k.bits) : bitsA .xor k (a : Int) (b : Int) = ((a ^^^ b : Nat) : Int) := by
  have h : a ^^^ b < 2 ^ k.bits := Nat.xor_lt_two_pow ha hb
  simp only [bitsA, IntKind.wrap, hs, Bool.false_and, Bool.false_eq_true, if_false, BitVec.ofInt_natCast, BitVec.toNat_xor, BitVec.toNat_ofNat, Nat.mod_eq_of_lt ha, Nat.mod_eq_of_lt hb]
  have : ((2 : Int) ^ k.bits) = ((2 ^ k.bits : Nat) : Int) := by simp
  rw [this, ← Int.natCast_emod, Nat.mod_eq_of_lt h]
theorem and_of {k : IntKind} (hs : k.signed = false) {a b : Nat} (ha : a < 2 ^ k.bits) (hb : b < 2 ^ k.bits) : bitsA .and k (a : Int) (b : Int) = ((a &&& b : Nat) : Int) := by
  have h : a &&& b < 2 ^ k.bits := Nat.and_lt_two_pow _ hb
  simp only [bitsA, IntKind.wrap, hs, Bool.false_and, Bool.false_eq_true, if_false, BitVec.ofInt_natCast, BitVec.toNat_and, BitVec.toNat_ofNat, Nat.mod_eq_of_lt ha, Nat.mod_eq_of_lt hb]
  have : ((2 : Int) ^ k.bits) = ((2 ^ k.bits : Nat) : Int) := by simp
  rw [this, ← Int.natCast_emod, Nat.mod_eq_of_lt h]
theorem xor_byte (a b : UInt8) : bitsA .xor .u8 (a.toNat : Int) (b.toNat : Int) = (((a ^^^ b : UInt8)).toNat : Int) := by
  rw [xor_of rfl a.toNat_lt b.toNat_lt, UInt8.toNat_xor]

theorem tmod_nat {a b : Nat} : Int.tmod (a : Int) (b : Int) = ((a % b : Nat) : Int) := by rw [← Int.ofNat_tmod]
theorem tdiv_nat {a b : Nat} : Int.tdiv (a : Int) (b : Int) = ((a / b : Nat) : Int) := by rw [← Int.ofNat_tdiv]
end PAbs

/- What a call changed: all but some blocks stand as they stood. -/
namespace PAbs
open Go
set_option linter.unusedSimpArgs false
set_option linter.unusedVariables false

def Chg (S : Nat → Prop) (H H' : AHeap) : Prop := H.length ≤ H'.length ∧ ∀ b, b < H.length → ¬ S b → H'[b]? = H[b]?
def none_ : Nat → Prop := fun _ => False
/-- the block of a slice -/
def inX (x : Cell) (b : Nat) : Prop := ∃ o n z, x = .slc b o n z

section
variable {S T : Nat → Prop} {H H1 H2 H' l : AHeap} {b : Nat} {cs : List Cell} {x : Cell} {sz : Nat}
theorem Chg.refl (S : Nat → Prop) (H : AHeap) : Chg S H H := ⟨Nat.le_refl _, fun _ _ _ => rfl⟩
theorem Chg.trans (h : Chg S H H1) (h2 : Chg T H1 H2) (ht : ∀ b, b < H.length → T b → S b) : Chg S H H2 :=
  ⟨Nat.le_trans h.1 h2.1, fun b hb hs => by rw [h2.2 b (Nat.lt_of_lt_of_le hb h.1) (fun t => hs (ht b hb t)), h.2 b hb hs]⟩
theorem Chg.mono (h : Chg S H H') (hs : ∀ b, b < H.length → S b → T b) : Chg T H H' := ⟨h.1, fun b hb ht => h.2 b hb fun s => ht (hs b hb s)⟩
theorem Chg.push (S : Nat → Prop) (H l : AHeap) : Chg S H (H ++ l) := ⟨by simp, fun b h _ => by simp [List.getElem?_append, h]⟩
theorem Chg.set {y : Blk} (hs : S b) : Chg S H (H.set b y) := ⟨by simp, fun c h hc => by
  rw [List.getElem?_set, if_neg (fun e => hc (by rw [← e]; exact hs))]⟩
theorem Chg.hown (h : Chg S H H') (hs : ¬ S b) (ho : PAbs.hown H b = some cs) : PAbs.hown H' b = some cs := by
  have hb := hown_lt ho
  simp only [PAbs.hown, h.2 b hb hs] at ho ⊢; exact ho
theorem Chg.hcells (h : Chg S H H') (hs : ¬ S b) (ho : PAbs.hcells H b = some cs) : PAbs.hcells H' b = some cs := by
  have hb := hcells_lt ho
  simp only [PAbs.hcells, h.2 b hb hs] at ho ⊢; exact ho
theorem Chg.of_kept (h : Kept H.length H H') : Chg none_ H H' := ⟨h.1, fun b hb _ => h.2 b hb hb⟩
theorem Chg.kept (h : Chg none_ H H') : Kept H.length H H' := ⟨h.1, fun b hb _ => h.2 b hb (fun f => f)⟩
theorem Rd.chg (h : Rd H x sz cs) (hc : Chg S H H') (hs : ∀ b, inX x b → ¬ S b) : Rd H' x sz cs := by
  rcases h with h | ⟨s, o, n, h1, h2, h3⟩
  · exact .inl h
  · refine .inr ⟨s, o, n, h1, h2, ?_⟩
    simp only [readN] at h3 ⊢
    cases hl : PAbs.hcells H s with
    | none => rw [hl] at h3; cases h3
    | some l => rw [hc.hcells (hs s ⟨o, n, sz, h1⟩) hl]; rw [hl] at h3; exact h3
theorem Own.chg {f : Nat} (h : Own f H x sz cs) (hc : Chg S H H') (hs : ∀ b, inX x b → ¬ S b) : Own f H' x sz cs := by
  rcases h with h | ⟨s, n, h1, h2, h3, h4⟩
  · exact .inl h
  · exact .inr ⟨s, n, h1, h2, h3, hc.hown (hs s ⟨_, _, _, h1⟩) h4⟩
theorem Own.le {f : Nat} (h : Own f H x sz cs) (hi : inX x b) : f ≤ b := by
  obtain ⟨o, n, z, rfl⟩ := hi
  rcases h with ⟨h, _⟩ | ⟨s, n, h1, h2, h3, h4⟩
  · cases h
  · cases h1; exact h3
theorem Own.lt' {f : Nat} (h : Own f H x sz cs) (hi : inX x b) : b < H.length := by
  obtain ⟨o, n, z, rfl⟩ := hi; exact h.lt
theorem Rd.lt (h : Rd H x sz cs) (hi : inX x b) : b < H.length := by
  obtain ⟨o, n, z, rfl⟩ := hi
  rcases h with ⟨h, _⟩ | ⟨s, o', n', h1, h2, h3⟩
  · cases h
  · cases h1
    simp only [readN] at h3
    cases hl : PAbs.hcells H b with
    | none => rw [hl] at h3; cases h3
    | some l => exact hcells_lt hl
end

/-- a slice that ends where its block ends, which is one's own -/
def OwnT (f : Nat) (H : AHeap) (x : Cell) (sz : Nat) (cs : List Cell) : Prop := (x = .snil ∧ cs = []) ∨ ∃ s o n full, x = .slc s o n sz ∧ cs.length = n * sz ∧ f ≤ s ∧ hown H s = some full ∧ o + n * sz = full.length ∧ cs = full.drop o
theorem Own.t {f : Nat} {H : AHeap} {x : Cell} {sz : Nat} {cs : List Cell} (h : Own f H x sz cs) : OwnT f H x sz cs := by
  rcases h with h | ⟨s, n, h1, h2, h3, h4⟩
  · exact .inl h
  · exact .inr ⟨s, 0, n, cs, h1, h2, h3, h4, by omega, rfl⟩
theorem OwnT.rd {f : Nat} {H : AHeap} {x : Cell} {sz : Nat} {cs : List Cell} (h : OwnT f H x sz cs) : Rd H x sz cs := by
  rcases h with h | ⟨s, o, n, full, rfl, h2, h3, h4, h5, h6⟩
  · exact .inl h
  · refine Rd.of_full (hcells_own h4) (by omega) ?_
    rw [List.take_of_length_le (by rw [List.length_drop]; omega)]; exact h6
theorem OwnT.chg {S : Nat → Prop} {H H' : AHeap} {f sz : Nat} {x : Cell} {cs : List Cell} (h : OwnT f H x sz cs) (hc : Chg S H H') (hs : ∀ b, inX x b → ¬ S b) : OwnT f H' x sz cs := by
  rcases h with h | ⟨s, o, n, full, h1, h2, h3, h4, h5, h6⟩
  · exact .inl h
  · exact .inr ⟨s, o, n, full, h1, h2, h3, hc.hown (hs s ⟨_, _, _, h1⟩) h4, h5, h6⟩

theorem exec_appendT {call : ACall} {fl f sz bytes : Nat} {fr : AFrame} {H : AHeap} {x : Cell} {y : AV} {cs news zero : List Cell} {o1 o2 : AOpd} (hx : OwnT f H x sz cs) (hy : sliceCells H sz y = some news) (hz : zero.length = sz) (hsz : 0 < sz) (hn : news.length % sz = 0) (hf : fl ≤ f) (hfH : f ≤ H.length)
    (hb : (cs.length + news.length) * bytes ≤ 140737488355328) (h1 : o1.ev fr = .c x) (h2 : o2.ev fr = y) :
    ∃ x' H', execA call fl fr H (.append zero bytes o1 o2) = some (.c x', H') ∧ Own f H' x' sz (cs ++ news) ∧ Chg (inX x) H H' ∧ ∃ n', x' = .slc H.length 0 n' sz := by
  have hdiv : news.length = news.length / sz * sz := by
    have := Nat.div_add_mod news.length sz; rw [hn, Nat.add_zero, Nat.mul_comm] at this; exact this.symm
  rcases hx with ⟨rfl, rfl⟩ | ⟨s, o, n, full, rfl, hl, hs, ho, hof, rfl⟩
  · have hb' : news.length * bytes ≤ 140737488355328 := by simpa using hb
    refine ⟨.slc H.length 0 (news.length / sz) sz, H ++ [.own news], ?_, .inr ⟨H.length, news.length / sz, rfl, by simpa using hdiv, hfH, hown_last⟩, Chg.push _ _ _, _, rfl⟩
    simp only [execA, stepA, h1, h2, appendA, hz, hy, hb', if_true]
  · have ls := hown_lt ho
    have hb' : (n * sz + news.length) * bytes ≤ 140737488355328 := by rw [← hl]; exact hb
    refine ⟨.slc H.length 0 (n + news.length / sz) sz, H.set s .dead ++ [.own (full.drop o ++ news)], ?_, .inr ⟨H.length, _, rfl, ?_, hfH, ?_⟩, ⟨by simp, fun b hb1 hb2 => ?_⟩, _, rfl⟩
    · simp only [execA, stepA, h1, h2, appendA, hz, hy, ho]
      rw [if_pos ⟨by omega, by first | rfl | trivial, by omega, hb'⟩]
    · simp only [List.length_append, Nat.add_mul, ← hdiv, hl]
    · have := hown_last (H := H.set s .dead) (cs := full.drop o ++ news)
      simpa using this
    · have hne : s ≠ b := fun e => hb2 ⟨o, n, sz, by rw [e]⟩
      rw [List.getElem?_append, if_pos (by simpa using hb1), List.getElem?_set, if_neg hne]
/-- append to a slice that ends where its block ends; the new one lies in the newest block -/
theorem AO_appendT {A : Nat → Option AFn} {fl f sz bytes : Nat} {fr : AFrame} {H : AHeap} {x : Cell} {y : AV} {cs news zero : List Cell} {o1 o2 : AOpd} {d : Option Nat} {rest : List AOper} {Q : AFrame → AHeap → Prop} (hx : OwnT f H x sz cs) (hy : sliceCells H sz y = some news) (hz : zero.length = sz) (hsz : 0 < sz) (hn : news.length % sz = 0) (hf : fl ≤ f) (hfH : f ≤ H.length)
    (hb : (cs.length + news.length) * bytes ≤ 140737488355328) (h1 : o1.ev fr = .c x) (h2 : o2.ev fr = y)
    (h : ∀ q n' H', q = H.length → Own f H' (.slc q 0 n' sz) sz (cs ++ news) → Chg (inX x) H H' → AO A fl rest (putA fr d (.c (.slc q 0 n' sz))) H' Q) : AO A fl (⟨d, .append zero bytes o1 o2, none⟩ :: rest) fr H Q := by
  obtain ⟨x', H', e, h3, h4, n', rfl⟩ := exec_appendT (call := noCall) hx hy hz hsz hn hf hfH hb h1 h2
  exact AO_step rfl e (h _ n' H' rfl h3 h4)

theorem OwnT.floor {f g : Nat} {H : AHeap} {x : Cell} {sz : Nat} {cs : List Cell} (h : OwnT f H x sz cs) (hg : ∀ b, inX x b → g ≤ b) : OwnT g H x sz cs := by
  rcases h with h | ⟨s, o, n, full, h1, h2, h3, h4, h5, h6⟩
  · exact .inl h
  · exact .inr ⟨s, o, n, full, h1, h2, hg s ⟨_, _, _, h1⟩, h4, h5, h6⟩
theorem OwnT.le {f b : Nat} {H : AHeap} {x : Cell} {sz : Nat} {cs : List Cell} (h : OwnT f H x sz cs) (hi : inX x b) : f ≤ b := by
  obtain ⟨o, n, z, rfl⟩ := hi
  rcases h with ⟨h, _⟩ | ⟨s, o', n', full, h1, h2, h3, h4, h5, h6⟩
  · cases h
  · cases h1; exact h3
theorem OwnT.lt {f b : Nat} {H : AHeap} {x : Cell} {sz : Nat} {cs : List Cell} (h : OwnT f H x sz cs) (hi : inX x b) : b < H.length := h.rd.lt hi
theorem OwnT.nil {f : Nat} {H : AHeap} {sz : Nat} : OwnT f H .snil sz [] := .inl ⟨rfl, rfl⟩
theorem OwnT.last {f n sz : Nat} {H : AHeap} {cs : List Cell} (hf : f ≤ H.length) (hn : cs.length = n * sz) : OwnT f (H ++ [.own cs]) (.slc H.length 0 n sz) sz cs := .inr ⟨_, 0, n, cs, rfl, hn, hf, hown_last, by omega, rfl⟩
/-- what is left behind the first places -/
theorem OwnT.drop {f s o n : Nat} {H : AHeap} {cs : List Cell} (h : OwnT f H (.slc s o n 1) 1 cs) {k : Nat} (hk : k ≤ n) : OwnT f H (.slc s (o + k) (n - k) 1) 1 (cs.drop k) := by
  rcases h with ⟨h, _⟩ | ⟨s', o', n', full, h1, h2, h3, h4, h5, h6⟩
  · cases h
  · cases h1
    refine .inr ⟨_, _, _, full, rfl, ?_, h3, h4, by omega, ?_⟩
    · rw [List.length_drop]; omega
    · rw [h6, List.drop_drop]
theorem OwnT.slc {f : Nat} {H : AHeap} {x : Cell} {cs : List Cell} (h : OwnT f H x 1 cs) (h0 : 0 < cs.length) : ∃ s o full, x = .slc s o cs.length 1 ∧ hown H s = some full ∧ o + cs.length = full.length ∧ cs = full.drop o := by
  rcases h with ⟨_, h⟩ | ⟨s, o, n, full, h1, h2, h3, h4, h5, h6⟩
  · rw [h] at h0; simp at h0
  · obtain rfl : n = cs.length := by omega
    exact ⟨s, o, full, h1, h4, by omega, h6⟩
theorem inX_slc {s o n z b : Nat} : inX (.slc s o n z) b ↔ b = s := ⟨fun ⟨_, _, _, h⟩ => by cases h; rfl, fun h => ⟨o, n, z, by rw [h]⟩⟩
theorem inX_snil {b : Nat} : ¬ inX .snil b := fun ⟨_, _, _, h⟩ => by cases h

/-- a slice of slices of bytes, all one's own -/
def BB (n : Nat) (H : AHeap) (y : Cell) (zs : List Cell) (bs : List (List UInt8)) : Prop := OwnT n H y 1 zs ∧ zs.length = bs.length ∧ ∀ (i : Nat) (z : Cell) (b : List UInt8), zs[i]? = some z → bs[i]? = some b → OwnT n H z 1 (B8 b)
def inB (y : Cell) (zs : List Cell) (b : Nat) : Prop := inX y b ∨ ∃ z ∈ zs, inX z b
theorem BB.nil {n : Nat} {H : AHeap} : BB n H .snil [] [] := ⟨OwnT.nil, rfl, fun i z b h => by simp at h⟩
theorem BB.chg {S : Nat → Prop} {n : Nat} {H H' : AHeap} {y : Cell} {zs : List Cell} {bs : List (List UInt8)} (h : BB n H y zs bs) (hc : Chg S H H') (hs : ∀ b, inB y zs b → ¬ S b) : BB n H' y zs bs :=
  ⟨h.1.chg hc fun b hb => hs b (.inl hb), h.2.1, fun i z b h1 h2 => (h.2.2 i z b h1 h2).chg hc fun c hc' => hs c (.inr ⟨z, List.mem_of_getElem? h1, hc'⟩)⟩
theorem BB.lt {n b : Nat} {H : AHeap} {y : Cell} {zs : List Cell} {bs : List (List UInt8)} (h : BB n H y zs bs) (hb : inB y zs b) : b < H.length := by
  rcases hb with hb | ⟨z, hz, hb⟩
  · exact h.1.lt hb
  · obtain ⟨i, hi, rfl⟩ := List.mem_iff_getElem.mp hz
    have hi' : i < bs.length := by rw [← h.2.1]; exact hi
    exact (h.2.2 i _ _ (List.getElem?_eq_getElem hi) (List.getElem?_eq_getElem hi')).lt hb
theorem BB.le {n b : Nat} {H : AHeap} {y : Cell} {zs : List Cell} {bs : List (List UInt8)} (h : BB n H y zs bs) (hb : inB y zs b) : n ≤ b := by
  rcases hb with hb | ⟨z, hz, hb⟩
  · exact h.1.le hb
  · obtain ⟨i, hi, rfl⟩ := List.mem_iff_getElem.mp hz
    have hi' : i < bs.length := by rw [← h.2.1]; exact hi
    exact (h.2.2 i _ _ (List.getElem?_eq_getElem hi) (List.getElem?_eq_getElem hi')).le hb
/-- one more behind -/
theorem BB.snoc {n : Nat} {H : AHeap} {y' z : Cell} {zs : List Cell} {bs : List (List UInt8)} {b : List UInt8} (h : ∀ (i : Nat) (z : Cell) (b : List UInt8), zs[i]? = some z → bs[i]? = some b → OwnT n H z 1 (B8 b)) (hl : zs.length = bs.length) (hy : OwnT n H y' 1 (zs ++ [z])) (hz : OwnT n H z 1 (B8 b)) : BB n H y' (zs ++ [z]) (bs ++ [b]) := by
  refine ⟨hy, by simp [hl], fun i w c h1 h2 => ?_⟩
  rw [List.getElem?_append] at h1 h2
  by_cases hi : i < zs.length
  · rw [if_pos hi] at h1; rw [if_pos (by omega)] at h2; exact h i w c h1 h2
  · rw [if_neg hi] at h1; rw [if_neg (by omega)] at h2
    have h0 : i - zs.length = 0 := by have := (List.getElem?_eq_some_iff.mp h1).1; simp at this; omega
    have h0' : i - bs.length = 0 := by omega
    rw [h0] at h1; rw [h0'] at h2
    simp at h1 h2
    subst h1 h2; exact hz

/-- a part of a slice -/
def sliceX (sz' : Nat) (H : AHeap) (x : AV) (lo hi : Option AV) : Option (AV × AHeap) :=
  match x with
  | .c (.slc b o n sz) =>
    match hiA hi n, loA lo with
    | some h, some l => if sz = sz' ∧ l ≤ h then (hcells H b).map fun _ => (.c (.slc b (o + l * sz) (h - l) sz), H) else none
    | _, _ => none
  | .c .snil =>
    match hiA hi 0, loA lo with
    | some _, some l => if l ≤ 0 then some (.c .snil, H) else none
    | _, _ => none
  | _ => none
theorem exec_sliceX {call : ACall} {fl sz : Nat} {fr : AFrame} {H : AHeap} {x : AOpd} {lo hi : Option AOpd} : execA call fl fr H (.sliceS sz x lo hi) = sliceX sz H (x.ev fr) (lo.map (·.ev fr)) (hi.map (·.ev fr)) := by
  simp only [execA, stepA, sliceX]; rfl
/-- from a place on -/
theorem Rd.slice_from {H : AHeap} {x : Cell} {cs : List Cell} (h : Rd H x 1 cs) {k : Nat} (hk : k ≤ cs.length) : ∃ x', sliceX 1 H (.c x) (some (.c (.int .i64 (k : Int)))) none = some (.c x', H) ∧ Rd H x' 1 (cs.drop k) ∧ (∀ b, inX x' b → inX x b) := by
  have h3 : (0 : Int) ≤ (k : Int) := by omega
  rcases h with ⟨rfl, rfl⟩ | ⟨s, o, n, rfl, hn, hr⟩
  · obtain rfl : k = 0 := by simpa using hk
    exact ⟨.snil, rfl, .inl ⟨rfl, rfl⟩, fun _ h => h⟩
  · have hR : Rd H (.slc s o n 1) 1 cs := .inr ⟨s, o, n, rfl, hn, hr⟩
    obtain ⟨full, hc, _, _, _⟩ := hR.full
    refine ⟨.slc s (o + k * 1) (n - k) 1, ?_, ?_, fun b hb => by rw [inX_slc] at hb ⊢; exact hb⟩
    · simp only [sliceX, hiA, loA, h3, if_true, Int.toNat_natCast, hc]
      rw [if_pos ⟨trivial, by omega⟩]; rfl
    · have := hR.sub (i := k) (j := n) (by omega) (Nat.le_refl _)
      rw [Nat.mul_one, Nat.mul_one, List.take_of_length_le (by rw [List.length_drop]; omega)] at this
      rw [Nat.mul_one]; exact this

/-! a block that is changed over and over: the heap is 'H.set p ..' -/
theorem set_id {H : AHeap} {p : Nat} {cs : List Cell} (h : hown H p = some cs) : H = H.set p (.own cs) := by
  have hp := hown_lt h
  apply List.ext_getElem?
  intro i
  rw [List.getElem?_set]
  by_cases e : p = i
  · subst e
    rw [if_pos rfl, if_pos hp]
    simp only [hown] at h
    split at h
    · rename_i hb; rw [hb]; cases h; rfl
    · cases h
  · rw [if_neg e]
theorem hcells_setS {H : AHeap} {p : Nat} {cs : List Cell} (hp : p < H.length) : hcells (H.set p (.own cs)) p = some cs := hcells_set hp
theorem storeX_setS {fl : Nat} {H : AHeap} {p o : Nat} {cs : List Cell} {v : Cell} (hp : p < H.length) (hf : fl ≤ p) (ho : o < cs.length) : storeX fl (H.set p (.own cs)) (.c (.ptr p o)) (.c v) = some (aundef, H.set p (.own (cs.set o v))) := by
  rw [storeX_own (hown_set hp) hf ho, List.set_set]

theorem set_last {H : AHeap} {x y : Blk} : (H ++ [x]).set H.length y = H ++ [y] := by
  rw [List.set_append_right _ _ (Nat.le_refl _), Nat.sub_self]; rfl
theorem storeN_last {n fl : Nat} {H : AHeap} {cs vs : List Cell} (hf : fl ≤ H.length) (hc : cs.length = n) (hv : vs.length = n) : storeN n fl (H ++ [.own cs]) (.c (.ptr H.length 0)) (.agg vs) = some (aundef, H ++ [.own vs]) := by
  rw [storeN_all hown_last hf hc hv, set_last]
theorem rep_len {α : Type} {n : Nat} {x : α} : (rep n x).length = n := by simp [rep]
theorem rep_4 {α : Type} {x : α} : rep 4 x = [x, x, x, x] := rfl
end PAbs

/- More facts for walks: copy; parts of lists; blocks of several cells. -/
namespace PAbs
open Go
set_option linter.unusedSimpArgs false
set_option linter.unusedVariables false

/-- copy -/
def copyX (sz fl : Nat) (H : AHeap) (d s : AV) : Option (AV × AHeap) :=
  match d, lenA s, sliceCells H sz s with
  | .c (.slc b o n sz'), some m, some cs => if sz' = sz then (writeN fl H b o (cs.take (min m n * sz))).map fun H' => (i64 (min m n : Nat), H') else none
  | _, _, _ => none
theorem exec_copyX {call : ACall} {fl sz : Nat} {fr : AFrame} {H : AHeap} {d s : AOpd} : execA call fl fr H (.copy sz d s) = copyX sz fl H (d.ev fr) (s.ev fr) := by
  simp only [execA, stepA, copyX]; rfl
theorem Rd.lenA {H : AHeap} {x : Cell} {cs : List Cell} (h : Rd H x 1 cs) : lenA (.c x) = some cs.length := by
  rcases h with ⟨rfl, rfl⟩ | ⟨s, o, n, rfl, h2, _⟩
  · rfl
  · simp only [PAbs.lenA]; rw [h2, Nat.mul_one]
theorem copyX_own {fl : Nat} {H : AHeap} {b o n k : Nat} {cs ns : List Cell} {x : Cell} (hb : hown H b = some cs) (hf : fl ≤ b) (hx : Rd H x 1 ns) (hk : min ns.length n = k) (ho : o + k ≤ cs.length) :
    copyX 1 fl H (.c (.slc b o n 1)) (.c x) = some (.c (.int .i64 (k : Int)), H.set b (.own (cs.take o ++ ns.take k ++ cs.drop (o + k)))) := by
  have hl : (ns.take k).length = k := by rw [List.length_take]; omega
  simp only [copyX, hx.lenA, hx.cells, if_true, Nat.mul_one, hk, writeN, hb, hl]
  rw [if_pos ⟨hf, ho⟩]; rfl

/-- a list with a part put in -/
def putL {α : Type} (l : List α) (o : Nat) (m : List α) : List α := l.take o ++ m ++ l.drop (o + m.length)
theorem putL_length {α : Type} {l m : List α} {o : Nat} (h : o + m.length ≤ l.length) : (putL l o m).length = l.length := by
  simp only [putL, List.length_append, List.length_take, List.length_drop]; omega
theorem putL_get {α : Type} {l m : List α} {o j : Nat} (h : o + m.length ≤ l.length) : (putL l o m)[j]? = if o ≤ j ∧ j < o + m.length then m[j - o]? else l[j]? := by
  have ht : (l.take o).length = o := by rw [List.length_take]; omega
  simp only [putL, List.getElem?_append, List.length_append, ht]
  by_cases h1 : j < o
  · rw [if_pos (by omega), if_pos h1, if_neg (by omega), List.getElem?_take, if_pos h1]
  · by_cases h2 : j < o + m.length
    · rw [if_pos h2, if_neg h1, if_pos ⟨by omega, h2⟩]
    · rw [if_neg h2, if_neg (by omega), List.getElem?_drop]
      congr 1; omega
theorem putL_map {α β : Type} {f : α → β} {l m : List α} {o : Nat} : putL (l.map f) o (m.map f) = (putL l o m).map f := by simp [putL]

/-- parts put together -/
def joinN {α : Type} (f : Nat → List α) : Nat → List α
  | 0 => []
  | n + 1 => joinN f n ++ f n
theorem joinN_length {α : Type} {f : Nat → List α} {k : Nat} (h : ∀ i, (f i).length = k) : ∀ n, (joinN f n).length = n * k
  | 0 => by simp [joinN]
  | n + 1 => by simp [joinN, joinN_length h n, h, Nat.add_mul]
theorem joinN_get {α : Type} {f : Nat → List α} {k : Nat} (h : ∀ i, (f i).length = k) : ∀ n j q, j < n → q < k → (joinN f n)[k * j + q]? = (f j)[q]?
  | 0, j, q, hj, _ => by omega
  | n + 1, j, q, hj, hq => by
    have hl := joinN_length h n
    simp only [joinN, List.getElem?_append, hl]
    have e := Nat.mul_comm n k
    rcases Nat.lt_or_ge j n with hj' | hj'
    · have h2 : k * j + k ≤ k * n := by rw [← Nat.mul_succ]; exact Nat.mul_le_mul_left _ hj'
      rw [if_pos (by omega)]
      exact joinN_get h n j q hj' hq
    · obtain rfl : j = n := by omega
      rw [if_neg (by omega)]
      congr 1; omega
theorem getD_of_get {α : Type} {l m : List α} {i j : Nat} {d : α} (h : l[i]? = m[j]?) : l.getD i d = m.getD j d := by rw [List.getD_eq_getElem?_getD, List.getD_eq_getElem?_getD, h]
theorem take_one' {α : Type} {l : List α} {i : Nat} {x : α} (h : l[i]? = some x) : l.take (i + 1) = l.take i ++ [x] := by rw [List.take_add_one, h]; rfl

/-- a place of a slice of one-cell elements, for facts -/
theorem Rd.at1 {H : AHeap} {u o n z : Nat} {cs : List Cell} (h : Rd H (.slc u o n z) 1 cs) (i : Nat) (hi : i < cs.length) : ∃ full, hcells H u = some full ∧ full[o + i]? = cs[i]? ∧ n = cs.length ∧ z = 1 := by
  obtain ⟨u', o', full, e, h1, h2⟩ := h.get hi
  cases e
  exact ⟨full, h1, h2, rfl, rfl⟩
/-- a slice of one's own -/
theorem Rd.all {H : AHeap} {b n : Nat} {cs : List Cell} (h : hcells H b = some cs) (hn : cs.length = n) : Rd H (.slc b 0 n 1) 1 cs := by
  subst hn; exact .inr ⟨b, 0, _, rfl, by omega, by rw [Nat.mul_one]; exact readN_all h⟩

theorem sliceX_from {H : AHeap} {b o n k sz : Nat} {cs : List Cell} (hb : hcells H b = some cs) (hk : k ≤ n) : sliceX sz H (.c (.slc b o n sz)) (some (.c (.int .i64 (k : Int)))) none = some (.c (.slc b (o + k * sz) (n - k) sz), H) := by
  have h3 : (0 : Int) ≤ (k : Int) := by omega
  simp only [sliceX, hiA, loA, h3, if_true, Int.toNat_natCast, hb]
  rw [if_pos ⟨trivial, by omega⟩]; rfl
theorem sliceX_to {H : AHeap} {b o n k sz : Nat} {cs : List Cell} (hb : hcells H b = some cs) (hk : k ≤ n) : sliceX sz H (.c (.slc b o n sz)) none (some (.c (.int .i64 (k : Int)))) = some (.c (.slc b o k sz), H) := by
  have h3 : (0 : Int) ≤ (k : Int) := by omega
  have h4 : (k : Int) ≤ (n : Int) := by omega
  simp only [sliceX, hiA, loA, h3, h4, and_self, if_true, Int.toNat_natCast, hb, Nat.zero_mul, Nat.add_zero, Nat.sub_zero]
  rw [if_pos ⟨trivial, by omega⟩]; rfl
theorem sliceX_part {H : AHeap} {b o n i j sz : Nat} {cs : List Cell} (hb : hcells H b = some cs) (hi : i ≤ j) (hj : j ≤ n) : sliceX sz H (.c (.slc b o n sz)) (some (.c (.int .i64 (i : Int)))) (some (.c (.int .i64 (j : Int)))) = some (.c (.slc b (o + i * sz) (j - i) sz), H) := by
  have h3 : (0 : Int) ≤ (i : Int) := by omega
  have h5 : (0 : Int) ≤ (j : Int) := by omega
  have h4 : (j : Int) ≤ (n : Int) := by omega
  simp only [sliceX, hiA, loA, h3, h4, h5, and_self, if_true, Int.toNat_natCast, hb]
  rw [if_pos ⟨trivial, by omega⟩]; rfl
end PAbs

/- Steps that go on until one lacks a fact, and stand there: the operation's value is an open term. -/
namespace PAbs
open Go
set_option linter.unusedSimpArgs false
set_option linter.unusedVariables false

theorem exec_same {fl : Nat} {fr : AFrame} {H : AHeap} {p : AOp} (call : ACall) (h : p.stops = false) : execA call fl fr H p = execA noCall fl fr H p := by
  cases p <;> first | rfl | (simp [AOp.stops] at h)

/-- what a row of steps comes to -/
def atOps (call : ACall) (fl : Nat) : Pre → Option (AFrame × AHeap)
  | .at o f h => evalOps call fl o f h
  | .bad => none
def atHead (call : ACall) : Pre → Option (AFrame × AHeap)
  | .at o f h => evalHead call o f h
  | .bad => none
theorem evalPre_ops (call : ACall) {fl : Nat} : ∀ (ops : List AOper) (fr : AFrame) (H : AHeap), evalOps call fl ops fr H = atOps call fl (evalPre fl ops fr H)
  | [], fr, H => rfl
  | o :: r, fr, H => by
    simp only [evalPre]
    cases hw : wantedA fr o.guard with
    | true =>
      cases hs : o.op.stops with
      | true => simp only [if_true, atOps]
      | false =>
        simp only [evalOps, hw, if_true, Bool.false_eq_true, if_false, exec_same call hs]
        cases hx : execA noCall fl fr H o.op with
        | none => rfl
        | some y => obtain ⟨v, H'⟩ := y; exact evalPre_ops call r _ _
    | false =>
      simp only [evalOps, hw, Bool.false_eq_true, if_false]
      exact evalPre_ops call r _ _
theorem hPre_head (call : ACall) : ∀ (ops : List AOper) (fr : AFrame) (H : AHeap), evalHead call ops fr H = atHead call (hPre ops fr H)
  | [], fr, H => rfl
  | o :: r, fr, H => by
    simp only [hPre]
    cases hw : wantedA fr o.guard with
    | true =>
      cases hs : o.op.stops with
      | true => simp only [if_true, atHead]
      | false =>
        simp only [evalHead, hw, if_true, Bool.false_eq_true, if_false, exec_same call hs]
        cases hx : execA noCall H.length fr H o.op with
        | none => rfl
        | some y => obtain ⟨v, H'⟩ := y; exact hPre_head call r _ _
    | false =>
      simp only [evalHead, hw, Bool.false_eq_true, if_false]
      exact hPre_head call r _ _

section
variable {A : Nat → Option AFn} {fl : Nat} {ops rest : List AOper} {fr fr0 : AFrame} {H H0 : AHeap} {Q : AFrame → AHeap → Prop} {d : Option Nat} {X : Option (AV × AHeap)} {v : AV} {H' : AHeap}
/-- an operation of this value, then the rest -/
structure AX (A : Nat → Option AFn) (fl : Nat) (d : Option Nat) (rest : List AOper) (fr : AFrame) (X : Option (AV × AHeap)) (Q : AFrame → AHeap → Prop) : Prop where
  ex : ∃ v H', X = some (v, H') ∧ AO A fl rest (putA fr d v) H' Q
structure AHX (A : Nat → Option AFn) (d : Option Nat) (rest : List AOper) (fr : AFrame) (X : Option (AV × AHeap)) (Q : AFrame → AHeap → Prop) : Prop where
  ex : ∃ v H', X = some (v, H') ∧ AHd A rest (putA fr d v) H' Q
theorem AX_go (h : X = some (v, H')) (h2 : AO A fl rest (putA fr d v) H' Q) : AX A fl d rest fr X Q := ⟨v, H', h, h2⟩
theorem AHX_go (h : X = some (v, H')) (h2 : AHd A rest (putA fr d v) H' Q) : AHX A d rest fr X Q := ⟨v, H', h, h2⟩
theorem AO_stuck (h : evalPre1 fl ops fr0 H0 = contP fl d rest fr X) (h2 : AX A fl d rest fr X Q) : AO A fl ops fr0 H0 Q := by
  obtain ⟨v, H', rfl, hr⟩ := h2
  rw [pcont_some] at h
  cases he : evalPre fl rest (putA fr d v) H' with
  | bad =>
    obtain ⟨k, f, g, h3, _⟩ := hr
    rw [evalPre_ops, he] at h3; cases h3
  | «at» o f g =>
    rw [he] at h
    refine AO_pre h ?_
    obtain ⟨k, f2, g2, h3, h4⟩ := hr
    rw [evalPre_ops, he] at h3
    exact ⟨k, f2, g2, h3, h4⟩
theorem AHd_stuck (h : hPre1 ops fr0 H0 = contHP d rest fr X) (h2 : AHX A d rest fr X Q) : AHd A ops fr0 H0 Q := by
  obtain ⟨v, H', rfl, hr⟩ := h2
  rw [hpcont_some] at h
  cases he : hPre rest (putA fr d v) H' with
  | bad =>
    obtain ⟨k, f, g, h3, _⟩ := hr
    rw [hPre_head, he] at h3; cases h3
  | «at» o f g =>
    rw [he] at h
    refine AHd_pre h ?_
    obtain ⟨k, f2, g2, h3, h4⟩ := hr
    rw [hPre_head, he] at h3
    exact ⟨k, f2, g2, h3, h4⟩
end
section
variable {A : Nat → Option AFn} {fl : Nat} {c : AOpd} {a b : ACode} {fr : AFrame} {H : AHeap} {Q : AExit → AFrame → AHeap → Prop}
theorem AW_ift (h : c.ev fr = .c (.bool true)) (h2 : AW A fl a fr H Q) : AW A fl (.cond c a b) fr H Q := AW_cond h (fun _ => h2) (fun h => by cases h)
theorem AW_iff (h : c.ev fr = .c (.bool false)) (h2 : AW A fl b fr H Q) : AW A fl (.cond c a b) fr H Q := AW_cond h (fun h => by cases h) (fun _ => h2)
end
theorem storeN_one {fl : Nat} {H : AHeap} {a x : AV} : storeN 1 fl H a x = storeX fl H a x := rfl
theorem storeN_lastp {n fl p : Nat} {H : AHeap} {cs vs : List Cell} (hp : p = H.length) (hf : fl ≤ p) (hc : cs.length = n) (hv : vs.length = n) : storeN n fl (H ++ [.own cs]) (.c (.ptr p 0)) (.agg vs) = some (aundef, H ++ [.own vs]) := by
  subst hp; exact storeN_last hf hc hv

/-! one form for all steps: what a row of steps comes to, an open term where a fact lacks -/
section
variable {A : Nat → Option AFn} {fl : Nat} {ops rest : List AOper} {fr fr0 : AFrame} {H H0 : AHeap} {Q : AFrame → AHeap → Prop} {p p' : Pre}
structure AP (A : Nat → Option AFn) (fl : Nat) (p : Pre) (Q : AFrame → AHeap → Prop) : Prop where
  ex : ∃ o f h, p = .at o f h ∧ AO A fl o f h Q
structure AHP (A : Nat → Option AFn) (p : Pre) (Q : AFrame → AHeap → Prop) : Prop where
  ex : ∃ o f h, p = .at o f h ∧ AHd A o f h Q
structure EqP (p p' : Pre) : Prop where
  e : p = p'
theorem EqP.at_ {o : List AOper} : EqP (.at o fr H) (.at o fr H) := ⟨rfl⟩
theorem EqP.cont {d : Option Nat} {X : Option (AV × AHeap)} : EqP (contP fl d rest fr X) (contP fl d rest fr X) := ⟨rfl⟩
theorem EqP.hcont {d : Option Nat} {X : Option (AV × AHeap)} : EqP (contHP d rest fr X) (contHP d rest fr X) := ⟨rfl⟩
theorem EqP.gate {o : AOper} {b : Bool} : EqP (gateP fl o rest fr H b) (gateP fl o rest fr H b) := ⟨rfl⟩
theorem EqP.hgate {o : AOper} {b : Bool} : EqP (gateHP o rest fr H b) (gateHP o rest fr H b) := ⟨rfl⟩
theorem AO_any (h : EqP (evalPre1 fl ops fr H) p) (h2 : AP A fl p Q) : AO A fl ops fr H Q := by
  obtain ⟨o, f, g, rfl, h3⟩ := h2; exact AO_pre h.e h3
theorem AHd_any (h : EqP (hPre1 ops fr H) p) (h2 : AHP A p Q) : AHd A ops fr H Q := by
  obtain ⟨o, f, g, rfl, h3⟩ := h2; exact AHd_pre h.e h3
theorem AP_go (h : EqP p p') (h2 : AP A fl p' Q) : AP A fl p Q := by obtain ⟨rfl⟩ := h; exact h2
theorem AHP_go (h : EqP p p') (h2 : AHP A p' Q) : AHP A p Q := by obtain ⟨rfl⟩ := h; exact h2
theorem AP_at {o : List AOper} (h : AO A fl o fr H Q) : AP A fl (.at o fr H) Q := ⟨_, _, _, rfl, h⟩
theorem AHP_at {o : List AOper} (h : AHd A o fr H Q) : AHP A (.at o fr H) Q := ⟨_, _, _, rfl, h⟩
end
/-- sums with a carry -/
def carryX (sub : Bool) (H : AHeap) (x y c : AV) : Option (AV × AHeap) :=
  match x, y, c with
  | .c (.int .u64 a), .c (.int .u64 b), .c (.int .u64 k) => (carryA sub a b k).map fun v => (v, H)
  | _, _, _ => none
theorem exec_carryX {call : ACall} {fl : Nat} {fr : AFrame} {H : AHeap} {sub : Bool} {x y c : AOpd} : execA call fl fr H (.carry sub x y c) = carryX sub H (x.ev fr) (y.ev fr) (c.ev fr) := by
  simp only [execA, stepA, carryX]; rfl
theorem carryX_of {sub : Bool} {H : AHeap} {a b k : Int} {v : AV} (h : carryA sub a b k = some v) : carryX sub H (.c (.int .u64 a)) (.c (.int .u64 b)) (.c (.int .u64 k)) = some (v, H) := by
  simp only [carryX, h]; rfl
section
variable {A : Nat → Option AFn} {fl id i : Nat} {fr : AFrame} {H : AHeap} {Q : AExit → AFrame → AHeap → Prop} {b : ACode}
theorem thenQ_e (h : Q (.exit i) fr H) : thenQ A fl b Q (.exit i) fr H := h
theorem thenQ_r (h : Q .ret fr H) : thenQ A fl b Q .ret fr H := h
theorem blockQ_r (h : Q .ret fr H) : blockQ id Q .ret fr H := h
theorem blockQ_s (h : Q .normal fr H) : blockQ id Q (.exit id) fr H := by simp only [blockQ, if_true]; exact h
theorem blockQ_o (hi : (i == id) = false) (h : Q (.exit i) fr H) : blockQ id Q (.exit i) fr H := by
  have : ¬ i = id := by simpa using hi
  simp only [blockQ, if_neg this]; exact h
end
end PAbs

/- One name for many rewrites. -/
namespace PAbs
open Go PAbs
theorem Sm : type_of% @List.take_succ_cons.{0} ∧ type_of% @List.take_zero.{0} ∧ type_of% @List.drop_succ_cons.{0} ∧ type_of% @List.drop_zero.{0} ∧ type_of% @bne_self_eq_false.{0} ∧ type_of% @List.map_cons.{0,0} ∧ type_of% @List.map_nil.{0,0} ∧ type_of% @Bool.true_beq ∧ type_of% @Bool.false_beq ∧ type_of% @run_nil ∧ type_of% @run_cons ∧ type_of% @run_gate ∧ type_of% @cont_some ∧ type_of% @gate_true ∧ type_of% @gate_false ∧ type_of% @hrun_nil ∧ type_of% @hrun_cons ∧ type_of% @hrun_gate ∧ type_of% @hcont_some ∧ type_of% @hgate_true ∧ type_of% @hgate_false ∧ type_of% @put_some ∧ type_of% @put_none ∧ type_of% @ev_t ∧ type_of% @ev_k ∧ type_of% @List.set_cons_succ.{0} ∧ type_of% @List.set_cons_zero.{0} ∧ type_of% @List.getD_cons_succ.{0} ∧ type_of% @List.getD_cons_zero.{0} ∧ type_of% @true_or ∧ type_of% @or_true ∧ type_of% @true_and ∧ type_of% @and_true ∧ type_of% @and_self ∧ type_of% @beq_self_eq_true.{0} ∧ type_of% @Bool.not_true ∧ type_of% @Bool.not_false ∧ type_of% @Bool.false_eq_true ∧ type_of% @decide_true ∧ type_of% @Bool.and_true ∧ type_of% @Bool.true_and ∧ type_of% @hcells_last ∧ type_of% @hown_last ∧ type_of% @List.nil_append.{0} ∧ type_of% @List.cons_append.{0} ∧ type_of% @List.append_nil.{0} ∧ type_of% @List.take_nil.{0} ∧ type_of% @List.drop_nil.{0} ∧ type_of% @List.length_cons.{0} ∧ type_of% @List.length_nil.{0} ∧ type_of% @List.length_append.{0} ∧ type_of% @Nat.zero_add ∧ type_of% @Nat.add_zero ∧ type_of% @Nat.mul_one ∧ type_of% @Nat.one_mul ∧ type_of% @Nat.div_one ∧ type_of% @Nat.le_refl ∧ type_of% @Int.toNat_natCast ∧ type_of% @Int.toNat_zero ∧ type_of% @Nat.zero_le ∧ type_of% @Int.natCast_nonneg ∧ type_of% @Option.some.injEq.{0} ∧ type_of% @Cell.int.injEq ∧ type_of% @AV.c.injEq ∧ type_of% @pre_nil ∧ type_of% @pre_cons ∧ type_of% @pre_gate ∧ type_of% @pre1_cons ∧ type_of% @pre1_gate ∧ type_of% @qstop_true ∧ type_of% @qstop_false ∧ type_of% @qstopg_false ∧ type_of% @qgate_true ∧ type_of% @qgate_false ∧ type_of% @pcont_some ∧ type_of% @pstop_true ∧ type_of% @pstop_false ∧ type_of% @pstopg_false ∧ type_of% @pgate_true ∧ type_of% @pgate_false ∧ type_of% @hpre_nil ∧ type_of% @hpre_cons ∧ type_of% @hpre_gate ∧ type_of% @hpre1_cons ∧ type_of% @hpre1_gate ∧ type_of% @hqstop_true ∧ type_of% @hqstop_false ∧ type_of% @hqstopg_false ∧ type_of% @hqgate_true ∧ type_of% @hqgate_false ∧ type_of% @hpcont_some ∧ type_of% @hpstop_true ∧ type_of% @hpstop_false ∧ type_of% @hpstopg_false ∧ type_of% @hpgate_true ∧ type_of% @hpgate_false ∧ type_of% @decide_false ∧ type_of% @nat_0 ∧ type_of% @nat_1 ∧ type_of% @nat_2 ∧ type_of% @nat_3 ∧ type_of% @nat_4 ∧ type_of% @nat_8 ∧ type_of% @nat_16 ∧ type_of% @nat_64 ∧ type_of% @nat_128 ∧ type_of% @pre1_nil ∧ type_of% @hpre1_nil ∧ type_of% @wantV_bool ∧ type_of% @wantV_undef ∧ type_of% @lenX_snil ∧ type_of% @lenX_slc := ⟨@List.take_succ_cons.{0}, @List.take_zero.{0}, @List.drop_succ_cons.{0}, @List.drop_zero.{0}, @bne_self_eq_false.{0}, @List.map_cons.{0,0}, @List.map_nil.{0,0}, @Bool.true_beq, @Bool.false_beq, @run_nil, @run_cons, @run_gate, @cont_some, @gate_true, @gate_false, @hrun_nil, @hrun_cons, @hrun_gate, @hcont_some, @hgate_true, @hgate_false, @put_some, @put_none, @ev_t, @ev_k, @List.set_cons_succ.{0}, @List.set_cons_zero.{0}, @List.getD_cons_succ.{0}, @List.getD_cons_zero.{0}, @true_or, @or_true, @true_and, @and_true, @and_self, @beq_self_eq_true.{0}, @Bool.not_true, @Bool.not_false, @Bool.false_eq_true, @decide_true, @Bool.and_true, @Bool.true_and, @hcells_last, @hown_last, @List.nil_append.{0}, @List.cons_append.{0}, @List.append_nil.{0}, @List.take_nil.{0}, @List.drop_nil.{0}, @List.length_cons.{0}, @List.length_nil.{0}, @List.length_append.{0}, @Nat.zero_add, @Nat.add_zero, @Nat.mul_one, @Nat.one_mul, @Nat.div_one, @Nat.le_refl, @Int.toNat_natCast, @Int.toNat_zero, @Nat.zero_le, @Int.natCast_nonneg, @Option.some.injEq.{0}, @Cell.int.injEq, @AV.c.injEq, @pre_nil, @pre_cons, @pre_gate, @pre1_cons, @pre1_gate, @qstop_true, @qstop_false, @qstopg_false, @qgate_true, @qgate_false, @pcont_some, @pstop_true, @pstop_false, @pstopg_false, @pgate_true, @pgate_false, @hpre_nil, @hpre_cons, @hpre_gate, @hpre1_cons, @hpre1_gate, @hqstop_true, @hqstop_false, @hqstopg_false, @hqgate_true, @hqgate_false, @hpcont_some, @hpstop_true, @hpstop_false, @hpstopg_false, @hpgate_true, @hpgate_false, @decide_false, @nat_0, @nat_1, @nat_2, @nat_3, @nat_4, @nat_8, @nat_16, @nat_64, @nat_128, @pre1_nil, @hpre1_nil, @wantV_bool, @wantV_undef, @lenX_snil, @lenX_slc⟩
end PAbs

/- The numbers of the functions in this translation. -/
namespace PK
open Go PAbs
noncomputable abbrev A : Nat → Option AFn := tableA Go.Proofs.Try.prog
theorem mixed : Go.Proofs.Try.prog.follows .mixedOrders = true := by kernel_rfl
abbrev F_pestlelaw21_LeaseGives : Nat := 11
abbrev F_arena_Arena_Reserve : Nat := 14
abbrev F_arena_Arena_Release : Nat := 15
abbrev F_arena_Arena_Used : Nat := 17
abbrev F_arena_Arena_Lent : Nat := 19
abbrev F_arena_Piece_Len : Nat := 21
abbrev F_arena_New : Nat := 24
abbrev F_pestlelaw21_awake : Nat := 39
abbrev F_lease_Open : Nat := 40
abbrev F_lease_Lease_Take : Nat := 43
abbrev F_lease_Lease_Close : Nat := 44
abbrev F_lease_Lease_Held : Nat := 45
abbrev F_lease_Lease_Peak : Nat := 46
abbrev F_lease_With : Nat := 54
abbrev F_pestlelaw21_LeaseGives_1 : Nat := 55
abbrev F_pestlelaw21_LeaseGives_2 : Nat := 56
end PK

/- Lists of whole numbers as cells; facts used by many walks. -/
namespace PK
open Go PAbs
set_option linter.unusedSimpArgs false
set_option linter.unusedVariables false

theorem storeX_ex {fl p o : Nat} {H : AHeap} {cs : List Cell} (ho : hown H p = some cs) (hf : fl ≤ p) (hl : o < cs.length) (v : Cell) :
    ∃ H', storeX fl H (.c (.ptr p o)) (.c v) = some (aundef, H') ∧ hown H' p = some (cs.set o v) ∧ Chg (· = p) H H' ∧ H'.length = H.length :=
  ⟨_, storeX_own ho hf hl, hown_set (hown_lt ho), Chg.set rfl, by simp⟩
end PK

/- Package arena as code of the abstract machine. -/
namespace PK
open Go PAbs

noncomputable def c_arena_Arena_Reserve : AFn := AFn.mk 56 [.tmp 4, .tmp 5]
  (.seq (.region
      [⟨some 4, .mv (.k (.c (.pnil))), none⟩,
        ⟨some 5, .mv (.k (.c (.int .i64 0))), none⟩])
  (.seq (.block 0
      (.seq (.region
          [⟨some 7, .mv (.t 0), none⟩,
            ⟨some 8, .eq false .ptr (.t 7) (.k (.c (.pnil))), none⟩,
            ⟨some 6, .mv (.t 8), none⟩])
      (.cond (.t 6)
        (.seq (.region
            [⟨some 4, .mv (.k (.c (.pnil))), none⟩,
              ⟨some 5, .mv (.k (.c (.int .i64 11))), none⟩])
        (.ret))
        (.seq (.region
            [⟨some 10, .mv (.t 1), none⟩,
              ⟨some 11, .bin .lss (.t 10) (.k (.c (.int .i64 0))), none⟩,
              ⟨some 9, .mv (.t 11), none⟩])
        (.cond (.t 9)
          (.seq (.region
              [⟨some 4, .mv (.k (.c (.pnil))), none⟩,
                ⟨some 5, .mv (.k (.c (.int .i64 1))), none⟩])
          (.ret))
          (.seq (.draw
              [⟨some 13, .mv (.t 1), none⟩,
                ⟨some 14, .mv (.t 0), none⟩,
                ⟨some 15, .nilCheck (.t 14), none⟩,
                ⟨some 16, .fieldAddr 0 (.t 15), none⟩,
                ⟨some 17, .load1 (.t 16), none⟩,
                ⟨some 18, .mv (.t 0), none⟩,
                ⟨some 19, .nilCheck (.t 18), none⟩,
                ⟨some 20, .fieldAddr 1 (.t 19), none⟩,
                ⟨some 21, .load1 (.t 20), none⟩,
                ⟨some 22, .bin .sub (.t 17) (.t 21), none⟩]
              [⟨some 23, .bin .gtr (.t 13) (.t 22), none⟩,
                ⟨some 12, .mv (.t 23), none⟩])
          (.cond (.t 12)
            (.seq (.region
                [⟨some 4, .mv (.k (.c (.pnil))), none⟩,
                  ⟨some 5, .mv (.k (.c (.int .i64 4))), none⟩])
            (.ret))
            (.skip))))))))
  (.seq (.region
      [⟨some 24, .mv (.t 0), none⟩,
        ⟨some 25, .nilCheck (.t 24), none⟩,
        ⟨some 26, .fieldAddr 1 (.t 25), none⟩,
        ⟨some 27, .load1 (.t 26), none⟩,
        ⟨some 28, .mv (.t 1), none⟩,
        ⟨some 29, .bin .add (.t 27) (.t 28), none⟩,
        ⟨some 30, .nilCheck (.t 24), none⟩,
        ⟨some 31, .fieldAddr 1 (.t 30), none⟩,
        ⟨none, .store 1 (.t 31) (.t 29), none⟩])
  (.seq (.draw
      [⟨some 32, .mv (.t 0), none⟩,
        ⟨some 33, .mv (.t 0), none⟩,
        ⟨some 34, .nilCheck (.t 33), none⟩,
        ⟨some 35, .fieldAddr 2 (.t 34), none⟩,
        ⟨some 36, .load1 (.t 35), none⟩,
        ⟨some 37, .mv (.t 0), none⟩,
        ⟨some 38, .nilCheck (.t 37), none⟩,
        ⟨some 39, .fieldAddr 1 (.t 38), none⟩,
        ⟨some 40, .load1 (.t 39), none⟩,
        ⟨some 41, .max [.t 36, .t 40], none⟩]
      [⟨some 42, .nilCheck (.t 32), none⟩,
        ⟨some 43, .fieldAddr 2 (.t 42), none⟩,
        ⟨none, .store 1 (.t 43) (.t 41), none⟩])
  (.seq (.region
      [⟨some 44, .mv (.t 0), none⟩,
        ⟨some 45, .nilCheck (.t 44), none⟩,
        ⟨some 46, .fieldAddr 3 (.t 45), none⟩,
        ⟨some 47, .load1 (.t 46), none⟩,
        ⟨some 48, .bin .add (.t 47) (.k (.c (.int .i64 1))), none⟩,
        ⟨some 49, .nilCheck (.t 44), none⟩,
        ⟨some 50, .fieldAddr 3 (.t 49), none⟩,
        ⟨none, .store 1 (.t 50) (.t 48), none⟩])
  (.seq (.region
      [⟨some 51, .mv (.t 0), none⟩,
        ⟨some 52, .mv (.t 1), none⟩,
        ⟨some 53, .makeSlice (rep 128 (.int .u64 0)) 1024 (.t 52) (.t 52), none⟩,
        ⟨some 54, .build ([.pnil, .snil, .bool false]) [(0, 1, .t 51), (1, 1, .t 53), (2, 1, .k (.c (.bool true)))], none⟩,
        ⟨some 55, .box (.t 54), none⟩,
        ⟨some 4, .mv (.t 55), none⟩,
        ⟨some 5, .mv (.k (.c (.int .i64 0))), none⟩])
  (.ret)))))))
theorem t_arena_Arena_Reserve : A F_arena_Arena_Reserve = some c_arena_Arena_Reserve := by kernel_rfl

noncomputable def c_arena_Arena_Release : AFn := AFn.mk 65 [.tmp 4]
  (.seq (.region
      [⟨some 4, .mv (.k (.c (.int .i64 0))), none⟩])
  (.seq (.block 0
      (.seq (.region
          [⟨some 7, .mv (.t 0), none⟩,
            ⟨some 8, .eq false .ptr (.t 7) (.k (.c (.pnil))), none⟩,
            ⟨some 9, .mv (.t 8), none⟩,
            ⟨some 10, .mv (.t 1), some (9, false)⟩,
            ⟨some 11, .eq false .ptr (.t 10) (.k (.c (.pnil))), some (9, false)⟩,
            ⟨some 12, .pick (.t 9) (.k (.c (.bool true))) (.t 11), none⟩,
            ⟨some 13, .mv (.t 12), none⟩,
            ⟨some 14, .mv (.t 1), some (13, false)⟩,
            ⟨some 15, .nilCheck (.t 14), some (13, false)⟩,
            ⟨some 16, .fieldAddr 0 (.t 15), some (13, false)⟩,
            ⟨some 17, .load1 (.t 16), some (13, false)⟩,
            ⟨some 18, .mv (.t 0), some (13, false)⟩,
            ⟨some 19, .eq true .ptr (.t 17) (.t 18), some (13, false)⟩,
            ⟨some 20, .pick (.t 13) (.k (.c (.bool true))) (.t 19), none⟩,
            ⟨some 6, .mv (.t 20), none⟩])
      (.cond (.t 6)
        (.seq (.region
            [⟨some 4, .mv (.k (.c (.int .i64 11))), none⟩])
        (.ret))
        (.seq (.region
            [⟨some 22, .mv (.t 1), none⟩,
              ⟨some 23, .nilCheck (.t 22), none⟩,
              ⟨some 24, .fieldAddr 2 (.t 23), none⟩,
              ⟨some 25, .load1 (.t 24), none⟩,
              ⟨some 26, .un .not (.t 25), none⟩,
              ⟨some 21, .mv (.t 26), none⟩])
        (.cond (.t 21)
          (.seq (.region
              [⟨some 4, .mv (.k (.c (.int .i64 12))), none⟩])
          (.ret))
          (.skip))))))
  (.seq (.seq (.region
        [⟨some 27, .mv (.t 1), none⟩,
          ⟨some 28, .nilCheck (.t 27), none⟩,
          ⟨some 29, .fieldAddr 1 (.t 28), none⟩,
          ⟨some 30, .load1 (.t 29), none⟩,
          ⟨some 31, .len false (.t 30), none⟩,
          ⟨some 32, .mv (.k (.c (.int .i64 0))), none⟩])
    (.block 1
      (.loop
        (.seq (.region
            [⟨some 33, .bin .lss (.t 32) (.t 31), none⟩])
        (.seq (.cond (.t 33)
            (.skip)
            (.exit 1))
        (.seq (.block 2
            (.seq (.region
                [⟨some 34, .mv (.t 32), none⟩,
                  ⟨some 5, .mv (.t 34), none⟩])
            (.region
              [⟨some 35, .mv (.t 1), none⟩,
                ⟨some 36, .nilCheck (.t 35), none⟩,
                ⟨some 37, .fieldAddr 1 (.t 36), none⟩,
                ⟨some 38, .load1 (.t 37), none⟩,
                ⟨some 39, .mv (.t 5), none⟩,
                ⟨some 40, .build (rep 128 (.int .u64 0)) [], none⟩,
                ⟨some 41, .idxSlc 128 (.t 38) (.t 39), none⟩,
                ⟨none, .store 128 (.t 41) (.t 40), none⟩])))
        (.region
          [⟨some 42, .bin .add (.t 32) (.k (.c (.int .i64 1))), none⟩,
            ⟨some 32, .mv (.t 42), none⟩])))))))
  (.seq (.region
      [⟨some 43, .mv (.t 1), none⟩,
        ⟨some 44, .nilCheck (.t 43), none⟩,
        ⟨some 45, .fieldAddr 2 (.t 44), none⟩,
        ⟨none, .store 1 (.t 45) (.k (.c (.bool false))), none⟩])
  (.seq (.draw
      [⟨some 46, .mv (.t 0), none⟩,
        ⟨some 47, .nilCheck (.t 46), none⟩,
        ⟨some 48, .fieldAddr 1 (.t 47), none⟩,
        ⟨some 49, .load1 (.t 48), none⟩,
        ⟨some 50, .mv (.t 1), none⟩,
        ⟨some 51, .nilCheck (.t 50), none⟩,
        ⟨some 52, .fieldAddr 1 (.t 51), none⟩,
        ⟨some 53, .load1 (.t 52), none⟩,
        ⟨some 54, .len false (.t 53), none⟩]
      [⟨some 55, .bin .sub (.t 49) (.t 54), none⟩,
        ⟨some 56, .nilCheck (.t 46), none⟩,
        ⟨some 57, .fieldAddr 1 (.t 56), none⟩,
        ⟨none, .store 1 (.t 57) (.t 55), none⟩])
  (.seq (.region
      [⟨some 58, .mv (.t 0), none⟩,
        ⟨some 59, .nilCheck (.t 58), none⟩,
        ⟨some 60, .fieldAddr 3 (.t 59), none⟩,
        ⟨some 61, .load1 (.t 60), none⟩,
        ⟨some 62, .bin .sub (.t 61) (.k (.c (.int .i64 1))), none⟩,
        ⟨some 63, .nilCheck (.t 58), none⟩,
        ⟨some 64, .fieldAddr 3 (.t 63), none⟩,
        ⟨none, .store 1 (.t 64) (.t 62), none⟩])
  (.seq (.region
      [⟨some 4, .mv (.k (.c (.int .i64 0))), none⟩])
  (.ret))))))))
theorem t_arena_Arena_Release : A F_arena_Arena_Release = some c_arena_Arena_Release := by kernel_rfl

noncomputable def c_arena_Arena_Used : AFn := AFn.mk 9 [.tmp 2]
  (.seq (.region
      [⟨some 2, .mv (.k (.c (.int .i64 0))), none⟩])
  (.seq (.seq (.region
        [⟨some 3, .mv (.t 0), none⟩,
          ⟨some 4, .eq false .ptr (.t 3) (.k (.c (.pnil))), none⟩])
    (.cond (.t 4)
      (.seq (.region
          [⟨some 2, .mv (.k (.c (.int .i64 0))), none⟩])
      (.ret))
      (.skip)))
  (.seq (.region
      [⟨some 5, .mv (.t 0), none⟩,
        ⟨some 6, .nilCheck (.t 5), none⟩,
        ⟨some 7, .fieldAddr 1 (.t 6), none⟩,
        ⟨some 8, .load1 (.t 7), none⟩,
        ⟨some 2, .mv (.t 8), none⟩])
  (.ret))))
theorem t_arena_Arena_Used : A F_arena_Arena_Used = some c_arena_Arena_Used := by kernel_rfl

noncomputable def c_arena_Arena_Lent : AFn := AFn.mk 9 [.tmp 2]
  (.seq (.region
      [⟨some 2, .mv (.k (.c (.int .i64 0))), none⟩])
  (.seq (.seq (.region
        [⟨some 3, .mv (.t 0), none⟩,
          ⟨some 4, .eq false .ptr (.t 3) (.k (.c (.pnil))), none⟩])
    (.cond (.t 4)
      (.seq (.region
          [⟨some 2, .mv (.k (.c (.int .i64 0))), none⟩])
      (.ret))
      (.skip)))
  (.seq (.region
      [⟨some 5, .mv (.t 0), none⟩,
        ⟨some 6, .nilCheck (.t 5), none⟩,
        ⟨some 7, .fieldAddr 3 (.t 6), none⟩,
        ⟨some 8, .load1 (.t 7), none⟩,
        ⟨some 2, .mv (.t 8), none⟩])
  (.ret))))
theorem t_arena_Arena_Lent : A F_arena_Arena_Lent = some c_arena_Arena_Lent := by kernel_rfl

noncomputable def c_arena_Piece_Len : AFn := AFn.mk 10 [.tmp 2]
  (.seq (.region
      [⟨some 2, .mv (.k (.c (.int .i64 0))), none⟩])
  (.seq (.seq (.region
        [⟨some 3, .mv (.t 0), none⟩,
          ⟨some 4, .eq false .ptr (.t 3) (.k (.c (.pnil))), none⟩])
    (.cond (.t 4)
      (.seq (.region
          [⟨some 2, .mv (.k (.c (.int .i64 0))), none⟩])
      (.ret))
      (.skip)))
  (.seq (.region
      [⟨some 5, .mv (.t 0), none⟩,
        ⟨some 6, .nilCheck (.t 5), none⟩,
        ⟨some 7, .fieldAddr 1 (.t 6), none⟩,
        ⟨some 8, .load1 (.t 7), none⟩,
        ⟨some 9, .len false (.t 8), none⟩,
        ⟨some 2, .mv (.t 9), none⟩])
  (.ret))))
theorem t_arena_Piece_Len : A F_arena_Piece_Len = some c_arena_Piece_Len := by kernel_rfl

noncomputable def c_arena_New : AFn := AFn.mk 13 [.tmp 2, .tmp 3]
  (.seq (.region
      [⟨some 2, .mv (.k (.c (.pnil))), none⟩,
        ⟨some 3, .mv (.k (.c (.int .i64 0))), none⟩])
  (.seq (.seq (.region
        [⟨some 4, .mv (.t 0), none⟩,
          ⟨some 5, .bin .lss (.t 4) (.k (.c (.int .i64 0))), none⟩,
          ⟨some 6, .mv (.t 5), none⟩,
          ⟨some 7, .mv (.t 0), some (6, false)⟩,
          ⟨some 8, .bin .gtr (.t 7) (.k (.c (.int .i64 4194304))), some (6, false)⟩,
          ⟨some 9, .pick (.t 6) (.k (.c (.bool true))) (.t 8), none⟩])
    (.cond (.t 9)
      (.seq (.region
          [⟨some 2, .mv (.k (.c (.pnil))), none⟩,
            ⟨some 3, .mv (.k (.c (.int .i64 1))), none⟩])
      (.ret))
      (.skip)))
  (.seq (.region
      [⟨some 10, .mv (.t 0), none⟩,
        ⟨some 11, .build (rep 4 (.int .i64 0)) [(0, 1, .t 10)], none⟩,
        ⟨some 12, .box (.t 11), none⟩,
        ⟨some 2, .mv (.t 12), none⟩,
        ⟨some 3, .mv (.k (.c (.int .i64 0))), none⟩])
  (.ret))))
theorem t_arena_New : A F_arena_New = some c_arena_New := by kernel_rfl

end PK

/- Package arena: what it lends, and takes back. -/
namespace PK
open Go PAbs
set_option linter.unusedSimpArgs false
set_option linter.unusedVariables false
set_option maxRecDepth 100000
set_option maxHeartbeats 4000000

def arC (b u h l : Nat) : List Cell := [.int .i64 (b : Int), .int .i64 (u : Int), .int .i64 (h : Int), .int .i64 (l : Int)]
def zB (n : Nat) : List Cell := List.replicate (n * 128) (.int .u64 0)
theorem zB_length (n : Nat) : (zB n).length = n * 128 := by simp [zB]
theorem zB_flat : ∀ n : Nat, (List.replicate n (rep 128 (Cell.int .u64 0))).flatten = zB n
  | 0 => rfl
  | n + 1 => by
    rw [List.replicate_succ, List.flatten_cons, zB_flat n]
    simp only [zB, rep]
    rw [List.replicate_append_replicate]; congr 1; omega
structure PieceAt (H : AHeap) (p a q n : Nat) (live : Bool) (cs : List Cell) : Prop where
  own : hown H p = some [.ptr a 0, .slc q 0 n 128, .bool live]
  blk : hown H q = some cs
  len : cs.length = n * 128
  pq : p ≠ q
  pa : p ≠ a
  qa : q ≠ a
theorem PieceAt.chg {S : Nat → Prop} {H H' : AHeap} {p a q n : Nat} {live : Bool} {cs : List Cell} (h : PieceAt H p a q n live cs) (hc : Chg S H H') (hp : ¬ S p) (hq : ¬ S q) : PieceAt H' p a q n live cs :=
  ⟨hc.hown hp h.own, hc.hown hq h.blk, h.len, h.pq, h.pa, h.qa⟩
theorem PieceAt.kept {H H' : AHeap} {p a q n : Nat} {live : Bool} {cs : List Cell} (h : PieceAt H p a q n live cs) (k : Kept H.length H H') : PieceAt H' p a q n live cs := h.chg (Chg.of_kept k) (fun h => h) (fun h => h)

section
variable (fl : Nat) (H : AHeap)
theorem AC_arNew (n : Nat) (h : n ≤ 4194304) : AC A fl F_arena_New [.c (.int .i64 (n : Int))] H (fun v H' => v = .tup [.c (.ptr H.length 0), .c (.int .i64 0)] ∧ H' = H ++ [.own (arC n 0 0 0)]) := by
  refine AC_enter t_arena_New ?_; simp only [c_arena_New, enterA, List.replicate, List.length_cons, List.length_nil, Nat.reduceAdd, Nat.reduceSub, List.cons_append, List.nil_append]
  (repeat (first | with_reducible (first | refine thenQ_n ?_ | refine blockQ_n ?_ | refine thenQ_e ?_ | refine thenQ_r ?_ | refine blockQ_r ?_ | refine blockQ_s ?_ | refine blockQ_o rfl ?_) | refine AW_skip ?_ | refine AW_seq ?_ | refine AW_ops ?_ | refine AW_blockS ?_ | refine AW_blockR ?_ | refine AW_blockD ?_ | refine AW_blockC ?_ | refine AO_nil ?_ | refine AW_draw ?_ | refine AW_draw3 ?_ | refine AW_blockD3 ?_ | (refine AW_drawA ?_; simp only [atBlk, Sm]) | refine AHd_nil ?_ | with_reducible (first | refine AP_at ?_ | refine AHP_at ?_) | (with_reducible (first | apply AO_any | apply AHd_any | apply AP_go | apply AHP_go); focus (simp only [Sm, wantedA, execA, stepA, List.getElem?_cons_zero, List.getElem?_cons_succ, if_true, if_false, binA, binInt, unA, eqA, Option.map, eq_self, reduceCtorEq, ite_true, ite_false, cellsAV, fitsAll, CK.fits, fillA, AV.cells, writeN, sliceCells, appendA, lenA, i64, loA, hiA, Nat.reduceAdd, Nat.reduceMul, Nat.reduceDiv, Nat.reduceSub, Nat.reduceLeDiff, Nat.reduceLT, Int.reduceLE, Int.reduceLT, foldA, maxA, minA, Int.reduceBEq, Int.reduceBNe, Int.reduceGT, Int.reduceGE, Int.reduceEq, Int.reduceNe, Int.reduceToNat, AOp.stops, ↓want_eq, ↓exec_lenX, ↓exec_storeX, ↓exec_storeN, storeN_one, ↓exec_bsX, ↓exec_sliceX, ↓exec_copyX, ↓exec_appNil, ↓exec_carryX, Nat.sub_zero, rep_len, decide_eq_false (show ¬ ((n : Nat) : Int) < 0 by omega), decide_eq_false (show ¬ ((n : Nat) : Int) > 4194304 by omega), rep, List.replicate]; with_reducible first | exact EqP.at_ | exact EqP.cont | exact EqP.hcont | exact EqP.gate | exact EqP.hgate)) | (refine AW_ift ?_ ?_; focus (simp only [Sm]; done)) | (refine AW_iff ?_ ?_; focus (simp only [Sm]; done))))
  exact AW_ret ⟨_, rfl, rfl, rfl⟩
theorem AC_arUsed (a b u h l : Nat) (ho : hown H a = some (arC b u h l)) : AC A fl F_arena_Arena_Used [.c (.ptr a 0)] H (fun v H' => v = .c (.int .i64 (u : Int)) ∧ H = H') := by
  have hc := hcells_own ho
  rw [arC] at hc
  refine AC_enter t_arena_Arena_Used ?_; simp only [c_arena_Arena_Used, enterA, List.replicate, List.length_cons, List.length_nil, Nat.reduceAdd, Nat.reduceSub, List.cons_append, List.nil_append]
  (repeat (first | with_reducible (first | refine thenQ_n ?_ | refine blockQ_n ?_ | refine thenQ_e ?_ | refine thenQ_r ?_ | refine blockQ_r ?_ | refine blockQ_s ?_ | refine blockQ_o rfl ?_) | refine AW_skip ?_ | refine AW_seq ?_ | refine AW_ops ?_ | refine AW_blockS ?_ | refine AW_blockR ?_ | refine AW_blockD ?_ | refine AW_blockC ?_ | refine AO_nil ?_ | refine AW_draw ?_ | refine AW_draw3 ?_ | refine AW_blockD3 ?_ | (refine AW_drawA ?_; simp only [atBlk, Sm]) | refine AHd_nil ?_ | with_reducible (first | refine AP_at ?_ | refine AHP_at ?_) | (with_reducible (first | apply AO_any | apply AHd_any | apply AP_go | apply AHP_go); focus (simp only [Sm, wantedA, execA, stepA, List.getElem?_cons_zero, List.getElem?_cons_succ, if_true, if_false, binA, binInt, unA, eqA, Option.map, eq_self, reduceCtorEq, ite_true, ite_false, cellsAV, fitsAll, CK.fits, fillA, AV.cells, writeN, sliceCells, appendA, lenA, i64, loA, hiA, Nat.reduceAdd, Nat.reduceMul, Nat.reduceDiv, Nat.reduceSub, Nat.reduceLeDiff, Nat.reduceLT, Int.reduceLE, Int.reduceLT, foldA, maxA, minA, Int.reduceBEq, Int.reduceBNe, Int.reduceGT, Int.reduceGE, Int.reduceEq, Int.reduceNe, Int.reduceToNat, AOp.stops, ↓want_eq, ↓exec_lenX, ↓exec_storeX, ↓exec_storeN, storeN_one, ↓exec_bsX, ↓exec_sliceX, ↓exec_copyX, ↓exec_appNil, ↓exec_carryX, Nat.sub_zero, rep_len, hc]; with_reducible first | exact EqP.at_ | exact EqP.cont | exact EqP.hcont | exact EqP.gate | exact EqP.hgate)) | (refine AW_ift ?_ ?_; focus (simp only [Sm]; done)) | (refine AW_iff ?_ ?_; focus (simp only [Sm]; done))))
  exact AW_ret ⟨_, rfl, rfl, rfl⟩
theorem AC_arLent (a b u h l : Nat) (ho : hown H a = some (arC b u h l)) : AC A fl F_arena_Arena_Lent [.c (.ptr a 0)] H (fun v H' => v = .c (.int .i64 (l : Int)) ∧ H = H') := by
  have hc := hcells_own ho
  rw [arC] at hc
  refine AC_enter t_arena_Arena_Lent ?_; simp only [c_arena_Arena_Lent, enterA, List.replicate, List.length_cons, List.length_nil, Nat.reduceAdd, Nat.reduceSub, List.cons_append, List.nil_append]
  (repeat (first | with_reducible (first | refine thenQ_n ?_ | refine blockQ_n ?_ | refine thenQ_e ?_ | refine thenQ_r ?_ | refine blockQ_r ?_ | refine blockQ_s ?_ | refine blockQ_o rfl ?_) | refine AW_skip ?_ | refine AW_seq ?_ | refine AW_ops ?_ | refine AW_blockS ?_ | refine AW_blockR ?_ | refine AW_blockD ?_ | refine AW_blockC ?_ | refine AO_nil ?_ | refine AW_draw ?_ | refine AW_draw3 ?_ | refine AW_blockD3 ?_ | (refine AW_drawA ?_; simp only [atBlk, Sm]) | refine AHd_nil ?_ | with_reducible (first | refine AP_at ?_ | refine AHP_at ?_) | (with_reducible (first | apply AO_any | apply AHd_any | apply AP_go | apply AHP_go); focus (simp only [Sm, wantedA, execA, stepA, List.getElem?_cons_zero, List.getElem?_cons_succ, if_true, if_false, binA, binInt, unA, eqA, Option.map, eq_self, reduceCtorEq, ite_true, ite_false, cellsAV, fitsAll, CK.fits, fillA, AV.cells, writeN, sliceCells, appendA, lenA, i64, loA, hiA, Nat.reduceAdd, Nat.reduceMul, Nat.reduceDiv, Nat.reduceSub, Nat.reduceLeDiff, Nat.reduceLT, Int.reduceLE, Int.reduceLT, foldA, maxA, minA, Int.reduceBEq, Int.reduceBNe, Int.reduceGT, Int.reduceGE, Int.reduceEq, Int.reduceNe, Int.reduceToNat, AOp.stops, ↓want_eq, ↓exec_lenX, ↓exec_storeX, ↓exec_storeN, storeN_one, ↓exec_bsX, ↓exec_sliceX, ↓exec_copyX, ↓exec_appNil, ↓exec_carryX, Nat.sub_zero, rep_len, hc]; with_reducible first | exact EqP.at_ | exact EqP.cont | exact EqP.hcont | exact EqP.gate | exact EqP.hgate)) | (refine AW_ift ?_ ?_; focus (simp only [Sm]; done)) | (refine AW_iff ?_ ?_; focus (simp only [Sm]; done))))
  exact AW_ret ⟨_, rfl, rfl, rfl⟩
theorem AC_pcLen (p a q n : Nat) (live : Bool) (cs : List Cell) (hp : PieceAt H p a q n live cs) : AC A fl F_arena_Piece_Len [.c (.ptr p 0)] H (fun v H' => v = .c (.int .i64 (n : Int)) ∧ H = H') := by
  have hc := hcells_own hp.own
  have hq := hcells_own hp.blk
  refine AC_enter t_arena_Piece_Len ?_; simp only [c_arena_Piece_Len, enterA, List.replicate, List.length_cons, List.length_nil, Nat.reduceAdd, Nat.reduceSub, List.cons_append, List.nil_append]
  (repeat (first | with_reducible (first | refine thenQ_n ?_ | refine blockQ_n ?_ | refine thenQ_e ?_ | refine thenQ_r ?_ | refine blockQ_r ?_ | refine blockQ_s ?_ | refine blockQ_o rfl ?_) | refine AW_skip ?_ | refine AW_seq ?_ | refine AW_ops ?_ | refine AW_blockS ?_ | refine AW_blockR ?_ | refine AW_blockD ?_ | refine AW_blockC ?_ | refine AO_nil ?_ | refine AW_draw ?_ | refine AW_draw3 ?_ | refine AW_blockD3 ?_ | (refine AW_drawA ?_; simp only [atBlk, Sm]) | refine AHd_nil ?_ | with_reducible (first | refine AP_at ?_ | refine AHP_at ?_) | (with_reducible (first | apply AO_any | apply AHd_any | apply AP_go | apply AHP_go); focus (simp only [Sm, wantedA, execA, stepA, List.getElem?_cons_zero, List.getElem?_cons_succ, if_true, if_false, binA, binInt, unA, eqA, Option.map, eq_self, reduceCtorEq, ite_true, ite_false, cellsAV, fitsAll, CK.fits, fillA, AV.cells, writeN, sliceCells, appendA, lenA, i64, loA, hiA, Nat.reduceAdd, Nat.reduceMul, Nat.reduceDiv, Nat.reduceSub, Nat.reduceLeDiff, Nat.reduceLT, Int.reduceLE, Int.reduceLT, foldA, maxA, minA, Int.reduceBEq, Int.reduceBNe, Int.reduceGT, Int.reduceGE, Int.reduceEq, Int.reduceNe, Int.reduceToNat, AOp.stops, ↓want_eq, ↓exec_lenX, ↓exec_storeX, ↓exec_storeN, storeN_one, ↓exec_bsX, ↓exec_sliceX, ↓exec_copyX, ↓exec_appNil, ↓exec_carryX, Nat.sub_zero, rep_len, hc, hq]; with_reducible first | exact EqP.at_ | exact EqP.cont | exact EqP.hcont | exact EqP.gate | exact EqP.hgate)) | (refine AW_ift ?_ ?_; focus (simp only [Sm]; done)) | (refine AW_iff ?_ ?_; focus (simp only [Sm]; done))))
  exact AW_ret ⟨_, rfl, rfl, rfl⟩
theorem AC_arReserve_bad (a b u h l : Nat) (z : Int) (ho : hown H a = some (arC b u h l)) (hb : b ≤ 4194304) (hu : u ≤ b) (hz : z < 0 ∨ z > ((b - u : Nat) : Int)) :
    AC A fl F_arena_Arena_Reserve [.c (.ptr a 0), .c (.int .i64 z)] H (fun v H' => v = .tup [.c .pnil, .c (.int .i64 (if z < 0 then 1 else 4))] ∧ H = H') := by
  have hc := hcells_own ho
  rw [arC] at hc
  have e1 : IntKind.i64.wrap ((b : Int) - (u : Int)) = ((b - u : Nat) : Int) := by rw [i64_of (by omega) (by omega)]; omega
  refine AC_enter t_arena_Arena_Reserve ?_; simp only [c_arena_Arena_Reserve, enterA, List.replicate, List.length_cons, List.length_nil, Nat.reduceAdd, Nat.reduceSub, List.cons_append, List.nil_append]
  by_cases h1 : z < 0
  · rw [if_pos h1]
    (repeat (first | with_reducible (first | refine thenQ_n ?_ | refine blockQ_n ?_ | refine thenQ_e ?_ | refine thenQ_r ?_ | refine blockQ_r ?_ | refine blockQ_s ?_ | refine blockQ_o rfl ?_) | refine AW_skip ?_ | refine AW_seq ?_ | refine AW_ops ?_ | refine AW_blockS ?_ | refine AW_blockR ?_ | refine AW_blockD ?_ | refine AW_blockC ?_ | refine AO_nil ?_ | refine AW_draw ?_ | refine AW_draw3 ?_ | refine AW_blockD3 ?_ | (refine AW_drawA ?_; simp only [atBlk, Sm]) | refine AHd_nil ?_ | with_reducible (first | refine AP_at ?_ | refine AHP_at ?_) | (with_reducible (first | apply AO_any | apply AHd_any | apply AP_go | apply AHP_go); focus (simp only [Sm, wantedA, execA, stepA, List.getElem?_cons_zero, List.getElem?_cons_succ, if_true, if_false, binA, binInt, unA, eqA, Option.map, eq_self, reduceCtorEq, ite_true, ite_false, cellsAV, fitsAll, CK.fits, fillA, AV.cells, writeN, sliceCells, appendA, lenA, i64, loA, hiA, Nat.reduceAdd, Nat.reduceMul, Nat.reduceDiv, Nat.reduceSub, Nat.reduceLeDiff, Nat.reduceLT, Int.reduceLE, Int.reduceLT, foldA, maxA, minA, Int.reduceBEq, Int.reduceBNe, Int.reduceGT, Int.reduceGE, Int.reduceEq, Int.reduceNe, Int.reduceToNat, AOp.stops, ↓want_eq, ↓exec_lenX, ↓exec_storeX, ↓exec_storeN, storeN_one, ↓exec_bsX, ↓exec_sliceX, ↓exec_copyX, ↓exec_appNil, ↓exec_carryX, Nat.sub_zero, rep_len, hc, decide_eq_true h1]; with_reducible first | exact EqP.at_ | exact EqP.cont | exact EqP.hcont | exact EqP.gate | exact EqP.hgate)) | (refine AW_ift ?_ ?_; focus (simp only [Sm]; done)) | (refine AW_iff ?_ ?_; focus (simp only [Sm]; done))))
    exact AW_ret ⟨_, rfl, rfl, rfl⟩
  · rw [if_neg h1]
    (repeat (first | with_reducible (first | refine thenQ_n ?_ | refine blockQ_n ?_ | refine thenQ_e ?_ | refine thenQ_r ?_ | refine blockQ_r ?_ | refine blockQ_s ?_ | refine blockQ_o rfl ?_) | refine AW_skip ?_ | refine AW_seq ?_ | refine AW_ops ?_ | refine AW_blockS ?_ | refine AW_blockR ?_ | refine AW_blockD ?_ | refine AW_blockC ?_ | refine AO_nil ?_ | refine AW_draw ?_ | refine AW_draw3 ?_ | refine AW_blockD3 ?_ | (refine AW_drawA ?_; simp only [atBlk, Sm]) | refine AHd_nil ?_ | with_reducible (first | refine AP_at ?_ | refine AHP_at ?_) | (with_reducible (first | apply AO_any | apply AHd_any | apply AP_go | apply AHP_go); focus (simp only [Sm, wantedA, execA, stepA, List.getElem?_cons_zero, List.getElem?_cons_succ, if_true, if_false, binA, binInt, unA, eqA, Option.map, eq_self, reduceCtorEq, ite_true, ite_false, cellsAV, fitsAll, CK.fits, fillA, AV.cells, writeN, sliceCells, appendA, lenA, i64, loA, hiA, Nat.reduceAdd, Nat.reduceMul, Nat.reduceDiv, Nat.reduceSub, Nat.reduceLeDiff, Nat.reduceLT, Int.reduceLE, Int.reduceLT, foldA, maxA, minA, Int.reduceBEq, Int.reduceBNe, Int.reduceGT, Int.reduceGE, Int.reduceEq, Int.reduceNe, Int.reduceToNat, AOp.stops, ↓want_eq, ↓exec_lenX, ↓exec_storeX, ↓exec_storeN, storeN_one, ↓exec_bsX, ↓exec_sliceX, ↓exec_copyX, ↓exec_appNil, ↓exec_carryX, Nat.sub_zero, rep_len, hc, decide_eq_false h1, e1, decide_eq_true (show z > ((b - u : Nat) : Int) by omega)]; with_reducible first | exact EqP.at_ | exact EqP.cont | exact EqP.hcont | exact EqP.gate | exact EqP.hgate)) | (refine AW_ift ?_ ?_; focus (simp only [Sm]; done)) | (refine AW_iff ?_ ?_; focus (simp only [Sm]; done))))
    exact AW_ret ⟨_, rfl, rfl, rfl⟩
theorem AC_arReserve (a b u h l n : Nat) (ho : hown H a = some (arC b u h l)) (hf : fl ≤ a) (hfH : fl ≤ H.length) (hb : b ≤ 4194304) (hu : u ≤ b) (hh : h ≤ 4194304) (hl : l ≤ 1000000) (hn : n ≤ b - u) :
    AC A fl F_arena_Arena_Reserve [.c (.ptr a 0), .c (.int .i64 (n : Int))] H (fun v H' => v = .tup [.c (.ptr (H.length + 1) 0), .c (.int .i64 0)] ∧ PieceAt H' (H.length + 1) a H.length n true (zB n) ∧ hown H' a = some (arC b (u + n) (max h (u + n)) (l + 1)) ∧ Chg (· = a) H H' ∧ H'.length = H.length + 2) := by
  have hc := hcells_own ho
  rw [arC] at hc ho
  have hal := hown_lt ho
  have e1 : IntKind.i64.wrap ((b : Int) - (u : Int)) = ((b - u : Nat) : Int) := by rw [i64_of (by omega) (by omega)]; omega
  have e2 : IntKind.i64.wrap ((u : Int) + (n : Int)) = ((u + n : Nat) : Int) := i64_add (by omega)
  have e3 : IntKind.i64.wrap ((l : Int) + 1) = ((l + 1 : Nat) : Int) := i64_succ (by omega)
  obtain ⟨H1, s1, o1, c1, l1⟩ := storeX_ex (o := 1) ho hf (by simp) (.int .i64 ((u + n : Nat) : Int))
  simp only [List.set_cons_succ, List.set_cons_zero] at o1
  have hc1 := hcells_own o1
  have em : (if ((u + n : Nat) : Int) > (h : Int) then ((u + n : Nat) : Int) else (h : Int)) = ((max h (u + n) : Nat) : Int) := by
    split
    · rw [Nat.max_eq_right (by omega)]
    · rw [Nat.max_eq_left (by omega)]
  obtain ⟨H2, s2, o2, c2, l2⟩ := storeX_ex (o := 2) o1 hf (by simp) (.int .i64 ((max h (u + n) : Nat) : Int))
  simp only [List.set_cons_succ, List.set_cons_zero] at o2
  have hc2 := hcells_own o2
  obtain ⟨H3, s3, o3, c3, l3⟩ := storeX_ex (o := 3) o2 hf (by simp) (.int .i64 ((l + 1 : Nat) : Int))
  simp only [List.set_cons_succ, List.set_cons_zero] at o3
  have b1 : (0 : Int) ≤ ((n : Nat) : Int) := by omega
  have b2 : ((n : Nat) : Int) * (1024 : Nat) ≤ 140737488355328 := by omega
  have b2' : ((n : Nat) : Int) * 1024 ≤ 140737488355328 := by omega
  have hz := zB_flat n
  refine AC_enter t_arena_Arena_Reserve ?_; simp only [c_arena_Arena_Reserve, enterA, List.replicate, List.length_cons, List.length_nil, Nat.reduceAdd, Nat.reduceSub, List.cons_append, List.nil_append]
  (repeat (first | with_reducible (first | refine thenQ_n ?_ | refine blockQ_n ?_ | refine thenQ_e ?_ | refine thenQ_r ?_ | refine blockQ_r ?_ | refine blockQ_s ?_ | refine blockQ_o rfl ?_) | refine AW_skip ?_ | refine AW_seq ?_ | refine AW_ops ?_ | refine AW_blockS ?_ | refine AW_blockR ?_ | refine AW_blockD ?_ | refine AW_blockC ?_ | refine AO_nil ?_ | refine AW_draw ?_ | refine AW_draw3 ?_ | refine AW_blockD3 ?_ | (refine AW_drawA ?_; simp only [atBlk, Sm]) | refine AHd_nil ?_ | with_reducible (first | refine AP_at ?_ | refine AHP_at ?_) | (with_reducible (first | apply AO_any | apply AHd_any | apply AP_go | apply AHP_go); focus (simp only [Sm, wantedA, execA, stepA, List.getElem?_cons_zero, List.getElem?_cons_succ, if_true, if_false, binA, binInt, unA, eqA, Option.map, eq_self, reduceCtorEq, ite_true, ite_false, cellsAV, fitsAll, CK.fits, fillA, AV.cells, writeN, sliceCells, appendA, lenA, i64, loA, hiA, Nat.reduceAdd, Nat.reduceMul, Nat.reduceDiv, Nat.reduceSub, Nat.reduceLeDiff, Nat.reduceLT, Int.reduceLE, Int.reduceLT, foldA, maxA, minA, Int.reduceBEq, Int.reduceBNe, Int.reduceGT, Int.reduceGE, Int.reduceEq, Int.reduceNe, Int.reduceToNat, AOp.stops, ↓want_eq, ↓exec_lenX, ↓exec_storeX, ↓exec_storeN, storeN_one, ↓exec_bsX, ↓exec_sliceX, ↓exec_copyX, ↓exec_appNil, ↓exec_carryX, Nat.sub_zero, rep_len, hc, decide_eq_false (show ¬ ((n : Nat) : Int) < 0 by omega), e1, e2, decide_eq_false (show ¬ ((n : Nat) : Int) > ((b - u : Nat) : Int) by omega), s1, hc1, em, s2, hc2, e3, s3, b1, b2, b2', hz, Int.le_refl, Int.toNat_natCast]; with_reducible first | exact EqP.at_ | exact EqP.cont | exact EqP.hcont | exact EqP.gate | exact EqP.hgate)) | (refine AW_ift ?_ ?_; focus (simp only [Sm]; done)) | (refine AW_iff ?_ ?_; focus (simp only [Sm]; done))))
  have c13 : Chg (· = a) H H3 := (c1.trans c2 fun _ _ h => h).trans c3 fun _ _ h => h
  have l03 : H3.length = H.length := by omega
  refine AW_ret ⟨_, rfl, ?_⟩
  rw [l03]
  refine ⟨rfl, ⟨?_, ?_, zB_length n, by omega, by omega, by omega⟩, ?_, (c13.trans (Chg.push (· = a) _ _) fun _ _ h => h).trans (Chg.push (· = a) _ _) fun _ _ h => h, by simp [l03]⟩
  · have := hown_last (H := H3 ++ [Blk.own (zB n)]) (cs := [.ptr a 0, .slc H.length 0 n 128, .bool true])
    simpa [l03] using this
  · have := hown_app (l := [Blk.own [Cell.ptr a 0, .slc H.length 0 n 128, .bool true]]) (hown_last (H := H3) (cs := zB n))
    simpa [l03] using this
  · exact hown_app (hown_app o3)
end
end PK

/- Package arena: Release. -/
namespace PK
open Go PAbs
set_option linter.unusedSimpArgs false
set_option linter.unusedVariables false
set_option maxRecDepth 100000
set_option maxHeartbeats 4000000

theorem storeN_at {n fl q o : Nat} {H : AHeap} {cs vs : List Cell} (hb : hown H q = some cs) (hf : fl ≤ q) (hv : vs.length = n) (ho : o + n ≤ cs.length) :
    storeN n fl H (.c (.ptr q o)) (.agg vs) = some (aundef, H.set q (.own (putL cs o vs))) := by
  simp only [storeN, AV.cells, writeN, hb, hv, if_true]
  rw [if_pos ⟨hf, ho⟩]; simp [putL, hv]
theorem storeN_at_ex {n fl q o : Nat} {H : AHeap} {cs vs : List Cell} (hb : hown H q = some cs) (hf : fl ≤ q) (hv : vs.length = n) (ho : o + n ≤ cs.length) :
    ∃ H', storeN n fl H (.c (.ptr q o)) (.agg vs) = some (aundef, H') ∧ hown H' q = some (putL cs o vs) ∧ Chg (· = q) H H' ∧ H'.length = H.length :=
  ⟨_, storeN_at hb hf hv ho, hown_set (hown_lt hb), Chg.set rfl, by simp⟩
theorem putL_mid {α : Type} {a b m : List α} {o : Nat} (h : a.length = o) : putL (a ++ b) o m = a ++ m ++ b.drop m.length := by
  subst h
  simp only [putL, List.take_left, List.drop_append]
  rw [List.drop_eq_nil_of_le (by omega)]
  simp
theorem zB_succ (n : Nat) : zB n ++ rep 128 (.int .u64 0) = zB (n + 1) := by
  simp only [zB, rep, List.replicate_append_replicate]; congr 1; omega
def clrB (cs : List Cell) (i : Nat) : List Cell := zB i ++ cs.drop (i * 128)
theorem clrB_length {cs : List Cell} {n i : Nat} (h : cs.length = n * 128) (hi : i ≤ n) : (clrB cs i).length = n * 128 := by
  have : i * 128 ≤ n * 128 := Nat.mul_le_mul_right _ hi
  simp only [clrB, List.length_append, zB_length, List.length_drop]; omega
theorem clrB_succ (cs : List Cell) (i : Nat) : putL (clrB cs i) (i * 128) (rep 128 (.int .u64 0)) = clrB cs (i + 1) := by
  rw [clrB, putL_mid (zB_length i), zB_succ, clrB, rep_len, List.drop_drop]
  congr 2; omega
theorem clrB_all {cs : List Cell} {n : Nat} (h : cs.length = n * 128) : clrB cs n = zB n := by
  rw [clrB, List.drop_eq_nil_of_le (by omega), List.append_nil]

section
variable (fl : Nat) (H : AHeap)
def rlI (a p q n : Nat) (cs : List Cell) (H0 : AHeap) (i : Nat) (fr : AFrame) (H : AHeap) : Prop := Chg (· = q) H0 H ∧ hown H q = some (clrB cs i) ∧ (∃ s : Nat → AV, fr = [.c (.ptr a 0), .c (.ptr p 0), s 2, s 3, s 4, s 5, s 6, s 7, s 8, s 9, s 10, s 11, s 12, s 13, s 14, s 15, s 16, s 17, s 18, s 19, s 20, s 21, s 22, s 23, s 24, s 25, s 26, s 27, s 28, s 29, s 30, .c (.int .i64 (n : Int)), .c (.int .i64 (i : Int)), s 33, s 34, s 35, s 36, s 37, s 38, s 39, s 40, s 41, s 42, s 43, s 44, s 45, s 46, s 47, s 48, s 49, s 50, s 51, s 52, s 53, s 54, s 55, s 56, s 57, s 58, s 59, s 60, s 61, s 62, s 63, s 64])
theorem AC_arRelease (a b u h l p q n : Nat) (cs : List Cell) (ho : hown H a = some (arC b u h l)) (hp : PieceAt H p a q n true cs) (hfa : fl ≤ a) (hfp : fl ≤ p) (hfq : fl ≤ q) (hu : u ≤ 4194304) (hn : n ≤ u) (hl : 1 ≤ l) (hl2 : l ≤ 1000000) :
    AC A fl F_arena_Arena_Release [.c (.ptr a 0), .c (.ptr p 0)] H (fun v H' => v = .c (.int .i64 0) ∧ hown H' a = some (arC b (u - n) h (l - 1)) ∧ PieceAt H' p a q n false (zB n) ∧ Chg (fun b => b = a ∨ b = p ∨ b = q) H H') := by
  have hc := hcells_own ho
  have hcp := hcells_own hp.own
  have hcq := hcells_own hp.blk
  have hpq := hp.pq; have hpa := hp.pa; have hqa := hp.qa
  refine AC_enter t_arena_Arena_Release ?_; simp only [c_arena_Arena_Release, enterA, List.replicate, List.length_cons, List.length_nil, Nat.reduceAdd, Nat.reduceSub, List.cons_append, List.nil_append]
  (repeat (first | with_reducible (first | refine thenQ_n ?_ | refine blockQ_n ?_ | refine thenQ_e ?_ | refine thenQ_r ?_ | refine blockQ_r ?_ | refine blockQ_s ?_ | refine blockQ_o rfl ?_) | refine AW_skip ?_ | refine AW_seq ?_ | refine AW_ops ?_ | refine AW_blockS ?_ | refine AW_blockR ?_ | refine AW_blockD ?_ | refine AW_blockC ?_ | refine AO_nil ?_ | refine AW_draw ?_ | refine AW_draw3 ?_ | refine AW_blockD3 ?_ | (refine AW_drawA ?_; simp only [atBlk, Sm]) | refine AHd_nil ?_ | with_reducible (first | refine AP_at ?_ | refine AHP_at ?_) | (with_reducible (first | apply AO_any | apply AHd_any | apply AP_go | apply AHP_go); focus (simp only [Sm, wantedA, execA, stepA, List.getElem?_cons_zero, List.getElem?_cons_succ, if_true, if_false, binA, binInt, unA, eqA, Option.map, eq_self, reduceCtorEq, ite_true, ite_false, cellsAV, fitsAll, CK.fits, fillA, AV.cells, writeN, sliceCells, appendA, lenA, i64, loA, hiA, Nat.reduceAdd, Nat.reduceMul, Nat.reduceDiv, Nat.reduceSub, Nat.reduceLeDiff, Nat.reduceLT, Int.reduceLE, Int.reduceLT, foldA, maxA, minA, Int.reduceBEq, Int.reduceBNe, Int.reduceGT, Int.reduceGE, Int.reduceEq, Int.reduceNe, Int.reduceToNat, AOp.stops, ↓want_eq, ↓exec_lenX, ↓exec_storeX, ↓exec_storeN, storeN_one, ↓exec_bsX, ↓exec_sliceX, ↓exec_copyX, ↓exec_appNil, ↓exec_carryX, Nat.sub_zero, rep_len, hc, hcp, hcq]; with_reducible first | exact EqP.at_ | exact EqP.cont | exact EqP.hcont | exact EqP.gate | exact EqP.hgate)) | (refine AW_ift ?_ ?_; focus (simp only [Sm]; done)) | (refine AW_iff ?_ ?_; focus (simp only [Sm]; done))))
  refine AW_mid (fun e fr H' => e = .normal ∧ rlI a p q n cs H n fr H') ?_ ?_
  · refine AW_block (AW_up (rlI a p q n cs H) n ⟨Chg.refl _ _, by simpa [clrB, zB] using hp.blk, stale _ _ rfl⟩ ?_)
    rintro i fr H1 hi ⟨c1, o1, st, rfl⟩
    (repeat (first | with_reducible (first | refine thenQ_n ?_ | refine blockQ_n ?_ | refine thenQ_e ?_ | refine thenQ_r ?_ | refine blockQ_r ?_ | refine blockQ_s ?_ | refine blockQ_o rfl ?_) | refine AW_skip ?_ | refine AW_seq ?_ | refine AW_ops ?_ | refine AW_blockS ?_ | refine AW_blockR ?_ | refine AW_blockD ?_ | refine AW_blockC ?_ | refine AO_nil ?_ | refine AW_draw ?_ | refine AW_draw3 ?_ | refine AW_blockD3 ?_ | (refine AW_drawA ?_; simp only [atBlk, Sm]) | refine AHd_nil ?_ | with_reducible (first | refine AP_at ?_ | refine AHP_at ?_) | (with_reducible (first | apply AO_any | apply AHd_any | apply AP_go | apply AHP_go); focus (simp only [Sm, wantedA, execA, stepA, List.getElem?_cons_zero, List.getElem?_cons_succ, if_true, if_false, binA, binInt, unA, eqA, Option.map, eq_self, reduceCtorEq, ite_true, ite_false, cellsAV, fitsAll, CK.fits, fillA, AV.cells, writeN, sliceCells, appendA, lenA, i64, loA, hiA, Nat.reduceAdd, Nat.reduceMul, Nat.reduceDiv, Nat.reduceSub, Nat.reduceLeDiff, Nat.reduceLT, Int.reduceLE, Int.reduceLT, foldA, maxA, minA, Int.reduceBEq, Int.reduceBNe, Int.reduceGT, Int.reduceGE, Int.reduceEq, Int.reduceNe, Int.reduceToNat, AOp.stops, ↓want_eq, ↓exec_lenX, ↓exec_storeX, ↓exec_storeN, storeN_one, ↓exec_bsX, ↓exec_sliceX, ↓exec_copyX, ↓exec_appNil, ↓exec_carryX, Nat.sub_zero, rep_len]; with_reducible first | exact EqP.at_ | exact EqP.cont | exact EqP.hcont | exact EqP.gate | exact EqP.hgate)) | (refine AW_ift ?_ ?_; focus (simp only [Sm]; done)) | (refine AW_iff ?_ ?_; focus (simp only [Sm]; done))))
    refine AW_cond rfl ?_ ?_ <;> intro ht
    · have ht : (i : Int) < (n : Int) := of_decide_eq_true ht
      have hi2 : i < n := by omega
      have hcp1 := hcells_own (c1.hown hpq hp.own)
      have hcq1 := hcells_own o1
      have him : (i + 1) * 128 ≤ n * 128 := Nat.mul_le_mul_right _ hi2
      obtain ⟨H2, s2, o2, c2, l2⟩ := storeN_at_ex (n := 128) (o := i * 128) (vs := rep 128 (.int .u64 0)) o1 hfq rep_len (by rw [clrB_length hp.len hi]; omega)
      rw [clrB_succ] at o2
      have esc := i64_succ (show i < 9223372036854775807 by have := hn; omega)
      (repeat (first | with_reducible (first | refine thenQ_n ?_ | refine blockQ_n ?_ | refine thenQ_e ?_ | refine thenQ_r ?_ | refine blockQ_r ?_ | refine blockQ_s ?_ | refine blockQ_o rfl ?_) | refine AW_skip ?_ | refine AW_seq ?_ | refine AW_ops ?_ | refine AW_blockS ?_ | refine AW_blockR ?_ | refine AW_blockD ?_ | refine AW_blockC ?_ | refine AO_nil ?_ | refine AW_draw ?_ | refine AW_draw3 ?_ | refine AW_blockD3 ?_ | (refine AW_drawA ?_; simp only [atBlk, Sm]) | refine AHd_nil ?_ | with_reducible (first | refine AP_at ?_ | refine AHP_at ?_) | (with_reducible (first | apply AO_any | apply AHd_any | apply AP_go | apply AHP_go); focus (simp only [Sm, wantedA, execA, stepA, List.getElem?_cons_zero, List.getElem?_cons_succ, if_true, if_false, binA, binInt, unA, eqA, Option.map, eq_self, reduceCtorEq, ite_true, ite_false, cellsAV, fitsAll, CK.fits, fillA, AV.cells, writeN, sliceCells, appendA, lenA, i64, loA, hiA, Nat.reduceAdd, Nat.reduceMul, Nat.reduceDiv, Nat.reduceSub, Nat.reduceLeDiff, Nat.reduceLT, Int.reduceLE, Int.reduceLT, foldA, maxA, minA, Int.reduceBEq, Int.reduceBNe, Int.reduceGT, Int.reduceGE, Int.reduceEq, Int.reduceNe, Int.reduceToNat, AOp.stops, ↓want_eq, ↓exec_lenX, ↓exec_storeX, ↓exec_storeN, storeN_one, ↓exec_bsX, ↓exec_sliceX, ↓exec_copyX, ↓exec_appNil, ↓exec_carryX, Nat.sub_zero, rep_len, hcp1, hcq1, ht, Nat.zero_add, s2, esc]; with_reducible first | exact EqP.at_ | exact EqP.cont | exact EqP.hcont | exact EqP.gate | exact EqP.hgate)) | (refine AW_ift ?_ ?_; focus (simp only [Sm]; done)) | (refine AW_iff ?_ ?_; focus (simp only [Sm]; done))))
      exact ⟨hi2, c1.trans c2 (fun _ _ h => h), o2, stale _ _ rfl⟩
    · obtain rfl : i = n := by have : ¬ (i : Int) < (n : Int) := of_decide_eq_false ht; omega
      exact AW_exit ⟨rfl, c1, o1, stale _ _ rfl⟩
  rintro e fr H1 ⟨rfl, c1, o1, st, rfl⟩
  rw [clrB_all hp.len] at o1
  have op1 := c1.hown hpq hp.own
  have oa1 := c1.hown (fun h => hqa h.symm) ho
  rw [arC] at oa1
  have hcp1 := hcells_own op1
  have hca1 := hcells_own oa1
  obtain ⟨H2, s2, op2, c2, l2⟩ := storeX_ex (o := 2) op1 hfp (by simp) (.bool false)
  simp only [List.set_cons_succ, List.set_cons_zero] at op2
  have hcp2 := hcells_own op2
  have oa2 := c2.hown (fun h => hpa h.symm) oa1
  have oq2 := c2.hown (fun h => hpq h.symm) o1
  have hca2 := hcells_own oa2
  have hcq2 := hcells_own oq2
  have e1 : IntKind.i64.wrap ((u : Int) - (n : Int)) = ((u - n : Nat) : Int) := by rw [i64_of (by omega) (by omega)]; omega
  have e2 : IntKind.i64.wrap ((l : Int) - 1) = ((l - 1 : Nat) : Int) := by rw [i64_of (by omega) (by omega)]; omega
  obtain ⟨H3, s3, oa3, c3, l3⟩ := storeX_ex (o := 1) oa2 hfa (by simp) (.int .i64 ((u - n : Nat) : Int))
  simp only [List.set_cons_succ, List.set_cons_zero] at oa3
  have hca3 := hcells_own oa3
  obtain ⟨H4, s4, oa4, c4, l4⟩ := storeX_ex (o := 3) oa3 hfa (by simp) (.int .i64 ((l - 1 : Nat) : Int))
  simp only [List.set_cons_succ, List.set_cons_zero] at oa4
  (repeat (first | with_reducible (first | refine thenQ_n ?_ | refine blockQ_n ?_ | refine thenQ_e ?_ | refine thenQ_r ?_ | refine blockQ_r ?_ | refine blockQ_s ?_ | refine blockQ_o rfl ?_) | refine AW_skip ?_ | refine AW_seq ?_ | refine AW_ops ?_ | refine AW_blockS ?_ | refine AW_blockR ?_ | refine AW_blockD ?_ | refine AW_blockC ?_ | refine AO_nil ?_ | refine AW_draw ?_ | refine AW_draw3 ?_ | refine AW_blockD3 ?_ | (refine AW_drawA ?_; simp only [atBlk, Sm]) | refine AHd_nil ?_ | with_reducible (first | refine AP_at ?_ | refine AHP_at ?_) | (with_reducible (first | apply AO_any | apply AHd_any | apply AP_go | apply AHP_go); focus (simp only [Sm, wantedA, execA, stepA, List.getElem?_cons_zero, List.getElem?_cons_succ, if_true, if_false, binA, binInt, unA, eqA, Option.map, eq_self, reduceCtorEq, ite_true, ite_false, cellsAV, fitsAll, CK.fits, fillA, AV.cells, writeN, sliceCells, appendA, lenA, i64, loA, hiA, Nat.reduceAdd, Nat.reduceMul, Nat.reduceDiv, Nat.reduceSub, Nat.reduceLeDiff, Nat.reduceLT, Int.reduceLE, Int.reduceLT, foldA, maxA, minA, Int.reduceBEq, Int.reduceBNe, Int.reduceGT, Int.reduceGE, Int.reduceEq, Int.reduceNe, Int.reduceToNat, AOp.stops, ↓want_eq, ↓exec_lenX, ↓exec_storeX, ↓exec_storeN, storeN_one, ↓exec_bsX, ↓exec_sliceX, ↓exec_copyX, ↓exec_appNil, ↓exec_carryX, Nat.sub_zero, rep_len, hcp1, hca1, s2, hcp2, hca2, hcq2, e1, s3, hca3, e2, s4]; with_reducible first | exact EqP.at_ | exact EqP.cont | exact EqP.hcont | exact EqP.gate | exact EqP.hgate)) | (refine AW_ift ?_ ?_; focus (simp only [Sm]; done)) | (refine AW_iff ?_ ?_; focus (simp only [Sm]; done))))
  have c34 : Chg (· = a) H2 H4 := c3.trans c4 fun _ _ h => h
  refine AW_ret ⟨_, rfl, rfl, oa4, ⟨c34.hown hpa op2, c34.hown hqa oq2, zB_length n, hpq, hpa, hqa⟩, ?_⟩
  refine ⟨by have := c1.1; omega, fun x hx hxs => ?_⟩
  have x1 : ¬ x = q := fun e => hxs (.inr (.inr e))
  have x2 : ¬ x = p := fun e => hxs (.inr (.inl e))
  have x3 : ¬ x = a := fun e => hxs (.inl e)
  rw [c34.2 x (by have := c1.1; omega) x3, c2.2 x (by have := c1.1; omega) x2, c1.2 x hx x1]
end
end PK

/- Package lease as code of the abstract machine. -/
namespace PK
open Go PAbs

noncomputable def c_lease_Open : AFn := AFn.mk 9 [.tmp 2, .tmp 3]
  (.seq (.region
      [⟨some 2, .mv (.k (.c (.pnil))), none⟩,
        ⟨some 3, .mv (.k (.c (.int .i64 0))), none⟩])
  (.seq (.seq (.region
        [⟨some 4, .mv (.t 0), none⟩,
          ⟨some 5, .eq false .ptr (.t 4) (.k (.c (.pnil))), none⟩])
    (.cond (.t 5)
      (.seq (.region
          [⟨some 2, .mv (.k (.c (.pnil))), none⟩,
            ⟨some 3, .mv (.k (.c (.int .i64 11))), none⟩])
      (.ret))
      (.skip)))
  (.seq (.region
      [⟨some 6, .mv (.t 0), none⟩,
        ⟨some 7, .build ([.pnil, .snil, .bool false, .int .i64 0]) [(0, 1, .t 6), (2, 1, .k (.c (.bool true)))], none⟩,
        ⟨some 8, .box (.t 7), none⟩,
        ⟨some 2, .mv (.t 8), none⟩,
        ⟨some 3, .mv (.k (.c (.int .i64 0))), none⟩])
  (.ret))))
theorem t_lease_Open : A F_lease_Open = some c_lease_Open := by kernel_rfl

noncomputable def c_lease_Lease_Take : AFn := AFn.mk 50 [.tmp 4, .tmp 5]
  (.seq (.region
      [⟨some 4, .mv (.k (.c (.pnil))), none⟩,
        ⟨some 5, .mv (.k (.c (.int .i64 0))), none⟩])
  (.seq (.block 0
      (.seq (.region
          [⟨some 9, .mv (.t 0), none⟩,
            ⟨some 10, .eq false .ptr (.t 9) (.k (.c (.pnil))), none⟩,
            ⟨some 8, .mv (.t 10), none⟩])
      (.cond (.t 8)
        (.seq (.region
            [⟨some 4, .mv (.k (.c (.pnil))), none⟩,
              ⟨some 5, .mv (.k (.c (.int .i64 11))), none⟩])
        (.ret))
        (.seq (.region
            [⟨some 12, .mv (.t 0), none⟩,
              ⟨some 13, .nilCheck (.t 12), none⟩,
              ⟨some 14, .fieldAddr 2 (.t 13), none⟩,
              ⟨some 15, .load1 (.t 14), none⟩,
              ⟨some 16, .un .not (.t 15), none⟩,
              ⟨some 11, .mv (.t 16), none⟩])
        (.cond (.t 11)
          (.seq (.region
              [⟨some 4, .mv (.k (.c (.pnil))), none⟩,
                ⟨some 5, .mv (.k (.c (.int .i64 12))), none⟩])
          (.ret))
          (.skip))))))
  (.seq (.region
      [⟨some 18, .mv (.t 0), none⟩,
        ⟨some 19, .nilCheck (.t 18), none⟩,
        ⟨some 20, .fieldAddr 0 (.t 19), none⟩,
        ⟨some 21, .load1 (.t 20), none⟩,
        ⟨some 22, .mv (.t 1), none⟩,
        ⟨some 23, .call F_arena_Arena_Reserve [.t 21, .t 22], none⟩,
        ⟨some 17, .mv (.t 23), none⟩,
        ⟨some 24, .extract (.t 17) 0, none⟩,
        ⟨some 25, .extract (.t 17) 1, none⟩,
        ⟨some 6, .mv (.t 24), none⟩,
        ⟨some 7, .mv (.t 25), none⟩])
  (.seq (.seq (.region
        [⟨some 26, .mv (.t 7), none⟩,
          ⟨some 27, .bin .neq (.t 26) (.k (.c (.int .i64 0))), none⟩])
    (.cond (.t 27)
      (.seq (.region
          [⟨some 28, .mv (.t 7), none⟩,
            ⟨some 4, .mv (.k (.c (.pnil))), none⟩,
            ⟨some 5, .mv (.t 28), none⟩])
      (.ret))
      (.skip)))
  (.seq (.region
      [⟨some 29, .mv (.t 0), none⟩,
        ⟨some 30, .mv (.t 0), none⟩,
        ⟨some 31, .nilCheck (.t 30), none⟩,
        ⟨some 32, .fieldAddr 1 (.t 31), none⟩,
        ⟨some 33, .load1 (.t 32), none⟩,
        ⟨some 34, .mv (.t 6), none⟩,
        ⟨some 35, .buildSlice ([.pnil]) 1 1 [(0, 1, .t 34)], none⟩,
        ⟨some 36, .append ([.pnil]) 8 (.t 33) (.t 35), none⟩,
        ⟨some 37, .nilCheck (.t 29), none⟩,
        ⟨some 38, .fieldAddr 1 (.t 37), none⟩,
        ⟨none, .store 1 (.t 38) (.t 36), none⟩])
  (.seq (.draw
      [⟨some 39, .mv (.t 0), none⟩,
        ⟨some 40, .mv (.t 0), none⟩,
        ⟨some 41, .nilCheck (.t 40), none⟩,
        ⟨some 42, .fieldAddr 3 (.t 41), none⟩,
        ⟨some 43, .load1 (.t 42), none⟩,
        ⟨some 44, .mv (.t 0), none⟩,
        ⟨some 45, .call F_lease_Lease_Held [.t 44], none⟩,
        ⟨some 46, .max [.t 43, .t 45], none⟩]
      [⟨some 47, .nilCheck (.t 39), none⟩,
        ⟨some 48, .fieldAddr 3 (.t 47), none⟩,
        ⟨none, .store 1 (.t 48) (.t 46), none⟩])
  (.seq (.region
      [⟨some 49, .mv (.t 6), none⟩,
        ⟨some 4, .mv (.t 49), none⟩,
        ⟨some 5, .mv (.k (.c (.int .i64 0))), none⟩])
  (.ret))))))))
theorem t_lease_Lease_Take : A F_lease_Lease_Take = some c_lease_Lease_Take := by kernel_rfl

noncomputable def c_lease_Lease_Close : AFn := AFn.mk 41 [.tmp 2]
  (.seq (.region
      [⟨some 2, .mv (.k (.c (.int .i64 0))), none⟩])
  (.seq (.block 0
      (.seq (.region
          [⟨some 5, .mv (.t 0), none⟩,
            ⟨some 6, .eq false .ptr (.t 5) (.k (.c (.pnil))), none⟩,
            ⟨some 4, .mv (.t 6), none⟩])
      (.cond (.t 4)
        (.seq (.region
            [⟨some 2, .mv (.k (.c (.int .i64 11))), none⟩])
        (.ret))
        (.seq (.region
            [⟨some 8, .mv (.t 0), none⟩,
              ⟨some 9, .nilCheck (.t 8), none⟩,
              ⟨some 10, .fieldAddr 2 (.t 9), none⟩,
              ⟨some 11, .load1 (.t 10), none⟩,
              ⟨some 12, .un .not (.t 11), none⟩,
              ⟨some 7, .mv (.t 12), none⟩])
        (.cond (.t 7)
          (.seq (.region
              [⟨some 2, .mv (.k (.c (.int .i64 12))), none⟩])
          (.ret))
          (.skip))))))
  (.seq (.seq (.region
        [⟨some 13, .mv (.t 0), none⟩,
          ⟨some 14, .nilCheck (.t 13), none⟩,
          ⟨some 15, .fieldAddr 1 (.t 14), none⟩,
          ⟨some 16, .load1 (.t 15), none⟩,
          ⟨some 17, .len false (.t 16), none⟩,
          ⟨some 18, .bin .sub (.t 17) (.k (.c (.int .i64 1))), none⟩,
          ⟨some 3, .mv (.t 18), none⟩])
    (.block 1
      (.loop
        (.seq (.seq (.region
              [⟨some 19, .mv (.t 3), none⟩,
                ⟨some 20, .bin .geq (.t 19) (.k (.c (.int .i64 0))), none⟩])
          (.cond (.t 20)
            (.skip)
            (.exit 1)))
        (.seq (.block 2
            (.draw
              [⟨some 23, .mv (.t 0), none⟩,
                ⟨some 24, .nilCheck (.t 23), none⟩,
                ⟨some 25, .fieldAddr 0 (.t 24), none⟩,
                ⟨some 26, .load1 (.t 25), none⟩,
                ⟨some 27, .mv (.t 0), none⟩,
                ⟨some 28, .nilCheck (.t 27), none⟩,
                ⟨some 29, .fieldAddr 1 (.t 28), none⟩,
                ⟨some 30, .load1 (.t 29), none⟩,
                ⟨some 31, .mv (.t 3), none⟩,
                ⟨some 32, .idxSlc 1 (.t 30) (.t 31), none⟩,
                ⟨some 33, .load1 (.t 32), none⟩]
              [⟨some 34, .call F_arena_Arena_Release [.t 26, .t 33], none⟩]))
        (.region
          [⟨some 21, .mv (.t 3), none⟩,
            ⟨some 22, .bin .sub (.t 21) (.k (.c (.int .i64 1))), none⟩,
            ⟨some 3, .mv (.t 22), none⟩]))))))
  (.seq (.region
      [⟨some 35, .mv (.t 0), none⟩,
        ⟨some 36, .mv (.t 0), none⟩,
        ⟨some 37, .nilCheck (.t 35), none⟩,
        ⟨some 38, .fieldAddr 1 (.t 37), none⟩,
        ⟨none, .store 1 (.t 38) (.k (.c (.snil))), none⟩,
        ⟨some 39, .nilCheck (.t 36), none⟩,
        ⟨some 40, .fieldAddr 2 (.t 39), none⟩,
        ⟨none, .store 1 (.t 40) (.k (.c (.bool false))), none⟩])
  (.seq (.region
      [⟨some 2, .mv (.k (.c (.int .i64 0))), none⟩])
  (.ret))))))
theorem t_lease_Lease_Close : A F_lease_Lease_Close = some c_lease_Lease_Close := by kernel_rfl

noncomputable def c_lease_Lease_Held : AFn := AFn.mk 23 [.tmp 2]
  (.seq (.region
      [⟨some 2, .mv (.k (.c (.int .i64 0))), none⟩])
  (.seq (.seq (.region
        [⟨some 6, .mv (.t 0), none⟩,
          ⟨some 7, .eq false .ptr (.t 6) (.k (.c (.pnil))), none⟩])
    (.cond (.t 7)
      (.seq (.region
          [⟨some 2, .mv (.k (.c (.int .i64 0))), none⟩])
      (.ret))
      (.skip)))
  (.seq (.region
      [⟨some 3, .mv (.k (.c (.int .i64 0))), none⟩])
  (.seq (.seq (.region
        [⟨some 8, .mv (.t 0), none⟩,
          ⟨some 9, .nilCheck (.t 8), none⟩,
          ⟨some 10, .fieldAddr 1 (.t 9), none⟩,
          ⟨some 11, .load1 (.t 10), none⟩,
          ⟨some 12, .len false (.t 11), none⟩,
          ⟨some 13, .mv (.k (.c (.int .i64 0))), none⟩])
    (.block 0
      (.loop
        (.seq (.region
            [⟨some 14, .bin .lss (.t 13) (.t 12), none⟩])
        (.seq (.cond (.t 14)
            (.skip)
            (.exit 0))
        (.seq (.block 1
            (.seq (.region
                [⟨some 15, .idxSlc 1 (.t 11) (.t 13), none⟩,
                  ⟨some 16, .load1 (.t 15), none⟩,
                  ⟨some 5, .mv (.t 16), none⟩])
            (.region
              [⟨some 17, .mv (.t 3), none⟩,
                ⟨some 18, .mv (.t 5), none⟩,
                ⟨some 19, .call F_arena_Piece_Len [.t 18], none⟩,
                ⟨some 20, .bin .add (.t 17) (.t 19), none⟩,
                ⟨some 3, .mv (.t 20), none⟩])))
        (.region
          [⟨some 21, .bin .add (.t 13) (.k (.c (.int .i64 1))), none⟩,
            ⟨some 13, .mv (.t 21), none⟩])))))))
  (.seq (.region
      [⟨some 22, .mv (.t 3), none⟩,
        ⟨some 2, .mv (.t 22), none⟩])
  (.ret))))))
theorem t_lease_Lease_Held : A F_lease_Lease_Held = some c_lease_Lease_Held := by kernel_rfl

noncomputable def c_lease_Lease_Peak : AFn := AFn.mk 9 [.tmp 2]
  (.seq (.region
      [⟨some 2, .mv (.k (.c (.int .i64 0))), none⟩])
  (.seq (.seq (.region
        [⟨some 3, .mv (.t 0), none⟩,
          ⟨some 4, .eq false .ptr (.t 3) (.k (.c (.pnil))), none⟩])
    (.cond (.t 4)
      (.seq (.region
          [⟨some 2, .mv (.k (.c (.int .i64 0))), none⟩])
      (.ret))
      (.skip)))
  (.seq (.region
      [⟨some 5, .mv (.t 0), none⟩,
        ⟨some 6, .nilCheck (.t 5), none⟩,
        ⟨some 7, .fieldAddr 3 (.t 6), none⟩,
        ⟨some 8, .load1 (.t 7), none⟩,
        ⟨some 2, .mv (.t 8), none⟩])
  (.ret))))
theorem t_lease_Lease_Peak : A F_lease_Lease_Peak = some c_lease_Lease_Peak := by kernel_rfl

noncomputable def c_lease_With : AFn := AFn.mk 23 [.tmp 4, .tmp 5]
  (.seq (.region
      [⟨some 4, .mv (.k (.c (.int .i64 0))), none⟩,
        ⟨some 5, .mv (.k (.c (.int .i64 0))), none⟩])
  (.seq (.region
      [⟨some 9, .mv (.t 0), none⟩,
        ⟨some 10, .call F_lease_Open [.t 9], none⟩,
        ⟨some 8, .mv (.t 10), none⟩,
        ⟨some 11, .extract (.t 8) 0, none⟩,
        ⟨some 12, .extract (.t 8) 1, none⟩,
        ⟨some 6, .mv (.t 11), none⟩,
        ⟨some 7, .mv (.t 12), none⟩])
  (.seq (.seq (.region
        [⟨some 13, .mv (.t 7), none⟩,
          ⟨some 14, .bin .neq (.t 13) (.k (.c (.int .i64 0))), none⟩])
    (.cond (.t 14)
      (.seq (.region
          [⟨some 15, .mv (.t 7), none⟩,
            ⟨some 4, .mv (.k (.c (.int .i64 0))), none⟩,
            ⟨some 5, .mv (.t 15), none⟩])
      (.ret))
      (.skip)))
  (.defers
    [⟨some 16, .mv (.t 6), none⟩]
    F_lease_Lease_Close [.t 16]
  (.seq (.region
      [⟨some 17, .mv (.t 1), none⟩,
        ⟨some 18, .mv (.t 6), none⟩,
        ⟨some 19, .callV (.t 17) [.t 18], none⟩,
        ⟨some 7, .mv (.t 19), none⟩])
  (.seq (.region
      [⟨some 20, .mv (.t 6), none⟩,
        ⟨some 21, .call F_lease_Lease_Peak [.t 20], none⟩,
        ⟨some 22, .mv (.t 7), none⟩,
        ⟨some 4, .mv (.t 21), none⟩,
        ⟨some 5, .mv (.t 22), none⟩])
  (.ret)))))))
theorem t_lease_With : A F_lease_With = some c_lease_With := by kernel_rfl
end PK
