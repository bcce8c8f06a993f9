/- Texts of this claim, put together: Args Slc Go Base Chg More Go2 Sm KF L00 M01 KWords KPestleref01 L01a L01w L01v L01k L01l. -/
import Derived.Test.YtbpfkfjcecgceaaG7
import Derived.ChangeSlices
import Derived.SliceStrings
import Derived.Test.YtbpfkfjcecgceaaProg
import Derived.Test.YtbpfkfjcecgceaaG6
/- Arguments that are slices of integers or of strings: as cells and blocks that are only read. -/
namespace PAbs
open Go Go.RowKit Go.ChangeShapes Go.WideShapes Go.ChangeAt
set_option linter.unusedSimpArgs false
set_option linter.unusedVariables false

/-- a slice argument of one-cell elements: nil, or block b from its first cell on -/
def SlA (b : Nat) (x : Cell) (n : Nat) : Prop := (x = .snil ∧ n = 0) ∨ x = .slc b 0 n 1

/-- how such an argument stands in the world: a block only read, of these cells, and the value -/
def ArgR (W : World) (b : Nat) (x : Cell) (cs : List Cell) (v : Value) : Prop := SlA b x cs.length ∧ ∃ r : Reg, (∀ ρ, BR W.heap.size ρ W r (.ro cs)) ∧ ∀ ρ : List Reg, ρ[b]? = some r → VR ρ (.c x) v

theorem ArgR.nil (W : World) (b : Nat) : ArgR W b .snil [] (.slice none 0 0) :=
  ⟨.inl ⟨rfl, rfl⟩, .empty, fun ρ => (rfl : ([] : List Cell) = []), fun ρ h => (rfl : Value.slice none 0 0 = .slice none 0 0)⟩

theorem cell_heap {W : World} {g o : Nat} {v : Value} (h : W.cell? ⟨g, o, none⟩ = some v) : ∃ arr ty fz, W.heap[g]? = some (.cells arr ty fz) ∧ arr[o]? = some v := by
  simp only [World.cell?] at h
  split at h
  · rename_i c ty fz hc; exact ⟨c, ty, fz, hc, by simpa using h⟩
  · cases h

theorem ArgR.slice {W : World} {b : Nat} {a : Addr} {len cap : Nat} {cs : List Cell} {vals : Nat → Value} (hl : len ≤ cap) (hn : cs.length = len)
    (hcell : ∀ i, i < cap → W.cell? (a.add i) = some (vals i)) (hR : ∀ (i : Nat) (c : Cell), cs[i]? = some c → ∀ ρ, CR ρ c (vals i)) : ArgR W b (.slc b 0 len 1) cs (.slice (some a) len cap) := by
  refine ⟨.inr (by rw [hn]), ?_⟩
  rcases Nat.eq_zero_or_pos cap with h0 | hp
  · subst h0
    obtain rfl : len = 0 := by omega
    obtain rfl : cs = [] := List.length_eq_zero_iff.mp hn
    refine ⟨.empty, fun ρ => (rfl : ([] : List Cell) = []), fun ρ h => ?_⟩
    show CR ρ (.slc b 0 0 1) _
    simp only [CR, h]
    exact ⟨trivial, _, rfl⟩
  · obtain ⟨g, o, spot⟩ := a
    have hspot : spot = none := by simpa [Addr.add] using World.cell?_spot (hcell 0 hp)
    subst hspot
    have hc : ∀ i, i < cap → W.cell? ⟨g, o + i, none⟩ = some (vals i) := fun i hi => by rw [← Go.WideShapes.add_plain]; exact hcell i hi
    obtain ⟨arr, ty, fz, hh, _⟩ := cell_heap (hc 0 hp)
    have hg : g < W.heap.size := (Array.getElem?_eq_some_iff.mp hh).1
    refine ⟨.at g o cap, fun ρ => ⟨hg, by omega, arr, ty, fz, hh, fun i x hx => ?_⟩, fun ρ h => ?_⟩
    · have hi : i < cs.length := (List.getElem?_eq_some_iff.mp hx).1
      obtain ⟨arr', ty', fz', hh', hv'⟩ := cell_heap (hc i (by omega))
      rw [hh] at hh'
      cases hh'
      exact ⟨_, hv', hR i x hx ρ⟩
    · show CR ρ (.slc b 0 len 1) _
      simp only [CR, h]
      exact .inl ⟨cap, by simp, hl, by omega⟩

/-- the words of a slice of integers -/
theorem open_intsA {H : Type} {enc : TypeId × Value → H} {P : Program} {W : World} {base t e : Nat} {k : IntKind} {v : Value} {d : DataW H} {ps : List MemPlace} (b : Nat) (ht : P.underlying t = some (.slice e)) (he : P.underlying e = some (.int k)) (hc : P.cellsOf e = 1)
    (hval : Value.okWide P W .any base t v) (h : DataW.Trod enc P W 0 (fun _ => true) true t v d ps) :
    ∃ (zs : List Int) (x : Cell), ArgR W b x (zs.map fun z => Cell.int k z) v ∧ (∀ n ∈ zs, (Lit.int k n).wf = true) ∧ zs.length ≤ maxLen ∧ (d = .nil ∧ zs = [] ∨ ∃ sp, d = .slice (lits k zs) (lits k sp)) := by
  obtain ⟨a0, len0, cap0, rfl⟩ := okWide_slice ht hval
  obtain ⟨fuel, hf⟩ := h
  rcases open_ints ht he hc hf with ⟨h1, h2⟩ | ⟨a, len, cap, zs, h1, _, hl, hm, hz, hx, hcell, hwf⟩
  · simp only [Value.cells] at h1
    cases h1
    cases h2
    exact ⟨[], .snil, ArgR.nil W b, fun n hn => (by cases hn), Nat.zero_le _, .inl ⟨rfl, rfl⟩⟩
  · simp only [Value.cells] at h1
    cases h1
    cases hx
    simp only [if_true] at hz
    refine ⟨zs.take len0, .slc b 0 len0 1, ArgR.slice (vals := fun i => .int k (zs.getD i 0)) hl (by simp; omega) (fun i hi => hcell i (by omega)) ?_, fun n hn => hwf n (List.mem_of_mem_take hn), by simp; omega, .inr ⟨_, rfl⟩⟩
    intro i c hc ρ
    rw [List.getElem?_map] at hc
    cases hz' : (zs.take len0)[i]? with
    | none => rw [hz'] at hc; cases hc
    | some z =>
      rw [hz'] at hc
      have hc : Cell.int k z = c := by simpa using hc
      subst hc
      have hz2 : zs[i]? = some z := by
        rw [List.getElem?_take] at hz'
        split at hz'
        · exact hz'
        · cases hz'
      show Value.int k (zs.getD i 0) = .int k z
      simp [hz2]

/-- the texts of a slice of strings -/
theorem open_strsA {H : Type} {enc : TypeId × Value → H} {P : Program} {W : World} {base t e : Nat} {v : Value} {d : DataW H} {ps : List MemPlace} (b : Nat) (ht : P.underlying t = some (.slice e)) (he : P.underlying e = some .string) (hc : P.cellsOf e = 1)
    (hval : Value.okWide P W .any base t v) (h : DataW.Trod enc P W 0 (fun _ => true) true t v d ps) :
    ∃ (ss : List ByteArray) (x : Cell), ArgR W b x (ss.map fun s => Cell.str s.data.toList) v ∧ (∀ s ∈ ss, s.size ≤ maxLen) ∧ ss.length ≤ maxLen ∧ (d = .nil ∧ ss = [] ∨ ∃ sp, d = .slice (strs ss) (strs sp)) := by
  obtain ⟨a0, len0, cap0, rfl⟩ := okWide_slice ht hval
  obtain ⟨fuel, hf⟩ := h
  rcases open_strings ht he hc hf with ⟨h1, h2⟩ | ⟨a, len, cap, ss, h1, _, hl, hm, hz, hx, hcell, hsz⟩
  · simp only [Value.cells] at h1
    cases h1
    cases h2
    exact ⟨[], .snil, ArgR.nil W b, fun n hn => (by cases hn), Nat.zero_le _, .inl ⟨rfl, rfl⟩⟩
  · simp only [Value.cells] at h1
    cases h1
    cases hx
    simp only [if_true] at hz
    refine ⟨ss.take len0, .slc b 0 len0 1, ArgR.slice (vals := fun i => .string (ss.getD i ByteArray.empty)) hl (by simp; omega) (fun i hi => hcell i (by omega)) ?_, fun n hn => hsz n (List.mem_of_mem_take hn), by simp; omega, .inr ⟨_, rfl⟩⟩
    intro i c hc ρ
    rw [List.getElem?_map] at hc
    cases hz' : (ss.take len0)[i]? with
    | none => rw [hz'] at hc; cases hc
    | some z =>
      rw [hz'] at hc
      have hc : Cell.str z.data.toList = c := by simpa using hc
      subst hc
      have hz2 : ss[i]? = some z := by
        rw [List.getElem?_take] at hz'
        split at hz'
        · exact hz'
        · cases hz'
      show Value.string (ss.getD i ByteArray.empty) = .string ⟨z.data.toList.toArray⟩
      simp [hz2]

/-- the texts as lists of letters -/
theorem open_textsA {H : Type} {enc : TypeId × Value → H} {P : Program} {W : World} {base t e : Nat} {v : Value} {d : DataW H} {ps : List MemPlace} (b : Nat) (ht : P.underlying t = some (.slice e)) (he : P.underlying e = some .string) (hc : P.cellsOf e = 1)
    (hval : Value.okWide P W .any base t v) (h : DataW.Trod enc P W 0 (fun _ => true) true t v d ps) :
    ∃ (ss : List (List UInt8)) (x : Cell), ArgR W b x (ss.map Cell.str) v ∧ (∀ s ∈ ss, s.length ≤ maxLen) ∧ ss.length ≤ maxLen ∧ (d = .nil ∧ ss = [] ∨ ∃ sp, d = .slice (ss.map fun s => .lit (.string s)) sp) := by
  obtain ⟨ss, x, h1, h2, h3, h4⟩ := open_strsA b ht he hc hval h
  refine ⟨ss.map fun s => s.data.toList, x, by rw [List.map_map]; exact h1, ?_, by simpa using h3, ?_⟩
  · intro s hs
    obtain ⟨u, hu, rfl⟩ := List.mem_map.mp hs
    have := h2 u hu
    rw [Array.length_toList]; exact this
  · rcases h4 with ⟨h5, h6⟩ | ⟨sp, h5⟩
    · exact .inl ⟨h5, by rw [h6]; rfl⟩
    · exact .inr ⟨_, by rw [h5, List.map_map]; rfl⟩

/-- words of an unsigned kind -/
theorem open_natsA {H : Type} {enc : TypeId × Value → H} {P : Program} {W : World} {base t e : Nat} {k : IntKind} {v : Value} {d : DataW H} {ps : List MemPlace} (b : Nat) (hk : k.min = 0) (ht : P.underlying t = some (.slice e)) (he : P.underlying e = some (.int k)) (hc : P.cellsOf e = 1)
    (hval : Value.okWide P W .any base t v) (h : DataW.Trod enc P W 0 (fun _ => true) true t v d ps) :
    ∃ (ns : List Nat) (x : Cell), ArgR W b x (ns.map fun (n : Nat) => Cell.int k (n : Int)) v ∧ (∀ n ∈ ns, (n : Int) ≤ k.max) ∧ ns.length ≤ maxLen ∧ (d = .nil ∧ ns = [] ∨ ∃ sp, d = .slice (ns.map fun (n : Nat) => .lit (.int k (n : Int))) sp) := by
  obtain ⟨zs, x, h1, h2, h3, h4⟩ := open_intsA b ht he hc hval h
  have hz : ∀ z ∈ zs, 0 ≤ z ∧ z ≤ k.max := fun z hz => by
    have := h2 z hz
    simp only [Lit.wf, Bool.and_eq_true, decide_eq_true_eq, hk] at this
    exact this
  have e1 : zs = zs.map fun z => ((z.toNat : Nat) : Int) := by
    have : zs.map (fun z => ((z.toNat : Nat) : Int)) = zs.map id := List.map_congr_left fun z hz' => by have := (hz z hz').1; simp only [id]; omega
    rw [this]; simp
  refine ⟨zs.map Int.toNat, x, ?_, ?_, by simpa using h3, ?_⟩
  · rw [List.map_map]
    have : zs.map ((fun (n : Nat) => Cell.int k (n : Int)) ∘ Int.toNat) = zs.map fun z => Cell.int k z := List.map_congr_left fun z hz' => by have := (hz z hz').1; simp only [Function.comp]; congr 1; omega
    rw [this]; exact h1
  · intro n hn
    obtain ⟨z, hz', rfl⟩ := List.mem_map.mp hn
    have := hz z hz'; omega
  · rcases h4 with ⟨h5, h6⟩ | ⟨sp, h5⟩
    · exact .inl ⟨h5, by rw [h6]; rfl⟩
    · refine .inr ⟨lits k sp, ?_⟩
      rw [h5, List.map_map]
      congr 1
      simp only [lits]
      exact List.map_congr_left fun z hz' => by have := (hz z hz').1; simp only [Function.comp]; congr 2; omega

/-- heaps of blocks that are only read -/
theorem HR.ro1 {W : World} {r : Reg} {cs : List Cell} (h : ∀ ρ, BR W.heap.size ρ W r (.ro cs)) : HR W.heap.size [r] [.ro cs] W := by
  refine ⟨rfl, fun b x r' hx hr => ?_, fun b b' c c' g f c2 f' c3 h1 => ?_, Nat.le_refl _⟩
  · match b with
    | 0 => simp at hx hr; subst hx hr; exact h _
    | b + 1 => simp at hx
  · match b with
    | 0 => simp at h1
    | b + 1 => simp at h1
theorem HR.ro2 {W : World} {r s : Reg} {cs ds : List Cell} (h : ∀ ρ, BR W.heap.size ρ W r (.ro cs)) (k : ∀ ρ, BR W.heap.size ρ W s (.ro ds)) : HR W.heap.size [r, s] [.ro cs, .ro ds] W := by
  refine ⟨rfl, fun b x r' hx hr => ?_, fun b b' c c' g f c2 f' c3 h1 => ?_, Nat.le_refl _⟩
  · match b with
    | 0 => simp at hx hr; subst hx hr; exact h _
    | 1 => simp at hx hr; subst hx hr; exact k _
    | b + 2 => simp at hx
  · match b with
    | 0 => simp at h1
    | 1 => simp at h1
    | b + 2 => simp at h1

/-- an array of words, by value -/
theorem open_wordsA {H : Type} {enc : TypeId × Value → H} {P : Program} {W : World} {base t e n : Nat} {k : IntKind} {v : Value} {d : DataW H} {ps : List MemPlace} (hk : k.min = 0) (ht : P.underlying t = some (.array n e)) (he : P.underlying e = some (.int k)) (hc : P.cellsOf e = 1) (hct : P.cellsOf t = n)
    (hval : Value.okWide P W .any base t v) (h : DataW.Trod enc P W 0 (fun _ => true) true t v d ps) :
    ∃ ns : List Nat, ns.length = n ∧ (∀ m ∈ ns, (m : Int) ≤ k.max) ∧ ∀ ρ, VR ρ (.agg (ns.map fun (m : Nat) => Cell.int k (m : Int))) v := by
  simp only [Value.okWide, ht] at hval
  obtain ⟨cs, rfl, hs, _⟩ := hval
  obtain ⟨fuel, hf⟩ := h
  obtain ⟨xs, m, rfl, _, hl, hx, hel⟩ := DataW.trod_array ht hf
  simp only [Value.cells] at hl hel
  rw [hct] at hl
  have each : ∀ i (hi : i < cs.toList.length), ∃ z : Nat, cs.toList[i] = .int k (z : Int) ∧ (z : Int) ≤ k.max := by
    intro i hi
    have h1 := hel i (by omega)
    rw [hc, Nat.mul_one] at h1
    have h2 : (cs.toList.drop i).take 1 = [cs.toList[i]] := by
      rw [List.drop_eq_getElem_cons hi]; rfl
    rw [h2, List.getElem?_eq_getElem (by omega)] at h1
    obtain ⟨z, hz, _, hw⟩ := DataW.trod_int he h1
    have hz : cs.toList[i] = .int k z := by simpa using hz
    simp only [Lit.wf, Bool.and_eq_true, decide_eq_true_eq, hk] at hw
    obtain ⟨u, rfl⟩ := Int.eq_ofNat_of_zero_le hw.1
    exact ⟨u, hz, hw.2⟩
  let ns : List Nat := cs.toList.map fun v => match v with | .int _ z => z.toNat | _ => 0
  have en : cs.toList = ns.map fun (m : Nat) => Value.int k (m : Int) := by
    apply List.ext_getElem (by simp [ns])
    intro i h1 h2
    obtain ⟨z, hz, _⟩ := each i h1
    simp only [ns, List.getElem_map, hz, Int.toNat_natCast]
  refine ⟨ns, by simp only [ns, List.length_map]; omega, ?_, fun ρ => ⟨cs.toList, by simp, ?_⟩⟩
  · intro m hm
    obtain ⟨u, hu, rfl⟩ := List.mem_map.mp hm
    obtain ⟨i, hi, rfl⟩ := List.mem_iff_getElem.mp hu
    obtain ⟨z, hz, hb⟩ := each i hi
    rw [hz]; simpa using hb
  · rw [en]
    exact ⟨by simp, fun i x hx => by
      rw [List.getElem?_map] at hx
      cases hn : ns[i]? with
      | none => rw [hn] at hx; cases hx
      | some z =>
        rw [hn] at hx
        have hx : Cell.int k (z : Int) = x := by simpa using hx
        subst hx
        exact ⟨.int k z, by rw [List.getElem?_map, hn]; rfl, (rfl : Value.int k (z : Int) = .int k z)⟩⟩
end PAbs

/- Slices in the abstract heap: such as may be read, such as are one's own; append. -/
namespace PAbs
open Go
set_option linter.unusedSimpArgs false
set_option linter.unusedVariables false

/-- a slice that may be read: these cells -/
def Rd (H : AHeap) (x : Cell) (sz : Nat) (cs : List Cell) : Prop := (x = .snil ∧ cs = []) ∨ ∃ s o n, x = .slc s o n sz ∧ cs.length = n * sz ∧ readN H s o (n * sz) = some cs
/-- a slice that is one's own, the whole of its block, which is not below f -/
def Own (f : Nat) (H : AHeap) (x : Cell) (sz : Nat) (cs : List Cell) : Prop := (x = .snil ∧ cs = []) ∨ ∃ s n, x = .slc s 0 n sz ∧ cs.length = n * sz ∧ f ≤ s ∧ hown H s = some cs
/-- of no common block -/
def Apart (x y : Cell) : Prop := ∀ s o n z s' o' n' z', x = .slc s o n z → y = .slc s' o' n' z' → s ≠ s'

theorem readN_all {H : AHeap} {s : Nat} {cs : List Cell} (h : hcells H s = some cs) : readN H s 0 cs.length = some cs := by simp [readN, h]

theorem Own.rd {f : Nat} {H : AHeap} {x : Cell} {sz : Nat} {cs : List Cell} (h : Own f H x sz cs) : Rd H x sz cs := by
  rcases h with h | ⟨s, n, h1, h2, _, h4⟩
  · exact .inl h
  · exact .inr ⟨s, 0, n, h1, h2, by rw [← h2]; exact readN_all (hcells_own h4)⟩
theorem Own.mono {f g : Nat} {H : AHeap} {x : Cell} {sz : Nat} {cs : List Cell} (h : Own f H x sz cs) (hg : g ≤ f) : Own g H x sz cs := by
  rcases h with h | ⟨s, n, h1, h2, h3, h4⟩
  · exact .inl h
  · exact .inr ⟨s, n, h1, h2, by omega, h4⟩
theorem Own.nil {f : Nat} {H : AHeap} {sz : Nat} : Own f H .snil sz [] := .inl ⟨rfl, rfl⟩
theorem Own.app {f : Nat} {H l : AHeap} {x : Cell} {sz : Nat} {cs : List Cell} (h : Own f H x sz cs) : Own f (H ++ l) x sz cs := by
  rcases h with h | ⟨s, n, h1, h2, h3, h4⟩
  · exact .inl h
  · exact .inr ⟨s, n, h1, h2, h3, hown_app h4⟩
theorem Own.kept {f : Nat} {H H' : AHeap} {x : Cell} {sz : Nat} {cs : List Cell} (h : Own f H x sz cs) (hk : Kept H.length H H') : Own f H' x sz cs := by
  rcases h with h | ⟨s, n, h1, h2, h3, h4⟩
  · exact .inl h
  · exact .inr ⟨s, n, h1, h2, h3, by rw [hk.hown (hown_lt h4) (hown_lt h4)]; exact h4⟩
theorem Own.lt {f : Nat} {H : AHeap} {sz s o n z : Nat} {cs : List Cell} (h : Own f H (.slc s o n z) sz cs) : s < H.length := by
  rcases h with ⟨h, _⟩ | ⟨s', n', h1, h2, h3, h4⟩
  · cases h
  · cases h1; exact hown_lt h4
theorem Own.one {f : Nat} {H : AHeap} {cs : List Cell} (hf : f ≤ H.length) : Own f (H ++ [.own cs]) (.slc H.length 0 cs.length 1) 1 cs := .inr ⟨_, _, rfl, by omega, hf, hown_last⟩
theorem readN_kept {H H' : AHeap} {s o n : Nat} {cs : List Cell} (h : readN H s o n = some cs) (hk : Kept H.length H H') : readN H' s o n = some cs := by
  simp only [readN] at h ⊢
  cases hc : hcells H s with
  | none => rw [hc] at h; cases h
  | some l => rw [hk.hcells (hcells_lt hc) (hcells_lt hc), hc]; rw [hc] at h; exact h
theorem Rd.kept {H H' : AHeap} {x : Cell} {sz : Nat} {cs : List Cell} (h : Rd H x sz cs) (hk : Kept H.length H H') : Rd H' x sz cs := by
  rcases h with h | ⟨s, o, n, h1, h2, h3⟩
  · exact .inl h
  · exact .inr ⟨s, o, n, h1, h2, readN_kept h3 hk⟩
theorem Rd.of_arg {H : AHeap} {b : Nat} {x : Cell} {cs : List Cell} (h : SlA b x cs.length) (hc : hcells H b = some cs) : Rd H x 1 cs := by
  rcases h with ⟨h1, h2⟩ | h
  · exact .inl ⟨h1, List.length_eq_zero_iff.mp h2⟩
  · exact .inr ⟨b, 0, cs.length, h, by omega, by rw [Nat.mul_one]; exact readN_all hc⟩
theorem Kept.more (f : Nat) (H l : AHeap) : Kept f H (H ++ l) := ⟨by simp, fun b _ h => by simp [List.getElem?_append, h]⟩

/-- what stands at place i -/
theorem Rd.get {H : AHeap} {x : Cell} {cs : List Cell} (h : Rd H x 1 cs) {i : Nat} (hi : i < cs.length) : ∃ s o full, x = .slc s o cs.length 1 ∧ hcells H s = some full ∧ full[o + i]? = cs[i]? := by
  rcases h with ⟨_, h⟩ | ⟨s, o, n, h1, h2, h3⟩
  · rw [h] at hi; simp at hi
  · obtain rfl : n = cs.length := by omega
    simp only [readN] at h3
    cases hc : hcells H s with
    | none => rw [hc] at h3; cases h3
    | some l =>
      rw [hc] at h3
      simp only at h3
      split at h3
      · have h3 := Option.some.inj h3
        refine ⟨s, o, l, h1, hc, ?_⟩
        conv => rhs; rw [← h3]
        rw [List.getElem?_take, if_pos (by omega), List.getElem?_drop]
      · cases h3
theorem Rd.cells {H : AHeap} {x : Cell} {sz : Nat} {cs : List Cell} (h : Rd H x sz cs) : sliceCells H sz (.c x) = some cs := by
  rcases h with ⟨rfl, rfl⟩ | ⟨s, o, n, rfl, h2, h3⟩
  · rfl
  · simp only [sliceCells, if_true]; exact h3

theorem exec_len {call : ACall} {fl : Nat} {fr : AFrame} {H : AHeap} {x : Cell} {cs : List Cell} {o : AOpd} (h : Rd H x 1 cs) (ho : o.ev fr = .c x) : execA call fl fr H (.len false o) = some (.c (.int .i64 (cs.length : Int)), H) := by
  rcases h with ⟨rfl, rfl⟩ | ⟨s, b, n, rfl, h2, h3⟩
  · simp only [execA, stepA, ho, i64]; rfl
  · obtain rfl : n = cs.length := by omega
    simp only [readN] at h3
    cases hc : hcells H s with
    | none => rw [hc] at h3; cases h3
    | some l => simp only [execA, stepA, ho, i64, hc]; rfl

theorem exec_lenN {call : ACall} {fl n : Nat} {fr : AFrame} {H : AHeap} {x : Cell} {cs : List Cell} {o : AOpd} (h : Rd H x 1 cs) (hn : cs.length = n) (ho : o.ev fr = .c x) : execA call fl fr H (.len false o) = some (.c (.int .i64 (n : Int)), H) := by
  subst hn; exact exec_len h ho

theorem exec_append {call : ACall} {fl f sz bytes : Nat} {fr : AFrame} {H : AHeap} {x : Cell} {y : AV} {cs news zero : List Cell} {o1 o2 : AOpd} (hx : Own f H x sz cs) (hy : sliceCells H sz y = some news) (hz : zero.length = sz) (hsz : 0 < sz) (hn : news.length % sz = 0) (hf : fl ≤ f) (hfH : f ≤ H.length)
    (hb : (cs.length + news.length) * bytes ≤ 140737488355328) (h1 : o1.ev fr = .c x) (h2 : o2.ev fr = y) :
    ∃ x' H', execA call fl fr H (.append zero bytes o1 o2) = some (.c x', H') ∧ Own f H' x' sz (cs ++ news) ∧ Kept f H H' ∧ ∀ z ds k, Own f H z k ds → Apart x z → Own f H' z k ds ∧ Apart x' z := by
  have hdiv : news.length = news.length / sz * sz := by
    have := Nat.div_add_mod news.length sz; rw [hn, Nat.add_zero, Nat.mul_comm] at this; exact this.symm
  rcases hx with ⟨rfl, rfl⟩ | ⟨s, n, rfl, hl, hs, ho⟩
  · have hb' : news.length * bytes ≤ 140737488355328 := by simpa using hb
    refine ⟨.slc H.length 0 (news.length / sz) sz, H ++ [.own news], ?_, .inr ⟨H.length, news.length / sz, rfl, by simpa using hdiv, hfH, hown_last⟩, Kept.more _ _ _, fun z ds k hz' ha => ⟨hz'.app, ?_⟩⟩
    · simp only [execA, stepA, h1, h2, appendA, hz, hy, hb', if_true]
    · intro s o n z s' o' n' z' e1 e2
      cases e1; subst e2
      have := hz'.lt; omega
  · have ls := hown_lt ho
    have hb' : (n * sz + news.length) * bytes ≤ 140737488355328 := by rw [← hl]; exact hb
    refine ⟨.slc H.length 0 (n + news.length / sz) sz, H.set s .dead ++ [.own (cs ++ news)], ?_, .inr ⟨H.length, _, rfl, ?_, hfH, ?_⟩, ⟨by simp, fun b hb1 hb2 => ?_⟩, fun z ds k hz' ha => ⟨?_, ?_⟩⟩
    · simp only [execA, stepA, h1, h2, appendA, hz, hy, ho]
      rw [if_pos ⟨by omega, by first | rfl | trivial, by omega, hb'⟩]; simp
    · simp only [List.length_append, Nat.add_mul, ← hdiv, hl]
    · have := hown_last (H := H.set s .dead) (cs := cs ++ news)
      simpa using this
    · rw [List.getElem?_append, if_pos (by simpa using hb2), List.getElem?_set, if_neg (by omega)]
    · rcases hz' with h | ⟨s', n', rfl, h4, h5, h6⟩
      · exact .inl h
      · exact .inr ⟨s', n', rfl, h4, h5, by
          refine hown_app ?_
          rw [hown_set_ne (ha _ _ _ _ _ _ _ _ rfl rfl)]; exact h6⟩
    · intro s o n z s' o' n' z' e1 e2
      cases e1; subst e2
      have := hz'.lt; omega

theorem Apart.symm {x y : Cell} (h : Apart x y) : Apart y x := fun s o n z s' o' n' z' e1 e2 e => h _ _ _ _ _ _ _ _ e2 e1 e.symm
theorem Apart.nil {y : Cell} : Apart .snil y := fun s o n z s' o' n' z' e1 => by cases e1

/-- append, in a statement -/
theorem AO_append {A : Nat → Option AFn} {fl f sz bytes : Nat} {fr : AFrame} {H : AHeap} {x : Cell} {y : AV} {cs news zero : List Cell} {o1 o2 : AOpd} {d : Option Nat} {rest : List AOper} {Q : AFrame → AHeap → Prop} (hx : Own f H x sz cs) (hy : sliceCells H sz y = some news) (hz : zero.length = sz) (hsz : 0 < sz) (hn : news.length % sz = 0) (hf : fl ≤ f) (hfH : f ≤ H.length)
    (hb : (cs.length + news.length) * bytes ≤ 140737488355328) (h1 : o1.ev fr = .c x) (h2 : o2.ev fr = y)
    (h : ∀ x' H', Own f H' x' sz (cs ++ news) → Kept f H H' → (∀ z ds k, Own f H z k ds → Apart x z → Own f H' z k ds ∧ Apart x' z) → AO A fl rest (putA fr d (.c x')) H' Q) : AO A fl (⟨d, .append zero bytes o1 o2, none⟩ :: rest) fr H Q := by
  obtain ⟨x', H', e, h3, h4, h5⟩ := exec_append (call := noCall) hx hy hz hsz hn hf hfH hb h1 h2
  exact AO_step rfl e (h x' H' h3 h4 h5)
theorem cells_last {H : AHeap} {cs : List Cell} {n : Nat} (h : cs.length = n) : sliceCells (H ++ [.own cs]) 1 (.c (.slc H.length 0 n 1)) = some cs := by
  subst h
  simp only [sliceCells, if_true, Nat.mul_one]; exact readN_all hcells_last
end PAbs

/- Steps that go as far as they can: operations up to the first call or append; lengths by facts; loops that count up. -/
namespace PAbs
open Go
set_option linter.unusedSimpArgs false
set_option linter.unusedVariables false

def AOp.stops : AOp → Bool
  | .call _ _ => true
  | .callV _ _ => true
  | .append _ _ (.k (.c .snil)) _ => false
  | .append _ _ _ _ => true
  | _ => false

inductive Pre where
  | at (ops : List AOper) (fr : AFrame) (H : AHeap)
  | bad

def Pre.isAt : Pre → List AOper → AFrame → AHeap → Prop
  | .at o f h, o', f', h' => o = o' ∧ f = f' ∧ h = h'
  | .bad, _, _, _ => False

def evalPre (fl : Nat) : List AOper → AFrame → AHeap → Pre
  | [], fr, H => .at [] fr H
  | o :: r, fr, H =>
    if wantedA fr o.guard then
      if o.op.stops then .at (o :: r) fr H else
      match execA noCall fl fr H o.op with
      | some (v, H') => evalPre fl r (putA fr o.dst v) H'
      | none => .bad
    else evalPre fl r (putA fr o.dst aundef) H

/-- the first one is not to stop -/
def evalPre1 (fl : Nat) : List AOper → AFrame → AHeap → Pre
  | [], _, _ => .bad
  | o :: r, fr, H =>
    if wantedA fr o.guard then
      if o.op.stops then .bad else
      match execA noCall fl fr H o.op with
      | some (v, H') => evalPre fl r (putA fr o.dst v) H'
      | none => .bad
    else evalPre fl r (putA fr o.dst aundef) H

def hPre : List AOper → AFrame → AHeap → Pre
  | [], fr, H => .at [] fr H
  | o :: r, fr, H =>
    if wantedA fr o.guard then
      if o.op.stops then .at (o :: r) fr H else
      match execA noCall H.length fr H o.op with
      | some (v, H') => hPre r (putA fr o.dst v) H'
      | none => .bad
    else hPre r (putA fr o.dst aundef) H
def hPre1 : List AOper → AFrame → AHeap → Pre
  | [], _, _ => .bad
  | o :: r, fr, H =>
    if wantedA fr o.guard then
      if o.op.stops then .bad else
      match execA noCall H.length fr H o.op with
      | some (v, H') => hPre r (putA fr o.dst v) H'
      | none => .bad
    else hPre r (putA fr o.dst aundef) H

section
variable {A : Nat → Option AFn} {fl : Nat}
theorem AO_pre0 : ∀ {ops ops' : List AOper} {fr fr' : AFrame} {H H' : AHeap} {Q : AFrame → AHeap → Prop}, evalPre fl ops fr H = .at ops' fr' H' → AO A fl ops' fr' H' Q → AO A fl ops fr H Q
  | [], ops', fr, fr', H, H', Q, h, h2 => by simp only [evalPre, Pre.at.injEq] at h; obtain ⟨rfl, rfl, rfl⟩ := h; exact h2
  | o :: r, ops', fr, fr', H, H', Q, h, h2 => by
    simp only [evalPre] at h
    split at h
    · rename_i hw
      split at h
      · simp only [Pre.at.injEq] at h; obtain ⟨rfl, rfl, rfl⟩ := h; exact h2
      · split at h
        · rename_i v H1 hx
          exact AO_step hw hx (AO_pre0 h h2)
        · cases h
    · rename_i hw
      exact AO_skip (by simpa using hw) (AO_pre0 h h2)
theorem AO_pre {ops ops' : List AOper} {fr fr' : AFrame} {H H' : AHeap} {Q : AFrame → AHeap → Prop} (h : evalPre1 fl ops fr H = .at ops' fr' H') (h2 : AO A fl ops' fr' H' Q) : AO A fl ops fr H Q := by
  refine AO_pre0 (ops' := ops') (fr' := fr') (H' := H') ?_ h2
  cases ops with
  | nil => cases h
  | cons o r =>
    simp only [evalPre, evalPre1] at h ⊢
    split at h
    · rename_i hw
      rw [if_pos hw]
      split at h
      · cases h
      · rename_i hs
        rw [if_neg hs]; exact h
    · rename_i hw
      rw [if_neg hw]; exact h
theorem AHd_pre0 : ∀ {ops ops' : List AOper} {fr fr' : AFrame} {H H' : AHeap} {Q : AFrame → AHeap → Prop}, hPre ops fr H = .at ops' fr' H' → AHd A ops' fr' H' Q → AHd A ops fr H Q
  | [], ops', fr, fr', H, H', Q, h, h2 => by simp only [hPre, Pre.at.injEq] at h; obtain ⟨rfl, rfl, rfl⟩ := h; exact h2
  | o :: r, ops', fr, fr', H, H', Q, h, h2 => by
    simp only [hPre] at h
    split at h
    · rename_i hw
      split at h
      · simp only [Pre.at.injEq] at h; obtain ⟨rfl, rfl, rfl⟩ := h; exact h2
      · split at h
        · rename_i v H1 hx
          exact AHd_step hw hx (AHd_pre0 h h2)
        · cases h
    · rename_i hw
      exact AHd_skip (by simpa using hw) (AHd_pre0 h h2)
theorem AHd_pre {ops ops' : List AOper} {fr fr' : AFrame} {H H' : AHeap} {Q : AFrame → AHeap → Prop} (h : hPre1 ops fr H = .at ops' fr' H') (h2 : AHd A ops' fr' H' Q) : AHd A ops fr H Q := by
  refine AHd_pre0 (ops' := ops') (fr' := fr') (H' := H') ?_ h2
  cases ops with
  | nil => cases h
  | cons o r =>
    simp only [hPre, hPre1] at h ⊢
    split at h
    · rename_i hw
      rw [if_pos hw]
      split at h
      · cases h
      · rename_i hs
        rw [if_neg hs]; exact h
    · rename_i hw
      rw [if_neg hw]; exact h
end

def contP (fl : Nat) (d : Option Nat) (rest : List AOper) (fr : AFrame) : Option (AV × AHeap) → Pre
  | some (v, H) => evalPre fl rest (putA fr d v) H
  | none => .bad
def stopP (fl : Nat) (o : AOper) (rest : List AOper) (fr : AFrame) (H : AHeap) : Bool → Pre
  | true => .at (o :: rest) fr H
  | false => contP fl o.dst rest fr (execA noCall fl fr H o.op)
def gateP (fl : Nat) (o : AOper) (rest : List AOper) (fr : AFrame) (H : AHeap) : Bool → Pre
  | true => stopP fl o rest fr H o.op.stops
  | false => evalPre fl rest (putA fr o.dst aundef) H
def stopQ (fl : Nat) (o : AOper) (rest : List AOper) (fr : AFrame) (H : AHeap) : Bool → Pre
  | true => .bad
  | false => contP fl o.dst rest fr (execA noCall fl fr H o.op)
def gateQ (fl : Nat) (o : AOper) (rest : List AOper) (fr : AFrame) (H : AHeap) : Bool → Pre
  | true => stopQ fl o rest fr H o.op.stops
  | false => evalPre fl rest (putA fr o.dst aundef) H
def contHP (d : Option Nat) (rest : List AOper) (fr : AFrame) : Option (AV × AHeap) → Pre
  | some (v, H) => hPre rest (putA fr d v) H
  | none => .bad
def stopHP (o : AOper) (rest : List AOper) (fr : AFrame) (H : AHeap) : Bool → Pre
  | true => .at (o :: rest) fr H
  | false => contHP o.dst rest fr (execA noCall H.length fr H o.op)
def stopHQ (o : AOper) (rest : List AOper) (fr : AFrame) (H : AHeap) : Bool → Pre
  | true => .bad
  | false => contHP o.dst rest fr (execA noCall H.length fr H o.op)
def gateHQ (o : AOper) (rest : List AOper) (fr : AFrame) (H : AHeap) : Bool → Pre
  | true => stopHQ o rest fr H o.op.stops
  | false => hPre rest (putA fr o.dst aundef) H
def gateHP (o : AOper) (rest : List AOper) (fr : AFrame) (H : AHeap) : Bool → Pre
  | true => stopHP o rest fr H o.op.stops
  | false => hPre rest (putA fr o.dst aundef) H

section
variable {fl : Nat} {d : Option Nat} {op : AOp} {rest : List AOper} {fr : AFrame} {H : AHeap} {v : AV} {g : Nat × Bool}
theorem pre_nil : evalPre fl [] fr H = .at [] fr H := rfl
theorem pre_cons : evalPre fl (⟨d, op, none⟩ :: rest) fr H = stopP fl ⟨d, op, none⟩ rest fr H op.stops := by
  simp only [evalPre, wantedA, if_true]; cases h : op.stops <;> simp only [stopP, if_true, if_false, Bool.false_eq_true]
  cases execA noCall fl fr H op <;> rfl
theorem pre_gate : evalPre fl (⟨d, op, some g⟩ :: rest) fr H = gateP fl ⟨d, op, some g⟩ rest fr H (wantedA fr (some g)) := by
  simp only [evalPre]
  cases hw : wantedA fr (some g) with
  | true =>
    simp only [if_true, gateP]; cases h : op.stops <;> simp only [stopP, if_true, if_false, Bool.false_eq_true]
    cases execA noCall fl fr H op <;> rfl
  | false => simp [gateP]
theorem pre1_nil : evalPre1 fl [] fr H = .bad := rfl
theorem pre1_cons : evalPre1 fl (⟨d, op, none⟩ :: rest) fr H = stopQ fl ⟨d, op, none⟩ rest fr H op.stops := by
  simp only [evalPre1, wantedA, if_true]; cases h : op.stops <;> simp only [stopQ, if_true, if_false, Bool.false_eq_true]
  cases execA noCall fl fr H op <;> rfl
theorem pre1_gate : evalPre1 fl (⟨d, op, some g⟩ :: rest) fr H = gateQ fl ⟨d, op, some g⟩ rest fr H (wantedA fr (some g)) := by
  simp only [evalPre1]
  cases hw : wantedA fr (some g) with
  | true =>
    simp only [if_true, gateQ]; cases h : op.stops <;> simp only [stopQ, if_true, if_false, Bool.false_eq_true]
    cases execA noCall fl fr H op <;> rfl
  | false => simp [gateQ]
theorem qstop_true {o : AOper} : stopQ fl o rest fr H true = .bad := rfl
theorem qstop_false : stopQ fl ⟨d, op, none⟩ rest fr H false = contP fl d rest fr (execA noCall fl fr H op) := rfl
theorem qstopg_false : stopQ fl ⟨d, op, some g⟩ rest fr H false = contP fl d rest fr (execA noCall fl fr H op) := rfl
theorem qgate_true : gateQ fl ⟨d, op, some g⟩ rest fr H true = stopQ fl ⟨d, op, some g⟩ rest fr H op.stops := rfl
theorem qgate_false : gateQ fl ⟨d, op, some g⟩ rest fr H false = evalPre fl rest (putA fr d aundef) H := rfl
theorem pcont_some : contP fl d rest fr (some (v, H)) = evalPre fl rest (putA fr d v) H := rfl
theorem pstop_true {o : AOper} : stopP fl o rest fr H true = .at (o :: rest) fr H := rfl
theorem pstop_false : stopP fl ⟨d, op, none⟩ rest fr H false = contP fl d rest fr (execA noCall fl fr H op) := rfl
theorem pstopg_false : stopP fl ⟨d, op, some g⟩ rest fr H false = contP fl d rest fr (execA noCall fl fr H op) := rfl
theorem pgate_true : gateP fl ⟨d, op, some g⟩ rest fr H true = stopP fl ⟨d, op, some g⟩ rest fr H op.stops := rfl
theorem pgate_false : gateP fl ⟨d, op, some g⟩ rest fr H false = evalPre fl rest (putA fr d aundef) H := rfl
theorem hpre_nil : hPre [] fr H = .at [] fr H := rfl
theorem hpre_cons : hPre (⟨d, op, none⟩ :: rest) fr H = stopHP ⟨d, op, none⟩ rest fr H op.stops := by
  simp only [hPre, wantedA, if_true]; cases h : op.stops <;> simp only [stopHP, if_true, if_false, Bool.false_eq_true]
  cases execA noCall H.length fr H op <;> rfl
theorem hpre_gate : hPre (⟨d, op, some g⟩ :: rest) fr H = gateHP ⟨d, op, some g⟩ rest fr H (wantedA fr (some g)) := by
  simp only [hPre]
  cases hw : wantedA fr (some g) with
  | true =>
    simp only [if_true, gateHP]; cases h : op.stops <;> simp only [stopHP, if_true, if_false, Bool.false_eq_true]
    cases execA noCall H.length fr H op <;> rfl
  | false => simp [gateHP]
theorem hpre1_nil : hPre1 [] fr H = .bad := rfl
theorem hpre1_cons : hPre1 (⟨d, op, none⟩ :: rest) fr H = stopHQ ⟨d, op, none⟩ rest fr H op.stops := by
  simp only [hPre1, wantedA, if_true]; cases h : op.stops <;> simp only [stopHQ, if_true, if_false, Bool.false_eq_true]
  cases execA noCall H.length fr H op <;> rfl
theorem hpre1_gate : hPre1 (⟨d, op, some g⟩ :: rest) fr H = gateHQ ⟨d, op, some g⟩ rest fr H (wantedA fr (some g)) := by
  simp only [hPre1]
  cases hw : wantedA fr (some g) with
  | true =>
    simp only [if_true, gateHQ]; cases h : op.stops <;> simp only [stopHQ, if_true, if_false, Bool.false_eq_true]
    cases execA noCall H.length fr H op <;> rfl
  | false => simp [gateHQ]
theorem hqstop_true {o : AOper} : stopHQ o rest fr H true = .bad := rfl
theorem hqstop_false : stopHQ ⟨d, op, none⟩ rest fr H false = contHP d rest fr (execA noCall H.length fr H op) := rfl
theorem hqstopg_false : stopHQ ⟨d, op, some g⟩ rest fr H false = contHP d rest fr (execA noCall H.length fr H op) := rfl
theorem hqgate_true : gateHQ ⟨d, op, some g⟩ rest fr H true = stopHQ ⟨d, op, some g⟩ rest fr H op.stops := rfl
theorem hqgate_false : gateHQ ⟨d, op, some g⟩ rest fr H false = hPre rest (putA fr d aundef) H := rfl
theorem hpcont_some : contHP d rest fr (some (v, H)) = hPre rest (putA fr d v) H := rfl
theorem hpstop_true {o : AOper} : stopHP o rest fr H true = .at (o :: rest) fr H := rfl
theorem hpstop_false : stopHP ⟨d, op, none⟩ rest fr H false = contHP d rest fr (execA noCall H.length fr H op) := rfl
theorem hpstopg_false : stopHP ⟨d, op, some g⟩ rest fr H false = contHP d rest fr (execA noCall H.length fr H op) := rfl
theorem hpgate_true : gateHP ⟨d, op, some g⟩ rest fr H true = stopHP ⟨d, op, some g⟩ rest fr H op.stops := rfl
theorem hpgate_false : gateHP ⟨d, op, some g⟩ rest fr H false = hPre rest (putA fr d aundef) H := rfl
end

/-- whether a guarded operation is wanted -/
def wantV (x : Option AV) (w : Bool) : Bool := match x with | some (.c (.bool b)) => b == w | _ => false
theorem want_eq {fr : AFrame} {t : Nat} {w : Bool} : wantedA fr (some (t, w)) = wantV fr[t]? w := rfl
theorem wantV_bool {b w : Bool} : wantV (some (.c (.bool b))) w = (b == w) := rfl
theorem wantV_undef {w : Bool} : wantV (some aundef) w = false := rfl

/-- the length of a slice -/
def lenX (H : AHeap) (x : AV) : Option (AV × AHeap) :=
  match x with
  | .c .snil => some (i64 0, H)
  | .c (.slc b _ n _) => (hcells H b).map fun _ => (i64 n, H)
  | _ => none
theorem exec_lenX {call : ACall} {fl : Nat} {fr : AFrame} {H : AHeap} {o : AOpd} : execA call fl fr H (.len false o) = lenX H (o.ev fr) := by
  simp only [execA, stepA, lenX]
  cases o.ev fr with
  | c x => cases x <;> rfl
  | agg l => rfl
  | tup l => rfl
theorem lenX_snil {H : AHeap} : lenX H (.c .snil) = some (.c (.int .i64 0), H) := rfl
theorem lenX_slc {H : AHeap} {b o n z : Nat} : lenX H (.c (.slc b o n z)) = (hcells H b).map fun _ => (.c (.int .i64 (n : Int)), H) := rfl
theorem Rd.len {H : AHeap} {x : Cell} {sz : Nat} {cs : List Cell} (h : Rd H x sz cs) (n : Nat) (hn : cs.length = n * sz) (hz : 0 < sz) : lenX H (.c x) = some (.c (.int .i64 (n : Int)), H) := by
  rcases h with ⟨rfl, rfl⟩ | ⟨s, b, m, rfl, h2, h3⟩
  · obtain rfl : n = 0 := by
      rcases Nat.eq_zero_or_pos n with h | h
      · exact h
      · have := Nat.mul_pos h hz
        simp only [List.length_nil] at hn; omega
    rfl
  · obtain rfl : n = m := Nat.eq_of_mul_eq_mul_right hz (by omega)
    simp only [readN] at h3
    cases hc : hcells H s with
    | none => rw [hc] at h3; cases h3
    | some l => rw [lenX_slc, hc]; rfl
theorem Rd.len1 {H : AHeap} {x : Cell} {cs : List Cell} (h : Rd H x 1 cs) (n : Nat) (hn : cs.length = n) : lenX H (.c x) = some (.c (.int .i64 (n : Int)), H) := h.len n (by omega) (by omega)
theorem Rd.len0 {H : AHeap} {x : Cell} {sz : Nat} {cs : List Cell} (h : Rd H x sz cs) (hn : cs.length = 0) (hz : 0 < sz) : lenX H (.c x) = some (.c (.int .i64 0), H) := h.len 0 (by omega) hz

section
variable {A : Nat → Option AFn} {fl id : Nat} {fr : AFrame} {H : AHeap} {Q : AExit → AFrame → AHeap → Prop}
theorem thenQ_n {b : ACode} (h : AW A fl b fr H Q) : thenQ A fl b Q .normal fr H := h
theorem blockQ_n (h : Q .normal fr H) : blockQ id Q .normal fr H := h
theorem AW_blockS {a b : ACode} (h : AW A fl (.seq a b) fr H (blockQ id Q)) : AW A fl (.block id (.seq a b)) fr H Q := AW_block h
theorem AW_blockR {a : List AOper} (h : AW A fl (.region a) fr H (blockQ id Q)) : AW A fl (.block id (.region a)) fr H Q := AW_block h
theorem AW_blockD3 {a b : List AOper} (h : AW A fl (.draw3 a b) fr H (blockQ id Q)) : AW A fl (.block id (.draw3 a b)) fr H Q := AW_block h
theorem AW_blockD {a b : List AOper} (h : AW A fl (.draw a b) fr H (blockQ id Q)) : AW A fl (.block id (.draw a b)) fr H Q := AW_block h
theorem AW_blockC {c : AOpd} {a b : ACode} (h : AW A fl (.cond c a b) fr H (blockQ id Q)) : AW A fl (.block id (.cond c a b)) fr H Q := AW_block h
end
theorem ret_ok {rs : List ARes} {fr : AFrame} {H : AHeap} {Q : AV → AHeap → Prop} {v : AV} (h : outA fr H rs = some v) (hq : Q v H) : exitQ rs Q .ret fr H := ⟨v, h, hq⟩

/-- a loop that counts up -/
theorem AW_up {A : Nat → Option AFn} {fl : Nat} {c : ACode} {fr : AFrame} {H : AHeap} {Q : AExit → AFrame → AHeap → Prop} (I : Nat → AFrame → AHeap → Prop) (n : Nat) (h0 : I 0 fr H)
    (hr : ∀ i fr H, i ≤ n → I i fr H → AW A fl c fr H (fun e fr' H' => match e with | .normal => i < n ∧ I (i + 1) fr' H' | e => Q e fr' H')) : AW A fl (.loop c) fr H Q := by
  refine AW_loopN (fun m fr H => m ≤ n ∧ I (n - m) fr H) n ⟨Nat.le_refl _, by rw [Nat.sub_self]; exact h0⟩ ?_
  intro m fr H ⟨hm, hI⟩
  refine (hr (n - m) fr H (Nat.sub_le _ _) hI).mono fun e fr' H' h => ?_
  cases e with
  | normal =>
    obtain ⟨h1, h2⟩ := h
    refine ⟨m - 1, by omega, by omega, ?_⟩
    have e : n - (m - 1) = n - m + 1 := by omega
    rw [e]; exact h2
  | exit id => exact h
  | ret => exact h

theorem i64_of {n : Int} (h : -9223372036854775808 ≤ n) (h' : n < 9223372036854775808) : IntKind.i64.wrap n = n := by
  show (if (true && decide (n % (2 ^ 64 : Int) ≥ (2 ^ 63 : Int))) = true then n % (2 ^ 64 : Int) - (2 ^ 64 : Int) else n % (2 ^ 64 : Int)) = n
  simp only [Bool.true_and, decide_eq_true_eq]
  split <;> omega
theorem i64_add {a b : Nat} (h : a + b < 9223372036854775808) : IntKind.i64.wrap ((a : Int) + (b : Int)) = ((a + b : Nat) : Int) := by rw [i64_of (by omega) (by omega)]; omega
theorem i64_succ {a : Nat} (h : a < 9223372036854775807) : IntKind.i64.wrap ((a : Int) + 1) = ((a + 1 : Nat) : Int) := by rw [i64_of (by omega) (by omega)]; omega

theorem nat_0 : ((0 : Nat) : Int) = 0 := rfl
theorem nat_1 : ((1 : Nat) : Int) = 1 := rfl
theorem nat_2 : ((2 : Nat) : Int) = 2 := rfl
theorem nat_3 : ((3 : Nat) : Int) = 3 := rfl
theorem nat_4 : ((4 : Nat) : Int) = 4 := rfl
theorem nat_8 : ((8 : Nat) : Int) = 8 := rfl
theorem nat_16 : ((16 : Nat) : Int) = 16 := rfl
theorem nat_64 : ((64 : Nat) : Int) = 64 := rfl
theorem nat_128 : ((128 : Nat) : Int) = 128 := rfl
end PAbs

/- Lists of cells: bytes, words; a list changed place by place; stores; bits. -/
namespace PAbs
open Go
set_option linter.unusedSimpArgs false
set_option linter.unusedVariables false

/-- the cells of letters -/
def B8 (s : List UInt8) : List Cell := s.map fun u => .int .u8 u.toNat
theorem B8_length {s : List UInt8} : (B8 s).length = s.length := by simp [B8]
theorem B8_append {s t : List UInt8} : B8 (s ++ t) = B8 s ++ B8 t := by simp [B8]
theorem B8_get {s : List UInt8} {i : Nat} {u : UInt8} (h : s[i]? = some u) : (B8 s)[i]? = some (.int .u8 (u.toNat : Int)) := by simp [B8, h]
theorem B8_set {s : List UInt8} {i : Nat} {u : UInt8} : (B8 s).set i (.int .u8 (u.toNat : Int)) = B8 (s.set i u) := by simp [B8, List.map_set]
theorem bytesOf_B8 : ∀ s : List UInt8, bytesOf (B8 s) = some s
  | [] => rfl
  | u :: s => by
    have := bytesOf_B8 s
    simp only [B8, List.map_cons, bytesOf, byteOf] at this ⊢
    rw [this]; simp
theorem B8_of_str (s : List UInt8) : (s.map fun u => Cell.int .u8 (u.toNat : Int)) = B8 s := rfl

/-- a list whose first k places are new -/
def upd {α : Type} (f : Nat → α) (l : List α) : Nat → List α
  | 0 => l
  | k + 1 => (upd f l k).set k (f k)
theorem upd_length {α : Type} {f : Nat → α} {l : List α} : ∀ k, (upd f l k).length = l.length
  | 0 => rfl
  | k + 1 => by simp [upd, upd_length k]
theorem upd_get {α : Type} {f : Nat → α} {l : List α} : ∀ k j, j < l.length → (upd f l k)[j]? = if j < k then some (f j) else l[j]?
  | 0, j, h => by simp [upd]
  | k + 1, j, h => by
    simp only [upd, List.getElem?_set, upd_length]
    by_cases hk : k = j
    · subst hk; rw [if_pos rfl, if_pos h, if_pos (by omega)]
    · rw [if_neg hk, upd_get k j h]
      by_cases hj : j < k
      · rw [if_pos hj, if_pos (by omega)]
      · rw [if_neg hj, if_neg (by omega)]
theorem upd_self {α : Type} {f : Nat → α} {l : List α} (k : Nat) (h : k < l.length) : (upd f l k)[k]? = l[k]? := by rw [upd_get k k h, if_neg (by omega)]
theorem upd_eq {α : Type} {f : Nat → α} {l m : List α} (hl : l.length = m.length) (h : ∀ j, j < m.length → m[j]? = some (f j)) : upd f l m.length = m := by
  apply List.ext_getElem?
  intro j
  rcases Nat.lt_or_ge j m.length with hj | hj
  · rw [upd_get _ j (by omega), if_pos hj, h j hj]
  · rw [List.getElem?_eq_none (by rw [upd_length]; omega), List.getElem?_eq_none hj]

theorem Kept.setB {f b : Nat} {H : AHeap} {y : Blk} (h : f ≤ b) : Kept f H (H.set b y) := ⟨by simp, fun c hc _ => by rw [List.getElem?_set, if_neg (by omega)]⟩

/-- bytes as a text -/
def bsX (H : AHeap) (y : AV) : Option (AV × AHeap) :=
  match y with
  | .c (.str _) => none
  | v => match sliceCells H 1 v with | some cs => (bytesOf cs).map fun l => (.c (.str l), H) | none => none
theorem exec_bsX {call : ACall} {fl : Nat} {fr : AFrame} {H : AHeap} {o : AOpd} : execA call fl fr H (.bytesStr o) = bsX H (o.ev fr) := by simp only [execA, stepA, bsX]; rfl
theorem bsX_rd {H : AHeap} {x : Cell} {s : List UInt8} (h : Rd H x 1 (B8 s)) : bsX H (.c x) = some (.c (.str s), H) := by
  have hc := h.cells
  rcases h with ⟨rfl, h2⟩ | ⟨s', o, n, rfl, h2, h3⟩
  · simp only [bsX, hc, bytesOf_B8]; rfl
  · simp only [bsX, hc, bytesOf_B8]; rfl

/-- append to nothing -/
def appNil (H : AHeap) (z bytes : Nat) (y : AV) : Option (AV × AHeap) :=
  match sliceCells H z y with
  | some news => if news.length * bytes ≤ 140737488355328 then some (.c (.slc H.length 0 (news.length / z) z), H ++ [.own news]) else none
  | none => none
theorem exec_appNil {call : ACall} {fl bytes : Nat} {fr : AFrame} {H : AHeap} {zero : List Cell} {o : AOpd} : execA call fl fr H (.append zero bytes (.k (.c .snil)) o) = appNil H zero.length bytes (o.ev fr) := by
  simp only [execA, stepA, appendA, appNil]
  generalize o.ev fr = y
  cases sliceCells H zero.length y <;> rfl
theorem appNil_one {H : AHeap} {bytes n : Nat} {y : AV} {news : List Cell} (h : sliceCells H 1 y = some news) (hn : news.length = n) (hb : n * bytes ≤ 140737488355328) : appNil H 1 bytes y = some (.c (.slc H.length 0 n 1), H ++ [.own news]) := by
  subst hn; simp only [appNil, h, if_pos hb, Nat.div_one]

/-- a store of one cell -/
def storeX (fl : Nat) (H : AHeap) (a x : AV) : Option (AV × AHeap) :=
  match a, x.cells with
  | .c (.ptr b o), some vs => if vs.length = 1 then (writeN fl H b o vs).map fun H' => (aundef, H') else none
  | _, _ => none
theorem exec_storeX {call : ACall} {fl : Nat} {fr : AFrame} {H : AHeap} {a x : AOpd} : execA call fl fr H (.store 1 a x) = storeX fl H (a.ev fr) (x.ev fr) := by
  simp only [execA, stepA, storeX]; rfl
theorem storeX_own {fl : Nat} {H : AHeap} {b o : Nat} {cs : List Cell} {v : Cell} (hb : hown H b = some cs) (hf : fl ≤ b) (ho : o < cs.length) : storeX fl H (.c (.ptr b o)) (.c v) = some (aundef, H.set b (.own (cs.set o v))) := by
  have e : cs.set o v = cs.take o ++ [v] ++ cs.drop (o + 1) := by rw [List.set_eq_take_append_cons_drop, if_pos ho]; simp
  simp only [storeX, AV.cells, writeN, hb, List.length_cons, List.length_nil, Nat.zero_add, if_true]
  rw [if_pos ⟨hf, by omega⟩, e]; rfl
/-- a store of several cells -/
def storeN (n fl : Nat) (H : AHeap) (a x : AV) : Option (AV × AHeap) :=
  match a, x.cells with
  | .c (.ptr b o), some vs => if vs.length = n then (writeN fl H b o vs).map fun H' => (aundef, H') else none
  | _, _ => none
theorem exec_storeN {call : ACall} {fl n : Nat} {fr : AFrame} {H : AHeap} {a x : AOpd} : execA call fl fr H (.store n a x) = storeN n fl H (a.ev fr) (x.ev fr) := by
  simp only [execA, stepA, storeN]; rfl
theorem storeN_all {n fl : Nat} {H : AHeap} {b : Nat} {cs vs : List Cell} (hb : hown H b = some cs) (hf : fl ≤ b) (hc : cs.length = n) (hv : vs.length = n) : storeN n fl H (.c (.ptr b 0)) (.agg vs) = some (aundef, H.set b (.own vs)) := by
  simp only [storeN, AV.cells, writeN, hb, hv, if_true]
  rw [if_pos ⟨hf, by omega⟩, List.drop_eq_nil_of_le (by omega)]; simp

theorem Rd.full {H : AHeap} {u o n sz : Nat} {cs : List Cell} (h : Rd H (.slc u o n sz) sz cs) : ∃ full, hcells H u = some full ∧ cs.length = n * sz ∧ o + n * sz ≤ full.length ∧ cs = (full.drop o).take (n * sz) := by
  rcases h with ⟨h, _⟩ | ⟨s, o', n', e, h2, h3⟩
  · cases h
  · cases e
    simp only [readN] at h3
    cases hc : hcells H u with
    | none => rw [hc] at h3; cases h3
    | some l =>
      rw [hc] at h3
      simp only at h3
      split at h3
      · exact ⟨l, rfl, h2, by assumption, (Option.some.inj h3).symm⟩
      · cases h3
theorem Rd.of_full {H : AHeap} {u o n sz : Nat} {full cs : List Cell} (hc : hcells H u = some full) (hl : o + n * sz ≤ full.length) (he : cs = (full.drop o).take (n * sz)) : Rd H (.slc u o n sz) sz cs := by
  refine .inr ⟨u, o, n, rfl, ?_, ?_⟩
  · rw [he, List.length_take, List.length_drop]; omega
  · simp only [readN, hc, he]; rw [if_pos hl]
/-- a part of a slice -/
theorem Rd.sub {H : AHeap} {u o n sz i j : Nat} {cs : List Cell} (h : Rd H (.slc u o n sz) sz cs) (hij : i ≤ j) (hj : j ≤ n) : Rd H (.slc u (o + i * sz) (j - i) sz) sz ((cs.drop (i * sz)).take ((j - i) * sz)) := by
  obtain ⟨full, hc, hl, ho, he⟩ := h.full
  have h1 : j * sz ≤ n * sz := Nat.mul_le_mul_right _ hj
  have h2 : (j - i) * sz + i * sz = j * sz := by rw [← Nat.add_mul]; congr 1; omega
  refine Rd.of_full hc (by omega) ?_
  rw [he, List.drop_take, List.take_take, List.drop_drop]
  congr 1; omega

theorem xor_of {k : IntKind} (hs : k.signed = false) {a b : Nat} (ha : a < 2 ^ k.bits) (hb : b < 2 ^ k.bits) : bitsA .xor k (a : Int) (b : Int) = ((a ^^^ b : Nat) : Int) := by
  have h : a ^^^ b < 2 ^ k.bits := Nat.xor_lt_two_pow ha hb
  simp only [bitsA, IntKind.wrap, hs, Bool.false_and, Bool.false_eq_true, if_false, BitVec.ofInt_natCast, BitVec.toNat_xor, BitVec.toNat_ofNat, Nat.mod_eq_of_lt ha, Nat.mod_eq_of_lt hb]
  have : ((2 : Int) ^ k.bits) = ((2 ^ k.bits : Nat) : Int) := by simp
  rw [this, ← Int.natCast_emod, Nat.mod_eq_of_lt h]
theorem and_of {k : IntKind} (hs : k.signed = false) {a b : Nat} (ha : a < 2 ^ k.bits) (hb : b < 2 ^ k.bits) : bitsA .and k (a : Int) (b : Int) = ((a &&& b : Nat) : Int) := by
  have h : a &&& b < 2 ^ k.bits := Nat.and_lt_two_pow _ hb
  simp only [bitsA, IntKind.wrap, hs, Bool.false_and, Bool.false_eq_true, if_false, BitVec.ofInt_natCast, BitVec.toNat_and, BitVec.toNat_ofNat, Nat.mod_eq_of_lt ha, Nat.mod_eq_of_lt hb]
  have : ((2 : Int) ^ k.bits) = ((2 ^ k.bits : Nat) : Int) := by simp
  rw [this, ← Int.natCast_emod, Nat.mod_eq_of_lt h]
theorem xor_byte (a b : UInt8) : bitsA .xor .u8 (a.toNat : Int) (b.toNat : Int) = (((a ^^^ b : UInt8)).toNat : Int) := by
  rw [xor_of rfl a.toNat_lt b.toNat_lt, UInt8.toNat_xor]

theorem tmod_nat {a b : Nat} : Int.tmod (a : Int) (b : Int) = ((a % b : Nat) : Int) := by rw [← Int.ofNat_tmod]
theorem tdiv_nat {a b : Nat} : Int.tdiv (a : Int) (b : Int) = ((a / b : Nat) : Int) := by rw [← Int.ofNat_tdiv]
end PAbs

/- What a call changed: all but some blocks stand as they stood. -/
namespace PAbs
open Go
set_option linter.unusedSimpArgs false
set_option linter.unusedVariables false

def Chg (S : Nat → Prop) (H H' : AHeap) : Prop := H.length ≤ H'.length ∧ ∀ b, b < H.length → ¬ S b → H'[b]? = H[b]?
def none_ : Nat → Prop := fun _ => False
/-- the block of a slice -/
def inX (x : Cell) (b : Nat) : Prop := ∃ o n z, x = .slc b o n z

section
variable {S T : Nat → Prop} {H H1 H2 H' l : AHeap} {b : Nat} {cs : List Cell} {x : Cell} {sz : Nat}
theorem Chg.refl (S : Nat → Prop) (H : AHeap) : Chg S H H := ⟨Nat.le_refl _, fun _ _ _ => rfl⟩
theorem Chg.trans (h : Chg S H H1) (h2 : Chg T H1 H2) (ht : ∀ b, b < H.length → T b → S b) : Chg S H H2 :=
  ⟨Nat.le_trans h.1 h2.1, fun b hb hs => by rw [h2.2 b (Nat.lt_of_lt_of_le hb h.1) (fun t => hs (ht b hb t)), h.2 b hb hs]⟩
theorem Chg.mono (h : Chg S H H') (hs : ∀ b, b < H.length → S b → T b) : Chg T H H' := ⟨h.1, fun b hb ht => h.2 b hb fun s => ht (hs b hb s)⟩
theorem Chg.push (S : Nat → Prop) (H l : AHeap) : Chg S H (H ++ l) := ⟨by simp, fun b h _ => by simp [List.getElem?_append, h]⟩
theorem Chg.set {y : Blk} (hs : S b) : Chg S H (H.set b y) := ⟨by simp, fun c h hc => by
  rw [List.getElem?_set, if_neg (fun e => hc (by rw [← e]; exact hs))]⟩
theorem Chg.hown (h : Chg S H H') (hs : ¬ S b) (ho : PAbs.hown H b = some cs) : PAbs.hown H' b = some cs := by
  have hb := hown_lt ho
  simp only [PAbs.hown, h.2 b hb hs] at ho ⊢; exact ho
theorem Chg.hcells (h : Chg S H H') (hs : ¬ S b) (ho : PAbs.hcells H b = some cs) : PAbs.hcells H' b = some cs := by
  have hb := hcells_lt ho
  simp only [PAbs.hcells, h.2 b hb hs] at ho ⊢; exact ho
theorem Chg.of_kept (h : Kept H.length H H') : Chg none_ H H' := ⟨h.1, fun b hb _ => h.2 b hb hb⟩
theorem Chg.kept (h : Chg none_ H H') : Kept H.length H H' := ⟨h.1, fun b hb _ => h.2 b hb (fun f => f)⟩
theorem Rd.chg (h : Rd H x sz cs) (hc : Chg S H H') (hs : ∀ b, inX x b → ¬ S b) : Rd H' x sz cs := by
  rcases h with h | ⟨s, o, n, h1, h2, h3⟩
  · exact .inl h
  · refine .inr ⟨s, o, n, h1, h2, ?_⟩
    simp only [readN] at h3 ⊢
    cases hl : PAbs.hcells H s with
    | none => rw [hl] at h3; cases h3
    | some l => rw [hc.hcells (hs s ⟨o, n, sz, h1⟩) hl]; rw [hl] at h3; exact h3
theorem Own.chg {f : Nat} (h : Own f H x sz cs) (hc : Chg S H H') (hs : ∀ b, inX x b → ¬ S b) : Own f H' x sz cs := by
  rcases h with h | ⟨s, n, h1, h2, h3, h4⟩
  · exact .inl h
  · exact .inr ⟨s, n, h1, h2, h3, hc.hown (hs s ⟨_, _, _, h1⟩) h4⟩
theorem Own.le {f : Nat} (h : Own f H x sz cs) (hi : inX x b) : f ≤ b := by
  obtain ⟨o, n, z, rfl⟩ := hi
  rcases h with ⟨h, _⟩ | ⟨s, n, h1, h2, h3, h4⟩
  · cases h
  · cases h1; exact h3
theorem Own.lt' {f : Nat} (h : Own f H x sz cs) (hi : inX x b) : b < H.length := by
  obtain ⟨o, n, z, rfl⟩ := hi; exact h.lt
theorem Rd.lt (h : Rd H x sz cs) (hi : inX x b) : b < H.length := by
  obtain ⟨o, n, z, rfl⟩ := hi
  rcases h with ⟨h, _⟩ | ⟨s, o', n', h1, h2, h3⟩
  · cases h
  · cases h1
    simp only [readN] at h3
    cases hl : PAbs.hcells H b with
    | none => rw [hl] at h3; cases h3
    | some l => exact hcells_lt hl
end

/-- a slice that ends where its block ends, which is one's own -/
def OwnT (f : Nat) (H : AHeap) (x : Cell) (sz : Nat) (cs : List Cell) : Prop := (x = .snil ∧ cs = []) ∨ ∃ s o n full, x = .slc s o n sz ∧ cs.length = n * sz ∧ f ≤ s ∧ hown H s = some full ∧ o + n * sz = full.length ∧ cs = full.drop o
theorem Own.t {f : Nat} {H : AHeap} {x : Cell} {sz : Nat} {cs : List Cell} (h : Own f H x sz cs) : OwnT f H x sz cs := by
  rcases h with h | ⟨s, n, h1, h2, h3, h4⟩
  · exact .inl h
  · exact .inr ⟨s, 0, n, cs, h1, h2, h3, h4, by omega, rfl⟩
theorem OwnT.rd {f : Nat} {H : AHeap} {x : Cell} {sz : Nat} {cs : List Cell} (h : OwnT f H x sz cs) : Rd H x sz cs := by
  rcases h with h | ⟨s, o, n, full, rfl, h2, h3, h4, h5, h6⟩
  · exact .inl h
  · refine Rd.of_full (hcells_own h4) (by omega) ?_
    rw [List.take_of_length_le (by rw [List.length_drop]; omega)]; exact h6
theorem OwnT.chg {S : Nat → Prop} {H H' : AHeap} {f sz : Nat} {x : Cell} {cs : List Cell} (h : OwnT f H x sz cs) (hc : Chg S H H') (hs : ∀ b, inX x b → ¬ S b) : OwnT f H' x sz cs := by
  rcases h with h | ⟨s, o, n, full, h1, h2, h3, h4, h5, h6⟩
  · exact .inl h
  · exact .inr ⟨s, o, n, full, h1, h2, h3, hc.hown (hs s ⟨_, _, _, h1⟩) h4, h5, h6⟩

theorem exec_appendT {call : ACall} {fl f sz bytes : Nat} {fr : AFrame} {H : AHeap} {x : Cell} {y : AV} {cs news zero : List Cell} {o1 o2 : AOpd} (hx : OwnT f H x sz cs) (hy : sliceCells H sz y = some news) (hz : zero.length = sz) (hsz : 0 < sz) (hn : news.length % sz = 0) (hf : fl ≤ f) (hfH : f ≤ H.length)
    (hb : (cs.length + news.length) * bytes ≤ 140737488355328) (h1 : o1.ev fr = .c x) (h2 : o2.ev fr = y) :
    ∃ x' H', execA call fl fr H (.append zero bytes o1 o2) = some (.c x', H') ∧ Own f H' x' sz (cs ++ news) ∧ Chg (inX x) H H' ∧ ∃ n', x' = .slc H.length 0 n' sz := by
  have hdiv : news.length = news.length / sz * sz := by
    have := Nat.div_add_mod news.length sz; rw [hn, Nat.add_zero, Nat.mul_comm] at this; exact this.symm
  rcases hx with ⟨rfl, rfl⟩ | ⟨s, o, n, full, rfl, hl, hs, ho, hof, rfl⟩
  · have hb' : news.length * bytes ≤ 140737488355328 := by simpa using hb
    refine ⟨.slc H.length 0 (news.length / sz) sz, H ++ [.own news], ?_, .inr ⟨H.length, news.length / sz, rfl, by simpa using hdiv, hfH, hown_last⟩, Chg.push _ _ _, _, rfl⟩
    simp only [execA, stepA, h1, h2, appendA, hz, hy, hb', if_true]
  · have ls := hown_lt ho
    have hb' : (n * sz + news.length) * bytes ≤ 140737488355328 := by rw [← hl]; exact hb
    refine ⟨.slc H.length 0 (n + news.length / sz) sz, H.set s .dead ++ [.own (full.drop o ++ news)], ?_, .inr ⟨H.length, _, rfl, ?_, hfH, ?_⟩, ⟨by simp, fun b hb1 hb2 => ?_⟩, _, rfl⟩
    · simp only [execA, stepA, h1, h2, appendA, hz, hy, ho]
      rw [if_pos ⟨by omega, by first | rfl | trivial, by omega, hb'⟩]
    · simp only [List.length_append, Nat.add_mul, ← hdiv, hl]
    · have := hown_last (H := H.set s .dead) (cs := full.drop o ++ news)
      simpa using this
    · have hne : s ≠ b := fun e => hb2 ⟨o, n, sz, by rw [e]⟩
      rw [List.getElem?_append, if_pos (by simpa using hb1), List.getElem?_set, if_neg hne]
/-- append to a slice that ends where its block ends; the new one lies in the newest block -/
theorem AO_appendT {A : Nat → Option AFn} {fl f sz bytes : Nat} {fr : AFrame} {H : AHeap} {x : Cell} {y : AV} {cs news zero : List Cell} {o1 o2 : AOpd} {d : Option Nat} {rest : List AOper} {Q : AFrame → AHeap → Prop} (hx : OwnT f H x sz cs) (hy : sliceCells H sz y = some news) (hz : zero.length = sz) (hsz : 0 < sz) (hn : news.length % sz = 0) (hf : fl ≤ f) (hfH : f ≤ H.length)
    (hb : (cs.length + news.length) * bytes ≤ 140737488355328) (h1 : o1.ev fr = .c x) (h2 : o2.ev fr = y)
    (h : ∀ q n' H', q = H.length → Own f H' (.slc q 0 n' sz) sz (cs ++ news) → Chg (inX x) H H' → AO A fl rest (putA fr d (.c (.slc q 0 n' sz))) H' Q) : AO A fl (⟨d, .append zero bytes o1 o2, none⟩ :: rest) fr H Q := by
  obtain ⟨x', H', e, h3, h4, n', rfl⟩ := exec_appendT (call := noCall) hx hy hz hsz hn hf hfH hb h1 h2
  exact AO_step rfl e (h _ n' H' rfl h3 h4)

theorem OwnT.floor {f g : Nat} {H : AHeap} {x : Cell} {sz : Nat} {cs : List Cell} (h : OwnT f H x sz cs) (hg : ∀ b, inX x b → g ≤ b) : OwnT g H x sz cs := by
  rcases h with h | ⟨s, o, n, full, h1, h2, h3, h4, h5, h6⟩
  · exact .inl h
  · exact .inr ⟨s, o, n, full, h1, h2, hg s ⟨_, _, _, h1⟩, h4, h5, h6⟩
theorem OwnT.le {f b : Nat} {H : AHeap} {x : Cell} {sz : Nat} {cs : List Cell} (h : OwnT f H x sz cs) (hi : inX x b) : f ≤ b := by
  obtain ⟨o, n, z, rfl⟩ := hi
  rcases h with ⟨h, _⟩ | ⟨s, o', n', full, h1, h2, h3, h4, h5, h6⟩
  · cases h
  · cases h1; exact h3
theorem OwnT.lt {f b : Nat} {H : AHeap} {x : Cell} {sz : Nat} {cs : List Cell} (h : OwnT f H x sz cs) (hi : inX x b) : b < H.length := h.rd.lt hi
theorem OwnT.nil {f : Nat} {H : AHeap} {sz : Nat} : OwnT f H .snil sz [] := .inl ⟨rfl, rfl⟩
theorem OwnT.last {f n sz : Nat} {H : AHeap} {cs : List Cell} (hf : f ≤ H.length) (hn : cs.length = n * sz) : OwnT f (H ++ [.own cs]) (.slc H.length 0 n sz) sz cs := .inr ⟨_, 0, n, cs, rfl, hn, hf, hown_last, by omega, rfl⟩
/-- what is left behind the first places -/
theorem OwnT.drop {f s o n : Nat} {H : AHeap} {cs : List Cell} (h : OwnT f H (.slc s o n 1) 1 cs) {k : Nat} (hk : k ≤ n) : OwnT f H (.slc s (o + k) (n - k) 1) 1 (cs.drop k) := by
  rcases h with ⟨h, _⟩ | ⟨s', o', n', full, h1, h2, h3, h4, h5, h6⟩
  · cases h
  · cases h1
    refine .inr ⟨_, _, _, full, rfl, ?_, h3, h4, by omega, ?_⟩
    · rw [List.length_drop]; omega
    · rw [h6, List.drop_drop]
theorem OwnT.slc {f : Nat} {H : AHeap} {x : Cell} {cs : List Cell} (h : OwnT f H x 1 cs) (h0 : 0 < cs.length) : ∃ s o full, x = .slc s o cs.length 1 ∧ hown H s = some full ∧ o + cs.length = full.length ∧ cs = full.drop o := by
  rcases h with ⟨_, h⟩ | ⟨s, o, n, full, h1, h2, h3, h4, h5, h6⟩
  · rw [h] at h0; simp at h0
  · obtain rfl : n = cs.length := by omega
    exact ⟨s, o, full, h1, h4, by omega, h6⟩
theorem inX_slc {s o n z b : Nat} : inX (.slc s o n z) b ↔ b = s := ⟨fun ⟨_, _, _, h⟩ => by cases h; rfl, fun h => ⟨o, n, z, by rw [h]⟩⟩
theorem inX_snil {b : Nat} : ¬ inX .snil b := fun ⟨_, _, _, h⟩ => by cases h

/-- a slice of slices of bytes, all one's own -/
def BB (n : Nat) (H : AHeap) (y : Cell) (zs : List Cell) (bs : List (List UInt8)) : Prop := OwnT n H y 1 zs ∧ zs.length = bs.length ∧ ∀ (i : Nat) (z : Cell) (b : List UInt8), zs[i]? = some z → bs[i]? = some b → OwnT n H z 1 (B8 b)
def inB (y : Cell) (zs : List Cell) (b : Nat) : Prop := inX y b ∨ ∃ z ∈ zs, inX z b
theorem BB.nil {n : Nat} {H : AHeap} : BB n H .snil [] [] := ⟨OwnT.nil, rfl, fun i z b h => by simp at h⟩
theorem BB.chg {S : Nat → Prop} {n : Nat} {H H' : AHeap} {y : Cell} {zs : List Cell} {bs : List (List UInt8)} (h : BB n H y zs bs) (hc : Chg S H H') (hs : ∀ b, inB y zs b → ¬ S b) : BB n H' y zs bs :=
  ⟨h.1.chg hc fun b hb => hs b (.inl hb), h.2.1, fun i z b h1 h2 => (h.2.2 i z b h1 h2).chg hc fun c hc' => hs c (.inr ⟨z, List.mem_of_getElem? h1, hc'⟩)⟩
theorem BB.lt {n b : Nat} {H : AHeap} {y : Cell} {zs : List Cell} {bs : List (List UInt8)} (h : BB n H y zs bs) (hb : inB y zs b) : b < H.length := by
  rcases hb with hb | ⟨z, hz, hb⟩
  · exact h.1.lt hb
  · obtain ⟨i, hi, rfl⟩ := List.mem_iff_getElem.mp hz
    have hi' : i < bs.length := by rw [← h.2.1]; exact hi
    exact (h.2.2 i _ _ (List.getElem?_eq_getElem hi) (List.getElem?_eq_getElem hi')).lt hb
theorem BB.le {n b : Nat} {H : AHeap} {y : Cell} {zs : List Cell} {bs : List (List UInt8)} (h : BB n H y zs bs) (hb : inB y zs b) : n ≤ b := by
  rcases hb with hb | ⟨z, hz, hb⟩
  · exact h.1.le hb
  · obtain ⟨i, hi, rfl⟩ := List.mem_iff_getElem.mp hz
    have hi' : i < bs.length := by rw [← h.2.1]; exact hi
    exact (h.2.2 i _ _ (List.getElem?_eq_getElem hi) (List.getElem?_eq_getElem hi')).le hb
/-- one more behind -/
theorem BB.snoc {n : Nat} {H : AHeap} {y' z : Cell} {zs : List Cell} {bs : List (List UInt8)} {b : List UInt8} (h : ∀ (i : Nat) (z : Cell) (b : List UInt8), zs[i]? = some z → bs[i]? = some b → OwnT n H z 1 (B8 b)) (hl : zs.length = bs.length) (hy : OwnT n H y' 1 (zs ++ [z])) (hz : OwnT n H z 1 (B8 b)) : BB n H y' (zs ++ [z]) (bs ++ [b]) := by
  refine ⟨hy, by simp [hl], fun i w c h1 h2 => ?_⟩
  rw [List.getElem?_append] at h1 h2
  by_cases hi : i < zs.length
  · rw [if_pos hi] at h1; rw [if_pos (by omega)] at h2; exact h i w c h1 h2
  · rw [if_neg hi] at h1; rw [if_neg (by omega)] at h2
    have h0 : i - zs.length = 0 := by have := (List.getElem?_eq_some_iff.mp h1).1; simp at this; omega
    have h0' : i - bs.length = 0 := by omega
    rw [h0] at h1; rw [h0'] at h2
    simp at h1 h2
    subst h1 h2; exact hz

/-- a part of a slice -/
def sliceX (sz' : Nat) (H : AHeap) (x : AV) (lo hi : Option AV) : Option (AV × AHeap) :=
  match x with
  | .c (.slc b o n sz) =>
    match hiA hi n, loA lo with
    | some h, some l => if sz = sz' ∧ l ≤ h then (hcells H b).map fun _ => (.c (.slc b (o + l * sz) (h - l) sz), H) else none
    | _, _ => none
  | .c .snil =>
    match hiA hi 0, loA lo with
    | some _, some l => if l ≤ 0 then some (.c .snil, H) else none
    | _, _ => none
  | _ => none
theorem exec_sliceX {call : ACall} {fl sz : Nat} {fr : AFrame} {H : AHeap} {x : AOpd} {lo hi : Option AOpd} : execA call fl fr H (.sliceS sz x lo hi) = sliceX sz H (x.ev fr) (lo.map (·.ev fr)) (hi.map (·.ev fr)) := by
  simp only [execA, stepA, sliceX]; rfl
/-- from a place on -/
theorem Rd.slice_from {H : AHeap} {x : Cell} {cs : List Cell} (h : Rd H x 1 cs) {k : Nat} (hk : k ≤ cs.length) : ∃ x', sliceX 1 H (.c x) (some (.c (.int .i64 (k : Int)))) none = some (.c x', H) ∧ Rd H x' 1 (cs.drop k) ∧ (∀ b, inX x' b → inX x b) := by
  have h3 : (0 : Int) ≤ (k : Int) := by omega
  rcases h with ⟨rfl, rfl⟩ | ⟨s, o, n, rfl, hn, hr⟩
  · obtain rfl : k = 0 := by simpa using hk
    exact ⟨.snil, rfl, .inl ⟨rfl, rfl⟩, fun _ h => h⟩
  · have hR : Rd H (.slc s o n 1) 1 cs := .inr ⟨s, o, n, rfl, hn, hr⟩
    obtain ⟨full, hc, _, _, _⟩ := hR.full
    refine ⟨.slc s (o + k * 1) (n - k) 1, ?_, ?_, fun b hb => by rw [inX_slc] at hb ⊢; exact hb⟩
    · simp only [sliceX, hiA, loA, h3, if_true, Int.toNat_natCast, hc]
      rw [if_pos ⟨trivial, by omega⟩]; rfl
    · have := hR.sub (i := k) (j := n) (by omega) (Nat.le_refl _)
      rw [Nat.mul_one, Nat.mul_one, List.take_of_length_le (by rw [List.length_drop]; omega)] at this
      rw [Nat.mul_one]; exact this

/-! a block that is changed over and over: the heap is 'H.set p ..' -/
theorem set_id {H : AHeap} {p : Nat} {cs : List Cell} (h : hown H p = some cs) : H = H.set p (.own cs) := by
  have hp := hown_lt h
  apply List.ext_getElem?
  intro i
  rw [List.getElem?_set]
  by_cases e : p = i
  · subst e
    rw [if_pos rfl, if_pos hp]
    simp only [hown] at h
    split at h
    · rename_i hb; rw [hb]; cases h; rfl
    · cases h
  · rw [if_neg e]
theorem hcells_setS {H : AHeap} {p : Nat} {cs : List Cell} (hp : p < H.length) : hcells (H.set p (.own cs)) p = some cs := hcells_set hp
theorem storeX_setS {fl : Nat} {H : AHeap} {p o : Nat} {cs : List Cell} {v : Cell} (hp : p < H.length) (hf : fl ≤ p) (ho : o < cs.length) : storeX fl (H.set p (.own cs)) (.c (.ptr p o)) (.c v) = some (aundef, H.set p (.own (cs.set o v))) := by
  rw [storeX_own (hown_set hp) hf ho, List.set_set]

theorem set_last {H : AHeap} {x y : Blk} : (H ++ [x]).set H.length y = H ++ [y] := by
  rw [List.set_append_right _ _ (Nat.le_refl _), Nat.sub_self]; rfl
theorem storeN_last {n fl : Nat} {H : AHeap} {cs vs : List Cell} (hf : fl ≤ H.length) (hc : cs.length = n) (hv : vs.length = n) : storeN n fl (H ++ [.own cs]) (.c (.ptr H.length 0)) (.agg vs) = some (aundef, H ++ [.own vs]) := by
  rw [storeN_all hown_last hf hc hv, set_last]
theorem rep_len {α : Type} {n : Nat} {x : α} : (rep n x).length = n := by simp [rep]
theorem rep_4 {α : Type} {x : α} : rep 4 x = [x, x, x, x] := rfl
end PAbs

/- More facts for walks: copy; parts of lists; blocks of several cells. -/
namespace PAbs
open Go
set_option linter.unusedSimpArgs false
set_option linter.unusedVariables false

/-- copy -/
def copyX (sz fl : Nat) (H : AHeap) (d s : AV) : Option (AV × AHeap) :=
  match d, lenA s, sliceCells H sz s with
  | .c (.slc b o n sz'), some m, some cs => if sz' = sz then (writeN fl H b o (cs.take (min m n * sz))).map fun H' => (i64 (min m n : Nat), H') else none
  | _, _, _ => none
theorem exec_copyX {call : ACall} {fl sz : Nat} {fr : AFrame} {H : AHeap} {d s : AOpd} : execA call fl fr H (.copy sz d s) = copyX sz fl H (d.ev fr) (s.ev fr) := by
  simp only [execA, stepA, copyX]; rfl
theorem Rd.lenA {H : AHeap} {x : Cell} {cs : List Cell} (h : Rd H x 1 cs) : lenA (.c x) = some cs.length := by
  rcases h with ⟨rfl, rfl⟩ | ⟨s, o, n, rfl, h2, _⟩
  · rfl
  · simp only [PAbs.lenA]; rw [h2, Nat.mul_one]
theorem copyX_own {fl : Nat} {H : AHeap} {b o n k : Nat} {cs ns : List Cell} {x : Cell} (hb : hown H b = some cs) (hf : fl ≤ b) (hx : Rd H x 1 ns) (hk : min ns.length n = k) (ho : o + k ≤ cs.length) :
    copyX 1 fl H (.c (.slc b o n 1)) (.c x) = some (.c (.int .i64 (k : Int)), H.set b (.own (cs.take o ++ ns.take k ++ cs.drop (o + k)))) := by
  have hl : (ns.take k).length = k := by rw [List.length_take]; omega
  simp only [copyX, hx.lenA, hx.cells, if_true, Nat.mul_one, hk, writeN, hb, hl]
  rw [if_pos ⟨hf, ho⟩]; rfl

/-- a list with a part put in -/
def putL {α : Type} (l : List α) (o : Nat) (m : List α) : List α := l.take o ++ m ++ l.drop (o + m.length)
theorem putL_length {α : Type} {l m : List α} {o : Nat} (h : o + m.length ≤ l.length) : (putL l o m).length = l.length := by
  simp only [putL, List.length_append, List.length_take, List.length_drop]; omega
theorem putL_get {α : Type} {l m : List α} {o j : Nat} (h : o + m.length ≤ l.length) : (putL l o m)[j]? = if o ≤ j ∧ j < o + m.length then m[j - o]? else l[j]? := by
  have ht : (l.take o).length = o := by rw [List.length_take]; omega
  simp only [putL, List.getElem?_append, List.length_append, ht]
  by_cases h1 : j < o
  · rw [if_pos (by omega), if_pos h1, if_neg (by omega), List.getElem?_take, if_pos h1]
  · by_cases h2 : j < o + m.length
    · rw [if_pos h2, if_neg h1, if_pos ⟨by omega, h2⟩]
    · rw [if_neg h2, if_neg (by omega), List.getElem?_drop]
      congr 1; omega
theorem putL_map {α β : Type} {f : α → β} {l m : List α} {o : Nat} : putL (l.map f) o (m.map f) = (putL l o m).map f := by simp [putL]

/-- parts put together -/
def joinN {α : Type} (f : Nat → List α) : Nat → List α
  | 0 => []
  | n + 1 => joinN f n ++ f n
theorem joinN_length {α : Type} {f : Nat → List α} {k : Nat} (h : ∀ i, (f i).length = k) : ∀ n, (joinN f n).length = n * k
  | 0 => by simp [joinN]
  | n + 1 => by simp [joinN, joinN_length h n, h, Nat.add_mul]
theorem joinN_get {α : Type} {f : Nat → List α} {k : Nat} (h : ∀ i, (f i).length = k) : ∀ n j q, j < n → q < k → (joinN f n)[k * j + q]? = (f j)[q]?
  | 0, j, q, hj, _ => by omega
  | n + 1, j, q, hj, hq => by
    have hl := joinN_length h n
    simp only [joinN, List.getElem?_append, hl]
    have e := Nat.mul_comm n k
    rcases Nat.lt_or_ge j n with hj' | hj'
    · have h2 : k * j + k ≤ k * n := by rw [← Nat.mul_succ]; exact Nat.mul_le_mul_left _ hj'
      rw [if_pos (by omega)]
      exact joinN_get h n j q hj' hq
    · obtain rfl : j = n := by omega
      rw [if_neg (by omega)]
      congr 1; omega
theorem getD_of_get {α : Type} {l m : List α} {i j : Nat} {d : α} (h : l[i]? = m[j]?) : l.getD i d = m.getD j d := by rw [List.getD_eq_getElem?_getD, List.getD_eq_getElem?_getD, h]
theorem take_one' {α : Type} {l : List α} {i : Nat} {x : α} (h : l[i]? = some x) : l.take (i + 1) = l.take i ++ [x] := by rw [List.take_add_one, h]; rfl

/-- a place of a slice of one-cell elements, for facts -/
theorem Rd.at1 {H : AHeap} {u o n z : Nat} {cs : List Cell} (h : Rd H (.slc u o n z) 1 cs) (i : Nat) (hi : i < cs.length) : ∃ full, hcells H u = some full ∧ full[o + i]? = cs[i]? ∧ n = cs.length ∧ z = 1 := by
  obtain ⟨u', o', full, e, h1, h2⟩ := h.get hi
  cases e
  exact ⟨full, h1, h2, rfl, rfl⟩
/-- a slice of one's own -/
theorem Rd.all {H : AHeap} {b n : Nat} {cs : List Cell} (h : hcells H b = some cs) (hn : cs.length = n) : Rd H (.slc b 0 n 1) 1 cs := by
  subst hn; exact .inr ⟨b, 0, _, rfl, by omega, by rw [Nat.mul_one]; exact readN_all h⟩

theorem sliceX_from {H : AHeap} {b o n k sz : Nat} {cs : List Cell} (hb : hcells H b = some cs) (hk : k ≤ n) : sliceX sz H (.c (.slc b o n sz)) (some (.c (.int .i64 (k : Int)))) none = some (.c (.slc b (o + k * sz) (n - k) sz), H) := by
  have h3 : (0 : Int) ≤ (k : Int) := by omega
  simp only [sliceX, hiA, loA, h3, if_true, Int.toNat_natCast, hb]
  rw [if_pos ⟨trivial, by omega⟩]; rfl
theorem sliceX_to {H : AHeap} {b o n k sz : Nat} {cs : List Cell} (hb : hcells H b = some cs) (hk : k ≤ n) : sliceX sz H (.c (.slc b o n sz)) none (some (.c (.int .i64 (k : Int)))) = some (.c (.slc b o k sz), H) := by
  have h3 : (0 : Int) ≤ (k : Int) := by omega
  have h4 : (k : Int) ≤ (n : Int) := by omega
  simp only [sliceX, hiA, loA, h3, h4, and_self, if_true, Int.toNat_natCast, hb, Nat.zero_mul, Nat.add_zero, Nat.sub_zero]
  rw [if_pos ⟨trivial, by omega⟩]; rfl
theorem sliceX_part {H : AHeap} {b o n i j sz : Nat} {cs : List Cell} (hb : hcells H b = some cs) (hi : i ≤ j) (hj : j ≤ n) : sliceX sz H (.c (.slc b o n sz)) (some (.c (.int .i64 (i : Int)))) (some (.c (.int .i64 (j : Int)))) = some (.c (.slc b (o + i * sz) (j - i) sz), H) := by
  have h3 : (0 : Int) ≤ (i : Int) := by omega
  have h5 : (0 : Int) ≤ (j : Int) := by omega
  have h4 : (j : Int) ≤ (n : Int) := by omega
  simp only [sliceX, hiA, loA, h3, h4, h5, and_self, if_true, Int.toNat_natCast, hb]
  rw [if_pos ⟨trivial, by omega⟩]; rfl
end PAbs

/- Steps that go on until one lacks a fact, and stand there: the operation's value is an open term. -/
namespace PAbs
open Go
set_option linter.unusedSimpArgs false
set_option linter.unusedVariables false

theorem exec_same {fl : Nat} {fr : AFrame} {H : AHeap} {p : AOp} (call : ACall) (h : p.stops = false) : execA call fl fr H p = execA noCall fl fr H p := by
  cases p <;> first | rfl | (simp [AOp.stops] at h)

/-- what a row of steps comes to -/
def atOps (call : ACall) (fl : Nat) : Pre → Option (AFrame × AHeap)
  | .at o f h => evalOps call fl o f h
  | .bad => none
def atHead (call : ACall) : Pre → Option (AFrame × AHeap)
  | .at o f h => evalHead call o f h
  | .bad => none
theorem evalPre_ops (call : ACall) {fl : Nat} : ∀ (ops : List AOper) (fr : AFrame) (H : AHeap), evalOps call fl ops fr H = atOps call fl (evalPre fl ops fr H)
  | [], fr, H => rfl
  | o :: r, fr, H => by
    simp only [evalPre]
    cases hw : wantedA fr o.guard with
    | true =>
      cases hs : o.op.stops with
      | true => simp only [if_true, atOps]
      | false =>
        simp only [evalOps, hw, if_true, Bool.false_eq_true, if_false, exec_same call hs]
        cases hx : execA noCall fl fr H o.op with
        | none => rfl
        | some y => obtain ⟨v, H'⟩ := y; exact evalPre_ops call r _ _
    | false =>
      simp only [evalOps, hw, Bool.false_eq_true, if_false]
      exact evalPre_ops call r _ _
theorem hPre_head (call : ACall) : ∀ (ops : List AOper) (fr : AFrame) (H : AHeap), evalHead call ops fr H = atHead call (hPre ops fr H)
  | [], fr, H => rfl
  | o :: r, fr, H => by
    simp only [hPre]
    cases hw : wantedA fr o.guard with
    | true =>
      cases hs : o.op.stops with
      | true => simp only [if_true, atHead]
      | false =>
        simp only [evalHead, hw, if_true, Bool.false_eq_true, if_false, exec_same call hs]
        cases hx : execA noCall H.length fr H o.op with
        | none => rfl
        | some y => obtain ⟨v, H'⟩ := y; exact hPre_head call r _ _
    | false =>
      simp only [evalHead, hw, Bool.false_eq_true, if_false]
      exact hPre_head call r _ _

section
variable {A : Nat → Option AFn} {fl : Nat} {ops rest : List AOper} {fr fr0 : AFrame} {H H0 : AHeap} {Q : AFrame → AHeap → Prop} {d : Option Nat} {X : Option (AV × AHeap)} {v : AV} {H' : AHeap}
/-- an operation of this value, then the rest -/
structure AX (A : Nat → Option AFn) (fl : Nat) (d : Option Nat) (rest : List AOper) (fr : AFrame) (X : Option (AV × AHeap)) (Q : AFrame → AHeap → Prop) : Prop where
  ex : ∃ v H', X = some (v, H') ∧ AO A fl rest (putA fr d v) H' Q
structure AHX (A : Nat → Option AFn) (d : Option Nat) (rest : List AOper) (fr : AFrame) (X : Option (AV × AHeap)) (Q : AFrame → AHeap → Prop) : Prop where
  ex : ∃ v H', X = some (v, H') ∧ AHd A rest (putA fr d v) H' Q
theorem AX_go (h : X = some (v, H')) (h2 : AO A fl rest (putA fr d v) H' Q) : AX A fl d rest fr X Q := ⟨v, H', h, h2⟩
theorem AHX_go (h : X = some (v, H')) (h2 : AHd A rest (putA fr d v) H' Q) : AHX A d rest fr X Q := ⟨v, H', h, h2⟩
theorem AO_stuck (h : evalPre1 fl ops fr0 H0 = contP fl d rest fr X) (h2 : AX A fl d rest fr X Q) : AO A fl ops fr0 H0 Q := by
  obtain ⟨v, H', rfl, hr⟩ := h2
  rw [pcont_some] at h
  cases he : evalPre fl rest (putA fr d v) H' with
  | bad =>
    obtain ⟨k, f, g, h3, _⟩ := hr
    rw [evalPre_ops, he] at h3; cases h3
  | «at» o f g =>
    rw [he] at h
    refine AO_pre h ?_
    obtain ⟨k, f2, g2, h3, h4⟩ := hr
    rw [evalPre_ops, he] at h3
    exact ⟨k, f2, g2, h3, h4⟩
theorem AHd_stuck (h : hPre1 ops fr0 H0 = contHP d rest fr X) (h2 : AHX A d rest fr X Q) : AHd A ops fr0 H0 Q := by
  obtain ⟨v, H', rfl, hr⟩ := h2
  rw [hpcont_some] at h
  cases he : hPre rest (putA fr d v) H' with
  | bad =>
    obtain ⟨k, f, g, h3, _⟩ := hr
    rw [hPre_head, he] at h3; cases h3
  | «at» o f g =>
    rw [he] at h
    refine AHd_pre h ?_
    obtain ⟨k, f2, g2, h3, h4⟩ := hr
    rw [hPre_head, he] at h3
    exact ⟨k, f2, g2, h3, h4⟩
end
section
variable {A : Nat → Option AFn} {fl : Nat} {c : AOpd} {a b : ACode} {fr : AFrame} {H : AHeap} {Q : AExit → AFrame → AHeap → Prop}
theorem AW_ift (h : c.ev fr = .c (.bool true)) (h2 : AW A fl a fr H Q) : AW A fl (.cond c a b) fr H Q := AW_cond h (fun _ => h2) (fun h => by cases h)
theorem AW_iff (h : c.ev fr = .c (.bool false)) (h2 : AW A fl b fr H Q) : AW A fl (.cond c a b) fr H Q := AW_cond h (fun h => by cases h) (fun _ => h2)
end
theorem storeN_one {fl : Nat} {H : AHeap} {a x : AV} : storeN 1 fl H a x = storeX fl H a x := rfl
theorem storeN_lastp {n fl p : Nat} {H : AHeap} {cs vs : List Cell} (hp : p = H.length) (hf : fl ≤ p) (hc : cs.length = n) (hv : vs.length = n) : storeN n fl (H ++ [.own cs]) (.c (.ptr p 0)) (.agg vs) = some (aundef, H ++ [.own vs]) := by
  subst hp; exact storeN_last hf hc hv

/-! one form for all steps: what a row of steps comes to, an open term where a fact lacks -/
section
variable {A : Nat → Option AFn} {fl : Nat} {ops rest : List AOper} {fr fr0 : AFrame} {H H0 : AHeap} {Q : AFrame → AHeap → Prop} {p p' : Pre}
structure AP (A : Nat → Option AFn) (fl : Nat) (p : Pre) (Q : AFrame → AHeap → Prop) : Prop where
  ex : ∃ o f h, p = .at o f h ∧ AO A fl o f h Q
structure AHP (A : Nat → Option AFn) (p : Pre) (Q : AFrame → AHeap → Prop) : Prop where
  ex : ∃ o f h, p = .at o f h ∧ AHd A o f h Q
structure EqP (p p' : Pre) : Prop where
  e : p = p'
theorem EqP.at_ {o : List AOper} : EqP (.at o fr H) (.at o fr H) := ⟨rfl⟩
theorem EqP.cont {d : Option Nat} {X : Option (AV × AHeap)} : EqP (contP fl d rest fr X) (contP fl d rest fr X) := ⟨rfl⟩
theorem EqP.hcont {d : Option Nat} {X : Option (AV × AHeap)} : EqP (contHP d rest fr X) (contHP d rest fr X) := ⟨rfl⟩
theorem EqP.gate {o : AOper} {b : Bool} : EqP (gateP fl o rest fr H b) (gateP fl o rest fr H b) := ⟨rfl⟩
theorem EqP.hgate {o : AOper} {b : Bool} : EqP (gateHP o rest fr H b) (gateHP o rest fr H b) := ⟨rfl⟩
theorem AO_any (h : EqP (evalPre1 fl ops fr H) p) (h2 : AP A fl p Q) : AO A fl ops fr H Q := by
  obtain ⟨o, f, g, rfl, h3⟩ := h2; exact AO_pre h.e h3
theorem AHd_any (h : EqP (hPre1 ops fr H) p) (h2 : AHP A p Q) : AHd A ops fr H Q := by
  obtain ⟨o, f, g, rfl, h3⟩ := h2; exact AHd_pre h.e h3
theorem AP_go (h : EqP p p') (h2 : AP A fl p' Q) : AP A fl p Q := by obtain ⟨rfl⟩ := h; exact h2
theorem AHP_go (h : EqP p p') (h2 : AHP A p' Q) : AHP A p Q := by obtain ⟨rfl⟩ := h; exact h2
theorem AP_at {o : List AOper} (h : AO A fl o fr H Q) : AP A fl (.at o fr H) Q := ⟨_, _, _, rfl, h⟩
theorem AHP_at {o : List AOper} (h : AHd A o fr H Q) : AHP A (.at o fr H) Q := ⟨_, _, _, rfl, h⟩
end
/-- sums with a carry -/
def carryX (sub : Bool) (H : AHeap) (x y c : AV) : Option (AV × AHeap) :=
  match x, y, c with
  | .c (.int .u64 a), .c (.int .u64 b), .c (.int .u64 k) => (carryA sub a b k).map fun v => (v, H)
  | _, _, _ => none
theorem exec_carryX {call : ACall} {fl : Nat} {fr : AFrame} {H : AHeap} {sub : Bool} {x y c : AOpd} : execA call fl fr H (.carry sub x y c) = carryX sub H (x.ev fr) (y.ev fr) (c.ev fr) := by
  simp only [execA, stepA, carryX]; rfl
theorem carryX_of {sub : Bool} {H : AHeap} {a b k : Int} {v : AV} (h : carryA sub a b k = some v) : carryX sub H (.c (.int .u64 a)) (.c (.int .u64 b)) (.c (.int .u64 k)) = some (v, H) := by
  simp only [carryX, h]; rfl
section
variable {A : Nat → Option AFn} {fl id i : Nat} {fr : AFrame} {H : AHeap} {Q : AExit → AFrame → AHeap → Prop} {b : ACode}
theorem thenQ_e (h : Q (.exit i) fr H) : thenQ A fl b Q (.exit i) fr H := h
theorem thenQ_r (h : Q .ret fr H) : thenQ A fl b Q .ret fr H := h
theorem blockQ_r (h : Q .ret fr H) : blockQ id Q .ret fr H := h
theorem blockQ_s (h : Q .normal fr H) : blockQ id Q (.exit id) fr H := by simp only [blockQ, if_true]; exact h
theorem blockQ_o (hi : (i == id) = false) (h : Q (.exit i) fr H) : blockQ id Q (.exit i) fr H := by
  have : ¬ i = id := by simpa using hi
  simp only [blockQ, if_neg this]; exact h
end
end PAbs

/- One name for many rewrites. -/
namespace PAbs
open Go PAbs
theorem Sm : type_of% @List.take_succ_cons.{0} ∧ type_of% @List.take_zero.{0} ∧ type_of% @List.drop_succ_cons.{0} ∧ type_of% @List.drop_zero.{0} ∧ type_of% @bne_self_eq_false.{0} ∧ type_of% @List.map_cons.{0,0} ∧ type_of% @List.map_nil.{0,0} ∧ type_of% @Bool.true_beq ∧ type_of% @Bool.false_beq ∧ type_of% @run_nil ∧ type_of% @run_cons ∧ type_of% @run_gate ∧ type_of% @cont_some ∧ type_of% @gate_true ∧ type_of% @gate_false ∧ type_of% @hrun_nil ∧ type_of% @hrun_cons ∧ type_of% @hrun_gate ∧ type_of% @hcont_some ∧ type_of% @hgate_true ∧ type_of% @hgate_false ∧ type_of% @put_some ∧ type_of% @put_none ∧ type_of% @ev_t ∧ type_of% @ev_k ∧ type_of% @List.set_cons_succ.{0} ∧ type_of% @List.set_cons_zero.{0} ∧ type_of% @List.getD_cons_succ.{0} ∧ type_of% @List.getD_cons_zero.{0} ∧ type_of% @true_or ∧ type_of% @or_true ∧ type_of% @true_and ∧ type_of% @and_true ∧ type_of% @and_self ∧ type_of% @beq_self_eq_true.{0} ∧ type_of% @Bool.not_true ∧ type_of% @Bool.not_false ∧ type_of% @Bool.false_eq_true ∧ type_of% @decide_true ∧ type_of% @Bool.and_true ∧ type_of% @Bool.true_and ∧ type_of% @hcells_last ∧ type_of% @hown_last ∧ type_of% @List.nil_append.{0} ∧ type_of% @List.cons_append.{0} ∧ type_of% @List.append_nil.{0} ∧ type_of% @List.take_nil.{0} ∧ type_of% @List.drop_nil.{0} ∧ type_of% @List.length_cons.{0} ∧ type_of% @List.length_nil.{0} ∧ type_of% @List.length_append.{0} ∧ type_of% @Nat.zero_add ∧ type_of% @Nat.add_zero ∧ type_of% @Nat.mul_one ∧ type_of% @Nat.one_mul ∧ type_of% @Nat.div_one ∧ type_of% @Nat.le_refl ∧ type_of% @Int.toNat_natCast ∧ type_of% @Int.toNat_zero ∧ type_of% @Nat.zero_le ∧ type_of% @Int.natCast_nonneg ∧ type_of% @Option.some.injEq.{0} ∧ type_of% @Cell.int.injEq ∧ type_of% @AV.c.injEq ∧ type_of% @pre_nil ∧ type_of% @pre_cons ∧ type_of% @pre_gate ∧ type_of% @pre1_cons ∧ type_of% @pre1_gate ∧ type_of% @qstop_true ∧ type_of% @qstop_false ∧ type_of% @qstopg_false ∧ type_of% @qgate_true ∧ type_of% @qgate_false ∧ type_of% @pcont_some ∧ type_of% @pstop_true ∧ type_of% @pstop_false ∧ type_of% @pstopg_false ∧ type_of% @pgate_true ∧ type_of% @pgate_false ∧ type_of% @hpre_nil ∧ type_of% @hpre_cons ∧ type_of% @hpre_gate ∧ type_of% @hpre1_cons ∧ type_of% @hpre1_gate ∧ type_of% @hqstop_true ∧ type_of% @hqstop_false ∧ type_of% @hqstopg_false ∧ type_of% @hqgate_true ∧ type_of% @hqgate_false ∧ type_of% @hpcont_some ∧ type_of% @hpstop_true ∧ type_of% @hpstop_false ∧ type_of% @hpstopg_false ∧ type_of% @hpgate_true ∧ type_of% @hpgate_false ∧ type_of% @decide_false ∧ type_of% @nat_0 ∧ type_of% @nat_1 ∧ type_of% @nat_2 ∧ type_of% @nat_3 ∧ type_of% @nat_4 ∧ type_of% @nat_8 ∧ type_of% @nat_16 ∧ type_of% @nat_64 ∧ type_of% @nat_128 ∧ type_of% @pre1_nil ∧ type_of% @hpre1_nil ∧ type_of% @wantV_bool ∧ type_of% @wantV_undef ∧ type_of% @lenX_snil ∧ type_of% @lenX_slc := ⟨@List.take_succ_cons.{0}, @List.take_zero.{0}, @List.drop_succ_cons.{0}, @List.drop_zero.{0}, @bne_self_eq_false.{0}, @List.map_cons.{0,0}, @List.map_nil.{0,0}, @Bool.true_beq, @Bool.false_beq, @run_nil, @run_cons, @run_gate, @cont_some, @gate_true, @gate_false, @hrun_nil, @hrun_cons, @hrun_gate, @hcont_some, @hgate_true, @hgate_false, @put_some, @put_none, @ev_t, @ev_k, @List.set_cons_succ.{0}, @List.set_cons_zero.{0}, @List.getD_cons_succ.{0}, @List.getD_cons_zero.{0}, @true_or, @or_true, @true_and, @and_true, @and_self, @beq_self_eq_true.{0}, @Bool.not_true, @Bool.not_false, @Bool.false_eq_true, @decide_true, @Bool.and_true, @Bool.true_and, @hcells_last, @hown_last, @List.nil_append.{0}, @List.cons_append.{0}, @List.append_nil.{0}, @List.take_nil.{0}, @List.drop_nil.{0}, @List.length_cons.{0}, @List.length_nil.{0}, @List.length_append.{0}, @Nat.zero_add, @Nat.add_zero, @Nat.mul_one, @Nat.one_mul, @Nat.div_one, @Nat.le_refl, @Int.toNat_natCast, @Int.toNat_zero, @Nat.zero_le, @Int.natCast_nonneg, @Option.some.injEq.{0}, @Cell.int.injEq, @AV.c.injEq, @pre_nil, @pre_cons, @pre_gate, @pre1_cons, @pre1_gate, @qstop_true, @qstop_false, @qstopg_false, @qgate_true, @qgate_false, @pcont_some, @pstop_true, @pstop_false, @pstopg_false, @pgate_true, @pgate_false, @hpre_nil, @hpre_cons, @hpre_gate, @hpre1_cons, @hpre1_gate, @hqstop_true, @hqstop_false, @hqstopg_false, @hqgate_true, @hqgate_false, @hpcont_some, @hpstop_true, @hpstop_false, @hpstopg_false, @hpgate_true, @hpgate_false, @decide_false, @nat_0, @nat_1, @nat_2, @nat_3, @nat_4, @nat_8, @nat_16, @nat_64, @nat_128, @pre1_nil, @hpre1_nil, @wantV_bool, @wantV_undef, @lenX_snil, @lenX_slc⟩
end PAbs

/- The numbers of the functions in this translation. -/
namespace PK
open Go PAbs
noncomputable abbrev A : Nat → Option AFn := tableA Go.Proofs.Try.prog
theorem mixed : Go.Proofs.Try.prog.follows .mixedOrders = true := by kernel_rfl
abbrev F_pestlelaw22_PbkdfBegins : Nat := 12
abbrev F_sha_Compress : Nat := 14
abbrev F_sha_Initial : Nat := 17
abbrev F_sha_Of : Nat := 20
abbrev F_sha_Pad : Nat := 23
abbrev F_sha_Hash_Sum : Nat := 25
abbrev F_sha_Hash_Add : Nat := 26
abbrev F_sha_Hash_Clone : Nat := 27
abbrev F_sha_New : Nat := 28
abbrev F_feed_Feed_Total : Nat := 29
abbrev F_mac_New : Nat := 33
abbrev F_mac_Mac_With : Nat := 34
abbrev F_mac_Mac_Chain : Nat := 35
abbrev F_mac_Mac_Tag : Nat := 37
abbrev F_pestlelaw22_awake : Nat := 38
abbrev F_pestlelaw22_right : Nat := 39
abbrev F_pbkdf_Key : Nat := 40
abbrev F_pbkdf_Check : Nat := 41
abbrev F_pbkdf_Part : Nat := 43
abbrev F_sha_spread : Nat := 45
abbrev F_sha_constants : Nat := 46
abbrev F_words_Right32 : Nat := 47
abbrev F_words_Big64 : Nat := 54
abbrev F_words_Big32 : Nat := 56
abbrev F_feed_Feed_Put : Nat := 57
abbrev F_feed_Feed_Copy : Nat := 58
abbrev F_feed_New : Nat := 59
abbrev F_mac_key : Nat := 61
abbrev F_mac_masked : Nat := 62
abbrev F_words_Xor : Nat := 63
abbrev F_size_Up : Nat := 64
abbrev F_size_Within : Nat := 65
abbrev F_words_TakeBig32 : Nat := 66
abbrev F_feed_Feed_full : Nat := 75
abbrev F_feed_Feed_Rest : Nat := 76
abbrev F_size_held : Nat := 77
abbrev F_words_take : Nat := 78
abbrev F_words_highest : Nat := 79
end PK

/- Lists of whole numbers as cells; facts used by many walks. -/
namespace PK
open Go PAbs
set_option linter.unusedSimpArgs false
set_option linter.unusedVariables false

theorem u64_of {n : Int} (h : 0 ≤ n) (h2 : n < 18446744073709551616) : IntKind.u64.wrap n = n := by show n % 18446744073709551616 = n; omega
theorem u32_of {n : Int} (h : 0 ≤ n) (h2 : n < 4294967296) : IntKind.u32.wrap n = n := by show n % 4294967296 = n; omega
theorem wrap64 (n : Int) : IntKind.u64.wrap n = n % 18446744073709551616 := rfl
theorem wrap32 (n : Int) : IntKind.u32.wrap n = n % 4294967296 := rfl
theorem u64_nat {q : Nat} (h : q < 18446744073709551616) : IntKind.u64.wrap (q : Int) = (q : Int) := u64_of (by omega) (by omega)
theorem u32_nat {q : Nat} (h : q < 4294967296) : IntKind.u32.wrap (q : Int) = (q : Int) := u32_of (by omega) (by omega)
theorem shr_n {k : IntKind} {x p : Nat} (hp : p ≤ k.bits) : shrA k (x : Int) (p : Int) = ((x / 2 ^ p : Nat) : Int) := by
  simp only [shrA, Int.toNat_natCast, Nat.min_eq_left hp]
  rw [Int.fdiv_eq_ediv_of_nonneg _ (by simp [Int.pow_nonneg])]; simp
theorem storeN_ex {n fl p : Nat} {H : AHeap} {cs : List Cell} (ho : hown H p = some cs) (hf : fl ≤ p) (hc : cs.length = n) (vs : List Cell) (hv : vs.length = n) :
    ∃ H', storeN n fl H (.c (.ptr p 0)) (.agg vs) = some (aundef, H') ∧ hown H' p = some vs ∧ Chg (· = p) H H' ∧ H'.length = H.length :=
  ⟨_, storeN_all ho hf hc hv, hown_set (hown_lt ho), Chg.set rfl, by simp⟩
theorem storeX_ex {fl p o : Nat} {H : AHeap} {cs : List Cell} (ho : hown H p = some cs) (hf : fl ≤ p) (hl : o < cs.length) (v : Cell) :
    ∃ H', storeX fl H (.c (.ptr p o)) (.c v) = some (aundef, H') ∧ hown H' p = some (cs.set o v) ∧ Chg (· = p) H H' ∧ H'.length = H.length :=
  ⟨_, storeX_own ho hf hl, hown_set (hown_lt ho), Chg.set rfl, by simp⟩
theorem getD_set_ {xs : List Nat} {a b v : Nat} : (xs.set a v).getD b 0 = if a = b ∧ a < xs.length then v else xs.getD b 0 := by
  simp only [List.getD_eq_getElem?_getD, List.getElem?_set]
  by_cases h : a = b
  · subst h
    by_cases h2 : a < xs.length
    · simp [h2]
    · simp [h2, List.getElem?_eq_none (Nat.le_of_not_lt h2)]
  · simp [h]
theorem kept_app {H0 H H' : AHeap} {x : Cell} {sz : Nat} {cs : List Cell} (k : Kept H0.length H0 H) (h : Own H0.length H x sz cs) (c : Chg (inX x) H H') : Kept H0.length H0 H' :=
  k.trans ⟨c.1, fun b hb hb2 => c.2 b hb2 fun hi => by have := h.le hi; omega⟩
end PK

/- Plain arithmetic of turned words. -/
namespace PAbs
open Go
set_option linter.unusedSimpArgs false
set_option linter.unusedVariables false

theorem wrap_u8 (n : Int) : IntKind.u8.wrap n = n % 256 := rfl
theorem wrap_u32 (n : Int) : IntKind.u32.wrap n = n % 4294967296 := rfl
theorem wrap_u64 (n : Int) : IntKind.u64.wrap n = n % 18446744073709551616 := rfl
theorem wrap_i64_of {n : Int} (h : -9223372036854775808 ≤ n) (h' : n < 9223372036854775808) : IntKind.i64.wrap n = n := by
  show (if (true && decide (n % (2 ^ 64 : Int) ≥ (2 ^ 63 : Int))) = true then n % (2 ^ 64 : Int) - (2 ^ 64 : Int) else n % (2 ^ 64 : Int)) = n
  simp only [Bool.true_and, decide_eq_true_eq]
  split <;> omega

def rl (W k x : Nat) : Nat := x * 2 ^ k % 2 ^ W + x / 2 ^ (W - k)
def rr (W k x : Nat) : Nat := x / 2 ^ k + x * 2 ^ (W - k) % 2 ^ W

theorem pow_split {W k : Nat} (h : k ≤ W) : 2 ^ W = 2 ^ (W - k) * 2 ^ k := by rw [← Nat.pow_add]; congr 1; omega

theorem mul_mod_pow {W k : Nat} (h : k ≤ W) (x : Nat) : x * 2 ^ k % 2 ^ W = x % 2 ^ (W - k) * 2 ^ k := by rw [pow_split h, Nat.mul_mod_mul_right]

theorem rl_eq {W k : Nat} (h : k ≤ W) (x : Nat) : rl W k x = x % 2 ^ (W - k) * 2 ^ k + x / 2 ^ (W - k) := by simp only [rl, mul_mod_pow h]
theorem rr_eq {W k : Nat} (h : k ≤ W) (x : Nat) : rr W k x = x / 2 ^ k + x % 2 ^ k * 2 ^ (W - k) := by
  have e : W - (W - k) = k := by omega
  simp only [rr, mul_mod_pow (Nat.sub_le W k), e]

theorem div_lt_pow {W k x : Nat} (h : k ≤ W) (hx : x < 2 ^ W) : x / 2 ^ (W - k) < 2 ^ k := by
  rw [Nat.div_lt_iff_lt_mul (Nat.two_pow_pos _), Nat.mul_comm, ← pow_split h]; exact hx
theorem div_lt_pow' {W k x : Nat} (h : k ≤ W) (hx : x < 2 ^ W) : x / 2 ^ k < 2 ^ (W - k) := by
  rw [Nat.div_lt_iff_lt_mul (Nat.two_pow_pos _), ← pow_split h]; exact hx

theorem rr_or {W k x : Nat} (h : k ≤ W) (hx : x < 2 ^ W) : x / 2 ^ k ||| x * 2 ^ (W - k) % 2 ^ W = rr W k x := by
  have e : W - (W - k) = k := by omega
  rw [rr_eq h, mul_mod_pow (Nat.sub_le W k), e, Nat.or_comm, ← Nat.shiftLeft_eq, ← Nat.shiftLeft_add_eq_or_of_lt (div_lt_pow' h hx), Nat.shiftLeft_eq, Nat.add_comm]

theorem rl_lt {W k x : Nat} (h : k ≤ W) (hx : x < 2 ^ W) : rl W k x < 2 ^ W := by
  rw [rl_eq h]
  have h1 := div_lt_pow h hx
  have h2 : x % 2 ^ (W - k) < 2 ^ (W - k) := Nat.mod_lt _ (Nat.two_pow_pos _)
  have h3 := pow_split h
  generalize x % 2 ^ (W - k) = l at *
  generalize x / 2 ^ (W - k) = m at *
  rw [h3]
  calc l * 2 ^ k + m < l * 2 ^ k + 2 ^ k := by omega
    _ = (l + 1) * 2 ^ k := by rw [Nat.add_mul, Nat.one_mul]
    _ ≤ 2 ^ (W - k) * 2 ^ k := Nat.mul_le_mul_right _ h2
theorem rr_lt {W k x : Nat} (h : k ≤ W) (hx : x < 2 ^ W) : rr W k x < 2 ^ W := by
  have := rl_lt (Nat.sub_le W k) hx
  have e : W - (W - k) = k := by omega
  rw [rl_eq (Nat.sub_le W k), e] at this
  rw [rr_eq h]; omega

end PAbs

/- Package words as code of the abstract machine. -/
namespace PK
open Go PAbs

noncomputable def c_words_Right32 : AFn := AFn.mk 17 [.tmp 4]
  (.seq (.region
      [⟨some 4, .mv (.k (.c (.int .u32 0))), none⟩])
  (.seq (.region
      [⟨some 6, .mv (.t 1), none⟩,
        ⟨some 7, .convInt .u64 (.t 6), none⟩,
        ⟨some 8, .bin .rem (.t 7) (.k (.c (.int .u64 32))), none⟩,
        ⟨some 5, .mv (.t 8), none⟩])
  (.seq (.region
      [⟨some 9, .mv (.t 0), none⟩,
        ⟨some 10, .mv (.t 5), none⟩,
        ⟨some 11, .bin .shr (.t 9) (.t 10), none⟩,
        ⟨some 12, .mv (.t 0), none⟩,
        ⟨some 13, .mv (.t 5), none⟩,
        ⟨some 14, .bin .sub (.k (.c (.int .u64 32))) (.t 13), none⟩,
        ⟨some 15, .bin .shl (.t 12) (.t 14), none⟩,
        ⟨some 16, .bin .or (.t 11) (.t 15), none⟩,
        ⟨some 4, .mv (.t 16), none⟩])
  (.ret))))
theorem t_words_Right32 : A F_words_Right32 = some c_words_Right32 := by kernel_rfl

noncomputable def c_words_Big64 : AFn := AFn.mk 31 [.tmp 2]
  (.seq (.region
      [⟨some 2, .mv (.k (.c (.snil))), none⟩])
  (.seq (.region
      [⟨some 7, .mv (.t 0), none⟩,
        ⟨some 8, .len false (.t 7), none⟩,
        ⟨some 9, .bin .mul (.k (.c (.int .i64 8))) (.t 8), none⟩,
        ⟨some 10, .makeSlice ([.int .u8 0]) 1 (.k (.c (.int .i64 0))) (.t 9), none⟩,
        ⟨some 3, .mv (.t 10), none⟩])
  (.seq (.seq (.region
        [⟨some 11, .mv (.t 0), none⟩,
          ⟨some 12, .len false (.t 11), none⟩,
          ⟨some 13, .mv (.k (.c (.int .i64 0))), none⟩])
    (.block 0
      (.loop
        (.seq (.region
            [⟨some 14, .bin .lss (.t 13) (.t 12), none⟩])
        (.seq (.cond (.t 14)
            (.skip)
            (.exit 0))
        (.seq (.block 1
            (.seq (.region
                [⟨some 15, .idxSlc 1 (.t 11) (.t 13), none⟩,
                  ⟨some 16, .load1 (.t 15), none⟩,
                  ⟨some 5, .mv (.t 16), none⟩])
            (.seq (.region
                [⟨some 6, .mv (.k (.c (.int .i64 7))), none⟩])
            (.block 2
              (.loop
                (.seq (.seq (.region
                      [⟨some 17, .mv (.t 6), none⟩,
                        ⟨some 18, .bin .geq (.t 17) (.k (.c (.int .i64 0))), none⟩])
                  (.cond (.t 18)
                    (.skip)
                    (.exit 2)))
                (.seq (.block 3
                    (.region
                      [⟨some 21, .mv (.t 3), none⟩,
                        ⟨some 22, .mv (.t 5), none⟩,
                        ⟨some 23, .mv (.t 6), none⟩,
                        ⟨some 24, .bin .mul (.k (.c (.int .i64 8))) (.t 23), none⟩,
                        ⟨some 25, .bin .shr (.t 22) (.t 24), none⟩,
                        ⟨some 26, .convInt .u8 (.t 25), none⟩,
                        ⟨some 27, .buildSlice ([.int .u8 0]) 1 1 [(0, 1, .t 26)], none⟩,
                        ⟨some 28, .append ([.int .u8 0]) 1 (.t 21) (.t 27), none⟩,
                        ⟨some 3, .mv (.t 28), none⟩]))
                (.region
                  [⟨some 19, .mv (.t 6), none⟩,
                    ⟨some 20, .bin .sub (.t 19) (.k (.c (.int .i64 1))), none⟩,
                    ⟨some 6, .mv (.t 20), none⟩]))))))))
        (.region
          [⟨some 29, .bin .add (.t 13) (.k (.c (.int .i64 1))), none⟩,
            ⟨some 13, .mv (.t 29), none⟩])))))))
  (.seq (.region
      [⟨some 30, .mv (.t 3), none⟩,
        ⟨some 2, .mv (.t 30), none⟩])
  (.ret)))))
theorem t_words_Big64 : A F_words_Big64 = some c_words_Big64 := by kernel_rfl

noncomputable def c_words_Big32 : AFn := AFn.mk 32 [.tmp 2]
  (.seq (.region
      [⟨some 2, .mv (.k (.c (.snil))), none⟩])
  (.seq (.region
      [⟨some 6, .mv (.t 0), none⟩,
        ⟨some 7, .len false (.t 6), none⟩,
        ⟨some 8, .bin .mul (.k (.c (.int .i64 4))) (.t 7), none⟩,
        ⟨some 9, .makeSlice ([.int .u8 0]) 1 (.k (.c (.int .i64 0))) (.t 8), none⟩,
        ⟨some 3, .mv (.t 9), none⟩])
  (.seq (.seq (.region
        [⟨some 10, .mv (.t 0), none⟩,
          ⟨some 11, .len false (.t 10), none⟩,
          ⟨some 12, .mv (.k (.c (.int .i64 0))), none⟩])
    (.block 0
      (.loop
        (.seq (.region
            [⟨some 13, .bin .lss (.t 12) (.t 11), none⟩])
        (.seq (.cond (.t 13)
            (.skip)
            (.exit 0))
        (.seq (.block 1
            (.seq (.region
                [⟨some 14, .idxSlc 1 (.t 10) (.t 12), none⟩,
                  ⟨some 15, .load1 (.t 14), none⟩,
                  ⟨some 5, .mv (.t 15), none⟩])
            (.region
              [⟨some 16, .mv (.t 3), none⟩,
                ⟨some 17, .mv (.t 5), none⟩,
                ⟨some 18, .bin .shr (.t 17) (.k (.c (.int .u64 24))), none⟩,
                ⟨some 19, .convInt .u8 (.t 18), none⟩,
                ⟨some 20, .mv (.t 5), none⟩,
                ⟨some 21, .bin .shr (.t 20) (.k (.c (.int .u64 16))), none⟩,
                ⟨some 22, .convInt .u8 (.t 21), none⟩,
                ⟨some 23, .mv (.t 5), none⟩,
                ⟨some 24, .bin .shr (.t 23) (.k (.c (.int .u64 8))), none⟩,
                ⟨some 25, .convInt .u8 (.t 24), none⟩,
                ⟨some 26, .mv (.t 5), none⟩,
                ⟨some 27, .convInt .u8 (.t 26), none⟩,
                ⟨some 28, .buildSlice (rep 4 (.int .u8 0)) 1 4 [(0, 1, .t 19), (1, 1, .t 22), (2, 1, .t 25), (3, 1, .t 27)], none⟩,
                ⟨some 29, .append ([.int .u8 0]) 1 (.t 16) (.t 28), none⟩,
                ⟨some 3, .mv (.t 29), none⟩])))
        (.region
          [⟨some 30, .bin .add (.t 12) (.k (.c (.int .i64 1))), none⟩,
            ⟨some 12, .mv (.t 30), none⟩])))))))
  (.seq (.region
      [⟨some 31, .mv (.t 3), none⟩,
        ⟨some 2, .mv (.t 31), none⟩])
  (.ret)))))
theorem t_words_Big32 : A F_words_Big32 = some c_words_Big32 := by kernel_rfl

noncomputable def c_words_Xor : AFn := AFn.mk 45 [.tmp 2, .tmp 3]
  (.seq (.region
      [⟨some 2, .mv (.k (.c (.str []))), none⟩,
        ⟨some 3, .mv (.k (.c (.int .i64 0))), none⟩])
  (.seq (.seq (.region
        [⟨some 8, .mv (.t 0), none⟩,
          ⟨some 9, .len false (.t 8), none⟩,
          ⟨some 10, .bin .eql (.t 9) (.k (.c (.int .i64 0))), none⟩])
    (.cond (.t 10)
      (.seq (.region
          [⟨some 2, .mv (.k (.c (.str []))), none⟩,
            ⟨some 3, .mv (.k (.c (.int .i64 0))), none⟩])
      (.ret))
      (.skip)))
  (.seq (.region
      [⟨some 11, .mv (.t 0), none⟩,
        ⟨some 12, .idxSlc 1 (.t 11) (.k (.c (.int .i64 0))), none⟩,
        ⟨some 13, .load1 (.t 12), none⟩,
        ⟨some 14, .strBytes (.t 13), none⟩,
        ⟨some 4, .mv (.t 14), none⟩])
  (.seq (.seq (.region
        [⟨some 15, .mv (.t 0), none⟩,
          ⟨some 16, .sliceS 1 (.t 15) (some (.k (.c (.int .i64 1)))) none, none⟩,
          ⟨some 17, .len false (.t 16), none⟩,
          ⟨some 18, .mv (.k (.c (.int .i64 0))), none⟩])
    (.block 0
      (.loop
        (.seq (.region
            [⟨some 19, .bin .lss (.t 18) (.t 17), none⟩])
        (.seq (.cond (.t 19)
            (.skip)
            (.exit 0))
        (.seq (.block 1
            (.seq (.region
                [⟨some 20, .idxSlc 1 (.t 16) (.t 18), none⟩,
                  ⟨some 21, .load1 (.t 20), none⟩,
                  ⟨some 6, .mv (.t 21), none⟩])
            (.seq (.seq (.region
                  [⟨some 22, .mv (.t 6), none⟩,
                    ⟨some 23, .len true (.t 22), none⟩,
                    ⟨some 24, .mv (.t 4), none⟩,
                    ⟨some 25, .len false (.t 24), none⟩,
                    ⟨some 26, .bin .neq (.t 23) (.t 25), none⟩])
              (.cond (.t 26)
                (.seq (.region
                    [⟨some 2, .mv (.k (.c (.str []))), none⟩,
                      ⟨some 3, .mv (.k (.c (.int .i64 9))), none⟩])
                (.ret))
                (.skip)))
            (.seq (.region
                [⟨some 27, .mv (.t 4), none⟩,
                  ⟨some 28, .len false (.t 27), none⟩,
                  ⟨some 29, .mv (.k (.c (.int .i64 0))), none⟩])
            (.block 2
              (.loop
                (.seq (.region
                    [⟨some 30, .bin .lss (.t 29) (.t 28), none⟩])
                (.seq (.cond (.t 30)
                    (.skip)
                    (.exit 2))
                (.seq (.block 3
                    (.seq (.region
                        [⟨some 31, .mv (.t 29), none⟩,
                          ⟨some 7, .mv (.t 31), none⟩])
                    (.draw
                      [⟨some 32, .mv (.t 4), none⟩,
                        ⟨some 33, .mv (.t 7), none⟩,
                        ⟨some 34, .idxSlc 1 (.t 32) (.t 33), none⟩,
                        ⟨some 35, .load1 (.t 34), none⟩,
                        ⟨some 36, .mv (.t 6), none⟩,
                        ⟨some 37, .mv (.t 7), none⟩,
                        ⟨some 38, .elemStr (.t 36) (.t 37), none⟩]
                      [⟨some 39, .bin .xor (.t 35) (.t 38), none⟩,
                        ⟨some 40, .idxSlc 1 (.t 32) (.t 33), none⟩,
                        ⟨none, .store 1 (.t 40) (.t 39), none⟩])))
                (.region
                  [⟨some 41, .bin .add (.t 29) (.k (.c (.int .i64 1))), none⟩,
                    ⟨some 29, .mv (.t 41), none⟩]))))))))))
        (.region
          [⟨some 42, .bin .add (.t 18) (.k (.c (.int .i64 1))), none⟩,
            ⟨some 18, .mv (.t 42), none⟩])))))))
  (.seq (.region
      [⟨some 43, .mv (.t 4), none⟩,
        ⟨some 44, .bytesStr (.t 43), none⟩,
        ⟨some 2, .mv (.t 44), none⟩,
        ⟨some 3, .mv (.k (.c (.int .i64 0))), none⟩])
  (.ret))))))
theorem t_words_Xor : A F_words_Xor = some c_words_Xor := by kernel_rfl

noncomputable def c_words_TakeBig32 : AFn := AFn.mk 8 [.tmp 2, .tmp 3]
  (.seq (.region
      [⟨some 2, .mv (.k (.c (.snil))), none⟩,
        ⟨some 3, .mv (.k (.c (.int .i64 0))), none⟩])
  (.seq (.region
      [⟨some 4, .mv (.t 0), none⟩,
        ⟨some 5, .call F_words_take [.t 4, .k (.c (.fn F_words_highest))], none⟩,
        ⟨some 6, .extract (.t 5) 0, none⟩,
        ⟨some 7, .extract (.t 5) 1, none⟩,
        ⟨some 2, .mv (.t 6), none⟩,
        ⟨some 3, .mv (.t 7), none⟩])
  (.ret)))
theorem t_words_TakeBig32 : A F_words_TakeBig32 = some c_words_TakeBig32 := by kernel_rfl

noncomputable def c_words_take : AFn := AFn.mk 41 [.tmp 4, .tmp 5]
  (.seq (.region
      [⟨some 4, .mv (.k (.c (.snil))), none⟩,
        ⟨some 5, .mv (.k (.c (.int .i64 0))), none⟩])
  (.seq (.seq (.region
        [⟨some 9, .mv (.t 0), none⟩,
          ⟨some 10, .len false (.t 9), none⟩,
          ⟨some 11, .bin .rem (.t 10) (.k (.c (.int .i64 4))), none⟩,
          ⟨some 12, .bin .neq (.t 11) (.k (.c (.int .i64 0))), none⟩])
    (.cond (.t 12)
      (.seq (.region
          [⟨some 4, .mv (.k (.c (.snil))), none⟩,
            ⟨some 5, .mv (.k (.c (.int .i64 9))), none⟩])
      (.ret))
      (.skip)))
  (.seq (.region
      [⟨some 13, .mv (.t 0), none⟩,
        ⟨some 14, .len false (.t 13), none⟩,
        ⟨some 15, .bin .quo (.t 14) (.k (.c (.int .i64 4))), none⟩,
        ⟨some 16, .makeSlice ([.int .u32 0]) 4 (.t 15) (.t 15), none⟩,
        ⟨some 6, .mv (.t 16), none⟩])
  (.seq (.seq (.region
        [⟨some 17, .mv (.t 0), none⟩,
          ⟨some 18, .len false (.t 17), none⟩,
          ⟨some 19, .mv (.k (.c (.int .i64 0))), none⟩])
    (.block 0
      (.loop
        (.seq (.region
            [⟨some 20, .bin .lss (.t 19) (.t 18), none⟩])
        (.seq (.cond (.t 20)
            (.skip)
            (.exit 0))
        (.seq (.block 1
            (.seq (.region
                [⟨some 21, .mv (.t 19), none⟩,
                  ⟨some 22, .idxSlc 1 (.t 17) (.t 19), none⟩,
                  ⟨some 23, .load1 (.t 22), none⟩,
                  ⟨some 7, .mv (.t 21), none⟩,
                  ⟨some 8, .mv (.t 23), none⟩])
            (.draw
              [⟨some 24, .mv (.t 6), none⟩,
                ⟨some 25, .mv (.t 7), none⟩,
                ⟨some 26, .bin .quo (.t 25) (.k (.c (.int .i64 4))), none⟩,
                ⟨some 27, .idxSlc 1 (.t 24) (.t 26), none⟩,
                ⟨some 28, .load1 (.t 27), none⟩,
                ⟨some 29, .mv (.t 8), none⟩,
                ⟨some 30, .convInt .u32 (.t 29), none⟩,
                ⟨some 31, .mv (.t 1), none⟩,
                ⟨some 32, .mv (.t 7), none⟩,
                ⟨some 33, .bin .rem (.t 32) (.k (.c (.int .i64 4))), none⟩,
                ⟨some 34, .callV (.t 31) [.t 33], none⟩,
                ⟨some 35, .bin .mul (.k (.c (.int .i64 8))) (.t 34), none⟩,
                ⟨some 36, .bin .shl (.t 30) (.t 35), none⟩]
              [⟨some 37, .bin .or (.t 28) (.t 36), none⟩,
                ⟨some 38, .idxSlc 1 (.t 24) (.t 26), none⟩,
                ⟨none, .store 1 (.t 38) (.t 37), none⟩])))
        (.region
          [⟨some 39, .bin .add (.t 19) (.k (.c (.int .i64 1))), none⟩,
            ⟨some 19, .mv (.t 39), none⟩])))))))
  (.seq (.region
      [⟨some 40, .mv (.t 6), none⟩,
        ⟨some 4, .mv (.t 40), none⟩,
        ⟨some 5, .mv (.k (.c (.int .i64 0))), none⟩])
  (.ret))))))
theorem t_words_take : A F_words_take = some c_words_take := by kernel_rfl

noncomputable def c_words_highest : AFn := AFn.mk 5 [.tmp 2]
  (.seq (.region
      [⟨some 2, .mv (.k (.c (.int .i64 0))), none⟩])
  (.seq (.region
      [⟨some 3, .mv (.t 0), none⟩,
        ⟨some 4, .bin .sub (.k (.c (.int .i64 3))) (.t 3), none⟩,
        ⟨some 2, .mv (.t 4), none⟩])
  (.ret)))
theorem t_words_highest : A F_words_highest = some c_words_highest := by kernel_rfl
end PK

/- Package pestleref01 as code of the abstract machine. -/
namespace PK
open Go PAbs

end PK

/- Package words: turned words, walked; and the document's. -/
namespace PK
open Go PAbs
set_option linter.unusedSimpArgs false
set_option linter.unusedVariables false
set_option maxRecDepth 100000

theorem shl_of {k : IntKind} (hs : k.signed = false) {x p : Nat} (hp : p ≤ k.bits) : shlA k (x : Int) (p : Int) = ((x * 2 ^ p % 2 ^ k.bits : Nat) : Int) := by
  simp only [shlA, IntKind.wrap, hs, Bool.false_and, Bool.false_eq_true, if_false, Int.toNat_natCast, Nat.min_eq_left hp]
  simp
theorem shr_of {k : IntKind} {x p : Nat} (hp : p ≤ k.bits) : shrA k (x : Int) (p : Int) = ((x / 2 ^ p : Nat) : Int) := by
  simp only [shrA, Int.toNat_natCast, Nat.min_eq_left hp]
  rw [Int.fdiv_eq_ediv_of_nonneg _ (by exact_mod_cast Nat.zero_le _)]
  simp
theorem or_of {k : IntKind} (hs : k.signed = false) {a b : Nat} (ha : a < 2 ^ k.bits) (hb : b < 2 ^ k.bits) : bitsA .or k (a : Int) (b : Int) = ((a ||| b : Nat) : Int) := by
  have hab : a ||| b < 2 ^ k.bits := Nat.or_lt_two_pow ha hb
  simp only [bitsA, IntKind.wrap, hs, Bool.false_and, Bool.false_eq_true, if_false, BitVec.ofInt_natCast, BitVec.toNat_or, BitVec.toNat_ofNat, Nat.mod_eq_of_lt ha, Nat.mod_eq_of_lt hb]
  exact Int.emod_eq_of_lt (Int.natCast_nonneg _) (by exact_mod_cast hab)

def places (W : Nat) (n : Int) : Nat := (n % (W : Int)).toNat

theorem places_lt {W : Nat} (hW : 0 < W) (n : Int) : places W n < W := by
  have h1 := Int.emod_lt_of_pos n (show (0 : Int) < W by omega)
  have h2 := Int.emod_nonneg n (show (W : Int) ≠ 0 by omega)
  simp only [places]; omega

theorem AC_Right32 (fl : Nat) (H : AHeap) (x : Nat) (n : Int) (hx : x < 4294967296) : AC A fl F_words_Right32 [.c (.int .u32 x), .c (.int .i64 n)] H (fun v H' => v = .c (.int .u32 (rr 32 (places 32 n) x)) ∧ H' = H) := by
  have hk := places_lt (W := 32) (by omega) n
  have e1 : Int.tmod (IntKind.u64.wrap n) 32 = (places 32 n : Int) := by
    rw [wrap_u64]; simp only [places]
    rw [Int.tmod_eq_emod_of_nonneg (by omega)]; omega
  have e2 : IntKind.u64.wrap (32 - (places 32 n : Int)) = ((32 - places 32 n : Nat) : Int) := by rw [wrap_u64]; omega
  have h1 : x * 2 ^ (32 - places 32 n) % 2 ^ 32 < 2 ^ 32 := Nat.mod_lt _ (by omega)
  have h2 : x / 2 ^ (places 32 n) < 2 ^ 32 := Nat.lt_of_le_of_lt (Nat.div_le_self _ _) hx
  have e3 := rr_or (W := 32) (k := places 32 n) (Nat.le_of_lt hk) hx
  have n1 : ¬ ((places 32 n : Int) < 0) := by omega
  have n2 : ¬ (((32 - places 32 n : Nat) : Int) < 0) := by omega
  have a1 : shrA .u32 (x : Int) (places 32 n : Int) = _ := shr_of (Nat.le_of_lt hk)
  have a2 : shlA .u32 (x : Int) ((32 - places 32 n : Nat) : Int) = _ := shl_of rfl (Nat.sub_le _ _)
  have a3 : bitsA .or .u32 ((x / 2 ^ (places 32 n) : Nat) : Int) ((x * 2 ^ (32 - places 32 n) % 2 ^ 32 : Nat) : Int) = _ := or_of rfl h2 h1
  have z : ¬ ((32 : Int) = 0) := by omega
  refine AC_enter t_words_Right32 ?_
  simp only [c_words_Right32, enterA, List.replicate, List.length, Nat.reduceAdd, Nat.reduceSub, List.cons_append, List.nil_append]
  refine AW_seq (AW_run (by simp only [List.take_succ_cons, List.take_zero, List.drop_succ_cons, List.drop_zero, bne_self_eq_false, List.map_cons, List.map_nil, Bool.true_beq, Bool.false_beq, run_nil, run_cons, run_gate, cont_some, gate_true, gate_false, hrun_nil, hrun_cons, hrun_gate, hcont_some, hgate_true, hgate_false, put_some, put_none, ev_t, ev_k, wantedA, execA, stepA, List.set_cons_succ, List.set_cons_zero, List.getD_cons_succ, List.getD_cons_zero, List.getElem?_cons_zero, List.getElem?_cons_succ, if_true, if_false, binA, binInt, unA, eqA, Option.map, eq_self, true_or, or_true, true_and, and_true, and_self, beq_self_eq_true, Bool.not_true, Bool.not_false, reduceCtorEq, Bool.false_eq_true, ite_true, ite_false]; rfl) ?_)
  refine AW_seq (AW_run (by simp only [List.take_succ_cons, List.take_zero, List.drop_succ_cons, List.drop_zero, bne_self_eq_false, List.map_cons, List.map_nil, Bool.true_beq, Bool.false_beq, run_nil, run_cons, run_gate, cont_some, gate_true, gate_false, hrun_nil, hrun_cons, hrun_gate, hcont_some, hgate_true, hgate_false, put_some, put_none, ev_t, ev_k, wantedA, execA, stepA, List.set_cons_succ, List.set_cons_zero, List.getD_cons_succ, List.getD_cons_zero, List.getElem?_cons_zero, List.getElem?_cons_succ, if_true, if_false, binA, binInt, unA, eqA, Option.map, eq_self, true_or, or_true, true_and, and_true, and_self, beq_self_eq_true, Bool.not_true, Bool.not_false, reduceCtorEq, Bool.false_eq_true, ite_true, ite_false, e1, z]; rfl) ?_)
  refine AW_seq (AW_run (by simp only [List.take_succ_cons, List.take_zero, List.drop_succ_cons, List.drop_zero, bne_self_eq_false, List.map_cons, List.map_nil, Bool.true_beq, Bool.false_beq, run_nil, run_cons, run_gate, cont_some, gate_true, gate_false, hrun_nil, hrun_cons, hrun_gate, hcont_some, hgate_true, hgate_false, put_some, put_none, ev_t, ev_k, wantedA, execA, stepA, List.set_cons_succ, List.set_cons_zero, List.getD_cons_succ, List.getD_cons_zero, List.getElem?_cons_zero, List.getElem?_cons_succ, if_true, if_false, binA, binInt, unA, eqA, Option.map, eq_self, true_or, or_true, true_and, and_true, and_self, beq_self_eq_true, Bool.not_true, Bool.not_false, reduceCtorEq, Bool.false_eq_true, ite_true, ite_false, e2, n1, n2, a1, a2]; rfl) ?_)
  refine AW_ret ⟨_, rfl, ?_⟩
  refine ⟨?_, rfl⟩
  have a4 : (2 : Nat) ^ IntKind.u32.bits = 2 ^ 32 := rfl
  simp only [List.getD_cons_succ, List.getD_cons_zero, a4, a3, e3]

theorem tmod_pos {n b : Int} (h : 0 ≤ n) : n.tmod b = n % b := Int.tmod_eq_emod_of_nonneg h
end PK

/- Words written as bytes, walked: the program's and the document's. -/
namespace PK
open Go PAbs
set_option linter.unusedSimpArgs false
set_option linter.unusedVariables false
set_option maxRecDepth 100000

def W8 (xs : List Nat) : List Cell := xs.map fun (n : Nat) => Cell.int .u8 (n : Int)
def W32 (xs : List Nat) : List Cell := xs.map fun (n : Nat) => Cell.int .u32 (n : Int)
theorem W8_length {xs : List Nat} : (W8 xs).length = xs.length := by simp [W8]
theorem W32_length {xs : List Nat} : (W32 xs).length = xs.length := by simp [W32]
theorem W8_append {xs ys : List Nat} : W8 (xs ++ ys) = W8 xs ++ W8 ys := by simp [W8]
theorem W8_get {xs : List Nat} {i : Nat} (h : i < xs.length) : (W8 xs)[i]? = some (.int .u8 ((xs.getD i 0 : Nat) : Int)) := by simp [W8, h]
theorem W32_get {xs : List Nat} {i : Nat} (h : i < xs.length) : (W32 xs)[i]? = some (.int .u32 ((xs.getD i 0 : Nat) : Int)) := by simp [W32, h]

def leB (k w : Nat) : List Nat := (List.range k).map fun i => w / 256 ^ i % 256
theorem leB_length (k w : Nat) : (leB k w).length = k := by simp [leB]
theorem leB_lt {k w b : Nat} (h : b ∈ leB k w) : b < 256 := by
  obtain ⟨i, _, rfl⟩ := List.mem_map.mp h; omega

theorem place_succ {i n : Nat} (h : n ≤ 9223372036854775806) (hi : i ≤ n) : IntKind.i64.wrap ((i : Int) + 1) = ((i + 1 : Nat) : Int) := by rw [wrap_i64_of (by omega) (by omega)]; omega


theorem drop_rev {bs : List Nat} {i : Nat} (h : i < bs.length) : (bs.drop i).reverse = (bs.drop (i + 1)).reverse ++ [bs.getD i 0] := by
  rw [List.drop_eq_getElem_cons h, List.reverse_cons]; simp [h]

end PK

/- Words written as bytes by package words, walked. -/
namespace PK
open Go PAbs
set_option linter.unusedSimpArgs false
set_option linter.unusedVariables false
set_option maxRecDepth 100000

def flat (g : Nat → List Nat) (xs : List Nat) : Nat → List Nat
  | 0 => []
  | i + 1 => flat g xs i ++ g (xs.getD i 0)
theorem flat_length {g : Nat → List Nat} {k : Nat} (h : ∀ w, (g w).length = k) (xs : List Nat) : ∀ i, (flat g xs i).length = i * k
  | 0 => by simp [flat]
  | i + 1 => by simp [flat, flat_length h xs i, h, Nat.add_mul]
def beB (k w : Nat) : List Nat := (leB k w).reverse
theorem beB_length (k w : Nat) : (beB k w).length = k := by simp [beB, leB_length]

theorem shr_lit {k : IntKind} {w : Nat} {p : Int} {q : Nat} (hp : p = (q : Int)) (hq : q ≤ k.bits) : shrA k (w : Int) p = ((w / 2 ^ q : Nat) : Int) := by subst hp; exact shr_of hq
theorem byte_of (w : Nat) : IntKind.u8.wrap (w : Int) = ((w % 256 : Nat) : Int) := by rw [wrap_u8]; omega
theorem leB4 (w : Nat) : W8 (leB 4 w) = [.int .u8 ((w % 256 : Nat) : Int), .int .u8 ((w / 256 % 256 : Nat) : Int), .int .u8 ((w / 65536 % 256 : Nat) : Int), .int .u8 ((w / 16777216 % 256 : Nat) : Int)] := by
  simp only [leB, show List.range 4 = [0, 1, 2, 3] from rfl, List.map_cons, List.map_nil, W8, Nat.pow_zero, Nat.div_one, show 256 ^ 1 = 256 from rfl, show 256 ^ 2 = 65536 from rfl, show 256 ^ 3 = 16777216 from rfl]
theorem beB4 (w : Nat) : W8 (beB 4 w) = [.int .u8 ((w / 16777216 % 256 : Nat) : Int), .int .u8 ((w / 65536 % 256 : Nat) : Int), .int .u8 ((w / 256 % 256 : Nat) : Int), .int .u8 ((w % 256 : Nat) : Int)] := by
  have h := leB4 w
  simp only [W8] at h
  simp only [beB, W8, List.map_reverse, h]; rfl
theorem rep4 : rep 4 (Cell.int .u8 0) = [.int .u8 0, .int .u8 0, .int .u8 0, .int .u8 0] := rfl


def wrInv (g : Nat → List Nat) (y : Cell) (xs : List Nat) (H0 : AHeap) (m : Nat) (fr : AFrame) (H : AHeap) : Prop := ∃ i : Nat, i ≤ xs.length ∧ m = xs.length - i ∧ Kept H0.length H0 H ∧ ∃ x, Own H0.length H x 1 (W8 (flat g xs i)) ∧ (∃ s : Nat → AV, fr = [.c y, s 1, .c .snil, .c x, s 4, s 5, s 6, s 7, s 8, s 9, .c y, .c (.int .i64 (xs.length : Int)), .c (.int .i64 (i : Int)), s 13, s 14, s 15, s 16, s 17, s 18, s 19, s 20, s 21, s 22, s 23, s 24, s 25, s 26, s 27, s 28, s 29, s 30, s 31])

theorem AC_Big32 (H : AHeap) (y : Cell) (xs : List Nat) (hy : Rd H y 1 (W32 xs)) (hl : xs.length ≤ 1000000) : AC A H.length F_words_Big32 [.c y] H (fun v H' => ∃ x, v = .c x ∧ Own H.length H' x 1 (W8 (flat (beB 4) xs xs.length))) := by
  have e1 : IntKind.i64.wrap (4 * (xs.length : Int)) = ((4 * xs.length : Nat) : Int) := by rw [wrap_i64_of (by omega) (by omega)]; omega
  have e2 : ((4 * xs.length : Nat) : Int) * (1 : Nat) ≤ 140737488355328 := by omega
  have yl : (W32 xs).length = xs.length := W32_length
  have fl4 := flat_length (beB_length 4) xs
  refine AC_enter t_words_Big32 ?_
  simp only [c_words_Big32, enterA, List.replicate, List.length_cons, List.length_nil, Nat.reduceAdd, Nat.reduceSub, List.cons_append, List.nil_append]
  refine AW_seq (AW_run (by simp only [List.take_succ_cons, List.take_zero, List.drop_succ_cons, List.drop_zero, bne_self_eq_false, List.map_cons, List.map_nil, Bool.true_beq, Bool.false_beq, run_nil, run_cons, run_gate, cont_some, gate_true, gate_false, hrun_nil, hrun_cons, hrun_gate, hcont_some, hgate_true, hgate_false, put_some, put_none, ev_t, ev_k, wantedA, execA, stepA, List.set_cons_succ, List.set_cons_zero, List.getD_cons_succ, List.getD_cons_zero, List.getElem?_cons_zero, List.getElem?_cons_succ, if_true, if_false, binA, binInt, unA, eqA, Option.map, eq_self, true_or, or_true, true_and, and_true, and_self, beq_self_eq_true, Bool.not_true, Bool.not_false, reduceCtorEq, Bool.false_eq_true, ite_true, ite_false, fitsAll, CK.fits, decide_true, Bool.and_true, Bool.true_and, fillA, AV.cells, writeN, readN, sliceCells, appendA, lenA, i64, loA, hiA, hcells_last, hown_last, List.take_zero, List.drop_zero, List.nil_append, List.cons_append, List.append_nil, List.take_nil, List.drop_nil, List.length_cons, List.length_nil, List.length_append, Nat.zero_add, Nat.add_zero, Nat.reduceAdd, Nat.reduceMul, Nat.reduceDiv, Nat.reduceSub, Nat.mul_one, Nat.one_mul, Nat.div_one, Nat.le_refl, Nat.reduceLeDiff, Nat.reduceLT, Int.toNat_natCast, Int.toNat_zero, Nat.zero_le, Int.natCast_nonneg, Int.reduceLE, Int.reduceLT, Option.some.injEq, foldA, maxA, minA, Cell.int.injEq, AV.c.injEq]; rfl) ?_)
  refine AW_seq (AW_ops (AO_take 1 (by simp only [List.take_succ_cons, List.take_zero, List.drop_succ_cons, List.drop_zero, bne_self_eq_false, List.map_cons, List.map_nil, Bool.true_beq, Bool.false_beq, run_nil, run_cons, run_gate, cont_some, gate_true, gate_false, hrun_nil, hrun_cons, hrun_gate, hcont_some, hgate_true, hgate_false, put_some, put_none, ev_t, ev_k, wantedA, execA, stepA, List.set_cons_succ, List.set_cons_zero, List.getD_cons_succ, List.getD_cons_zero, List.getElem?_cons_zero, List.getElem?_cons_succ, if_true, if_false, binA, binInt, unA, eqA, Option.map, eq_self, true_or, or_true, true_and, and_true, and_self, beq_self_eq_true, Bool.not_true, Bool.not_false, reduceCtorEq, Bool.false_eq_true, ite_true, ite_false, fitsAll, CK.fits, decide_true, Bool.and_true, Bool.true_and, fillA, AV.cells, writeN, readN, sliceCells, appendA, lenA, i64, loA, hiA, hcells_last, hown_last, List.take_zero, List.drop_zero, List.nil_append, List.cons_append, List.append_nil, List.take_nil, List.drop_nil, List.length_cons, List.length_nil, List.length_append, Nat.zero_add, Nat.add_zero, Nat.reduceAdd, Nat.reduceMul, Nat.reduceDiv, Nat.reduceSub, Nat.mul_one, Nat.one_mul, Nat.div_one, Nat.le_refl, Nat.reduceLeDiff, Nat.reduceLT, Int.toNat_natCast, Int.toNat_zero, Nat.zero_le, Int.natCast_nonneg, Int.reduceLE, Int.reduceLT, Option.some.injEq, foldA, maxA, minA, Cell.int.injEq, AV.c.injEq]; rfl) (AO_step rfl (exec_lenN hy yl rfl) ?_)))
  refine AO_take 3 (by simp only [List.take_succ_cons, List.take_zero, List.drop_succ_cons, List.drop_zero, bne_self_eq_false, List.map_cons, List.map_nil, Bool.true_beq, Bool.false_beq, run_nil, run_cons, run_gate, cont_some, gate_true, gate_false, hrun_nil, hrun_cons, hrun_gate, hcont_some, hgate_true, hgate_false, put_some, put_none, ev_t, ev_k, wantedA, execA, stepA, List.set_cons_succ, List.set_cons_zero, List.getD_cons_succ, List.getD_cons_zero, List.getElem?_cons_zero, List.getElem?_cons_succ, if_true, if_false, binA, binInt, unA, eqA, Option.map, eq_self, true_or, or_true, true_and, and_true, and_self, beq_self_eq_true, Bool.not_true, Bool.not_false, reduceCtorEq, Bool.false_eq_true, ite_true, ite_false, fitsAll, CK.fits, decide_true, Bool.and_true, Bool.true_and, fillA, AV.cells, writeN, readN, sliceCells, appendA, lenA, i64, loA, hiA, hcells_last, hown_last, List.take_zero, List.drop_zero, List.nil_append, List.cons_append, List.append_nil, List.take_nil, List.drop_nil, List.length_cons, List.length_nil, List.length_append, Nat.zero_add, Nat.add_zero, Nat.reduceAdd, Nat.reduceMul, Nat.reduceDiv, Nat.reduceSub, Nat.mul_one, Nat.one_mul, Nat.div_one, Nat.le_refl, Nat.reduceLeDiff, Nat.reduceLT, Int.toNat_natCast, Int.toNat_zero, Nat.zero_le, Int.natCast_nonneg, Int.reduceLE, Int.reduceLT, Option.some.injEq, foldA, maxA, minA, Cell.int.injEq, AV.c.injEq, e1, e2, List.replicate_zero, List.flatten_nil, Int.le_refl]; rfl) (AO_nil ?_)
  refine AW_seq (AW_seq (AW_ops (AO_take 1 (by simp only [List.take_succ_cons, List.take_zero, List.drop_succ_cons, List.drop_zero, bne_self_eq_false, List.map_cons, List.map_nil, Bool.true_beq, Bool.false_beq, run_nil, run_cons, run_gate, cont_some, gate_true, gate_false, hrun_nil, hrun_cons, hrun_gate, hcont_some, hgate_true, hgate_false, put_some, put_none, ev_t, ev_k, wantedA, execA, stepA, List.set_cons_succ, List.set_cons_zero, List.getD_cons_succ, List.getD_cons_zero, List.getElem?_cons_zero, List.getElem?_cons_succ, if_true, if_false, binA, binInt, unA, eqA, Option.map, eq_self, true_or, or_true, true_and, and_true, and_self, beq_self_eq_true, Bool.not_true, Bool.not_false, reduceCtorEq, Bool.false_eq_true, ite_true, ite_false, fitsAll, CK.fits, decide_true, Bool.and_true, Bool.true_and, fillA, AV.cells, writeN, readN, sliceCells, appendA, lenA, i64, loA, hiA, hcells_last, hown_last, List.take_zero, List.drop_zero, List.nil_append, List.cons_append, List.append_nil, List.take_nil, List.drop_nil, List.length_cons, List.length_nil, List.length_append, Nat.zero_add, Nat.add_zero, Nat.reduceAdd, Nat.reduceMul, Nat.reduceDiv, Nat.reduceSub, Nat.mul_one, Nat.one_mul, Nat.div_one, Nat.le_refl, Nat.reduceLeDiff, Nat.reduceLT, Int.toNat_natCast, Int.toNat_zero, Nat.zero_le, Int.natCast_nonneg, Int.reduceLE, Int.reduceLT, Option.some.injEq, foldA, maxA, minA, Cell.int.injEq, AV.c.injEq]; rfl) (AO_step rfl (exec_lenN (hy.kept (Kept.push _ _ _)) yl rfl) ?_))))
  refine AO_take 1 (by simp only [List.take_succ_cons, List.take_zero, List.drop_succ_cons, List.drop_zero, bne_self_eq_false, List.map_cons, List.map_nil, Bool.true_beq, Bool.false_beq, run_nil, run_cons, run_gate, cont_some, gate_true, gate_false, hrun_nil, hrun_cons, hrun_gate, hcont_some, hgate_true, hgate_false, put_some, put_none, ev_t, ev_k, wantedA, execA, stepA, List.set_cons_succ, List.set_cons_zero, List.getD_cons_succ, List.getD_cons_zero, List.getElem?_cons_zero, List.getElem?_cons_succ, if_true, if_false, binA, binInt, unA, eqA, Option.map, eq_self, true_or, or_true, true_and, and_true, and_self, beq_self_eq_true, Bool.not_true, Bool.not_false, reduceCtorEq, Bool.false_eq_true, ite_true, ite_false, fitsAll, CK.fits, decide_true, Bool.and_true, Bool.true_and, fillA, AV.cells, writeN, readN, sliceCells, appendA, lenA, i64, loA, hiA, hcells_last, hown_last, List.take_zero, List.drop_zero, List.nil_append, List.cons_append, List.append_nil, List.take_nil, List.drop_nil, List.length_cons, List.length_nil, List.length_append, Nat.zero_add, Nat.add_zero, Nat.reduceAdd, Nat.reduceMul, Nat.reduceDiv, Nat.reduceSub, Nat.mul_one, Nat.one_mul, Nat.div_one, Nat.le_refl, Nat.reduceLeDiff, Nat.reduceLT, Int.toNat_natCast, Int.toNat_zero, Nat.zero_le, Int.natCast_nonneg, Int.reduceLE, Int.reduceLT, Option.some.injEq, foldA, maxA, minA, Cell.int.injEq, AV.c.injEq]; rfl) (AO_nil (AW_block ?_))
  refine AW_loopN (wrInv (beB 4) y xs H) xs.length ⟨0, by omega, by omega, Kept.push _ _ _, .slc H.length 0 0 1, Own.one (cs := []) (Nat.le_refl _), stale _ _ rfl⟩ ?_
  rintro m fr H1 ⟨i, hi, hm, hk, x, hx, s, rfl⟩
  refine AW_seq (AW_run (by simp only [List.take_succ_cons, List.take_zero, List.drop_succ_cons, List.drop_zero, bne_self_eq_false, List.map_cons, List.map_nil, Bool.true_beq, Bool.false_beq, run_nil, run_cons, run_gate, cont_some, gate_true, gate_false, hrun_nil, hrun_cons, hrun_gate, hcont_some, hgate_true, hgate_false, put_some, put_none, ev_t, ev_k, wantedA, execA, stepA, List.set_cons_succ, List.set_cons_zero, List.getD_cons_succ, List.getD_cons_zero, List.getElem?_cons_zero, List.getElem?_cons_succ, if_true, if_false, binA, binInt, unA, eqA, Option.map, eq_self, true_or, or_true, true_and, and_true, and_self, beq_self_eq_true, Bool.not_true, Bool.not_false, reduceCtorEq, Bool.false_eq_true, ite_true, ite_false, fitsAll, CK.fits, decide_true, Bool.and_true, Bool.true_and, fillA, AV.cells, writeN, readN, sliceCells, appendA, lenA, i64, loA, hiA, hcells_last, hown_last, List.take_zero, List.drop_zero, List.nil_append, List.cons_append, List.append_nil, List.take_nil, List.drop_nil, List.length_cons, List.length_nil, List.length_append, Nat.zero_add, Nat.add_zero, Nat.reduceAdd, Nat.reduceMul, Nat.reduceDiv, Nat.reduceSub, Nat.mul_one, Nat.one_mul, Nat.div_one, Nat.le_refl, Nat.reduceLeDiff, Nat.reduceLT, Int.toNat_natCast, Int.toNat_zero, Nat.zero_le, Int.natCast_nonneg, Int.reduceLE, Int.reduceLT, Option.some.injEq, foldA, maxA, minA, Cell.int.injEq, AV.c.injEq]; rfl) (AW_seq (AW_cond rfl ?_ ?_)))
  · intro ht
    have ht : (i : Int) < xs.length := of_decide_eq_true ht
    have ht2 : i < xs.length := by omega
    obtain ⟨u, o, full, rfl, hfull, hget⟩ := (hy.kept hk).get (i := i) (by rw [W32_length]; exact ht2)
    rw [W32_get ht2] at hget
    have hlt : (i : Int) < ((W32 xs).length : Nat) := by rw [W32_length]; omega
    have e3 := place_succ (i := i) (n := xs.length) (by omega) hi
    have ef : flat (beB 4) xs (i + 1) = flat (beB 4) xs i ++ beB 4 (xs.getD i 0) := rfl
    have fli := fl4 i
    refine AW_skip (AW_seq (AW_block (AW_seq (AW_run (by simp only [List.take_succ_cons, List.take_zero, List.drop_succ_cons, List.drop_zero, bne_self_eq_false, List.map_cons, List.map_nil, Bool.true_beq, Bool.false_beq, run_nil, run_cons, run_gate, cont_some, gate_true, gate_false, hrun_nil, hrun_cons, hrun_gate, hcont_some, hgate_true, hgate_false, put_some, put_none, ev_t, ev_k, wantedA, execA, stepA, List.set_cons_succ, List.set_cons_zero, List.getD_cons_succ, List.getD_cons_zero, List.getElem?_cons_zero, List.getElem?_cons_succ, if_true, if_false, binA, binInt, unA, eqA, Option.map, eq_self, true_or, or_true, true_and, and_true, and_self, beq_self_eq_true, Bool.not_true, Bool.not_false, reduceCtorEq, Bool.false_eq_true, ite_true, ite_false, fitsAll, CK.fits, decide_true, Bool.and_true, Bool.true_and, fillA, AV.cells, writeN, readN, sliceCells, appendA, lenA, i64, loA, hiA, hcells_last, hown_last, List.take_zero, List.drop_zero, List.nil_append, List.cons_append, List.append_nil, List.take_nil, List.drop_nil, List.length_cons, List.length_nil, List.length_append, Nat.zero_add, Nat.add_zero, Nat.reduceAdd, Nat.reduceMul, Nat.reduceDiv, Nat.reduceSub, Nat.mul_one, Nat.one_mul, Nat.div_one, Nat.le_refl, Nat.reduceLeDiff, Nat.reduceLT, Int.toNat_natCast, Int.toNat_zero, Nat.zero_le, Int.natCast_nonneg, Int.reduceLE, Int.reduceLT, Option.some.injEq, foldA, maxA, minA, Cell.int.injEq, AV.c.injEq, hfull, hlt, hget]; rfl) ?_))))
    generalize xs.getD i 0 = w at *
    have s1 : shrA .u32 (w : Int) 8 = ((w / 256 : Nat) : Int) := shr_lit (q := 8) rfl (by decide)
    have s2 : shrA .u32 (w : Int) 16 = ((w / 65536 : Nat) : Int) := shr_lit (q := 16) rfl (by decide)
    have s3 : shrA .u32 (w : Int) 24 = ((w / 16777216 : Nat) : Int) := shr_lit (q := 24) rfl (by decide)
    refine AW_ops (AO_take 13 (by simp only [List.take_succ_cons, List.take_zero, List.drop_succ_cons, List.drop_zero, bne_self_eq_false, List.map_cons, List.map_nil, Bool.true_beq, Bool.false_beq, run_nil, run_cons, run_gate, cont_some, gate_true, gate_false, hrun_nil, hrun_cons, hrun_gate, hcont_some, hgate_true, hgate_false, put_some, put_none, ev_t, ev_k, wantedA, execA, stepA, List.set_cons_succ, List.set_cons_zero, List.getD_cons_succ, List.getD_cons_zero, List.getElem?_cons_zero, List.getElem?_cons_succ, if_true, if_false, binA, binInt, unA, eqA, Option.map, eq_self, true_or, or_true, true_and, and_true, and_self, beq_self_eq_true, Bool.not_true, Bool.not_false, reduceCtorEq, Bool.false_eq_true, ite_true, ite_false, fitsAll, CK.fits, decide_true, Bool.and_true, Bool.true_and, fillA, AV.cells, writeN, readN, sliceCells, appendA, lenA, i64, loA, hiA, hcells_last, hown_last, List.take_zero, List.drop_zero, List.nil_append, List.cons_append, List.append_nil, List.take_nil, List.drop_nil, List.length_cons, List.length_nil, List.length_append, Nat.zero_add, Nat.add_zero, Nat.reduceAdd, Nat.reduceMul, Nat.reduceDiv, Nat.reduceSub, Nat.mul_one, Nat.one_mul, Nat.div_one, Nat.le_refl, Nat.reduceLeDiff, Nat.reduceLT, Int.toNat_natCast, Int.toNat_zero, Nat.zero_le, Int.natCast_nonneg, Int.reduceLE, Int.reduceLT, Option.some.injEq, foldA, maxA, minA, Cell.int.injEq, AV.c.injEq, s1, s2, s3, byte_of, rep4, List.drop_succ_cons, List.take_succ_cons]; rfl) ?_)
    refine AO_append (f := H.length) hx.app (cells_last rfl) rfl (by omega) (by simp) (Nat.le_refl _) (by have := hk.1; simp; omega) (by simp [W8_length, fli]; omega) rfl rfl ?_
    intro x' H2 hx' k2 _
    rw [← beB4, ← W8_append, ← ef] at hx'
    refine AO_take 1 (by simp only [List.take_succ_cons, List.take_zero, List.drop_succ_cons, List.drop_zero, bne_self_eq_false, List.map_cons, List.map_nil, Bool.true_beq, Bool.false_beq, run_nil, run_cons, run_gate, cont_some, gate_true, gate_false, hrun_nil, hrun_cons, hrun_gate, hcont_some, hgate_true, hgate_false, put_some, put_none, ev_t, ev_k, wantedA, execA, stepA, List.set_cons_succ, List.set_cons_zero, List.getD_cons_succ, List.getD_cons_zero, List.getElem?_cons_zero, List.getElem?_cons_succ, if_true, if_false, binA, binInt, unA, eqA, Option.map, eq_self, true_or, or_true, true_and, and_true, and_self, beq_self_eq_true, Bool.not_true, Bool.not_false, reduceCtorEq, Bool.false_eq_true, ite_true, ite_false, fitsAll, CK.fits, decide_true, Bool.and_true, Bool.true_and, fillA, AV.cells, writeN, readN, sliceCells, appendA, lenA, i64, loA, hiA, hcells_last, hown_last, List.take_zero, List.drop_zero, List.nil_append, List.cons_append, List.append_nil, List.take_nil, List.drop_nil, List.length_cons, List.length_nil, List.length_append, Nat.zero_add, Nat.add_zero, Nat.reduceAdd, Nat.reduceMul, Nat.reduceDiv, Nat.reduceSub, Nat.mul_one, Nat.one_mul, Nat.div_one, Nat.le_refl, Nat.reduceLeDiff, Nat.reduceLT, Int.toNat_natCast, Int.toNat_zero, Nat.zero_le, Int.natCast_nonneg, Int.reduceLE, Int.reduceLT, Option.some.injEq, foldA, maxA, minA, Cell.int.injEq, AV.c.injEq]; rfl) (AO_nil ?_)
    exact AW_run (by simp only [List.take_succ_cons, List.take_zero, List.drop_succ_cons, List.drop_zero, bne_self_eq_false, List.map_cons, List.map_nil, Bool.true_beq, Bool.false_beq, run_nil, run_cons, run_gate, cont_some, gate_true, gate_false, hrun_nil, hrun_cons, hrun_gate, hcont_some, hgate_true, hgate_false, put_some, put_none, ev_t, ev_k, wantedA, execA, stepA, List.set_cons_succ, List.set_cons_zero, List.getD_cons_succ, List.getD_cons_zero, List.getElem?_cons_zero, List.getElem?_cons_succ, if_true, if_false, binA, binInt, unA, eqA, Option.map, eq_self, true_or, or_true, true_and, and_true, and_self, beq_self_eq_true, Bool.not_true, Bool.not_false, reduceCtorEq, Bool.false_eq_true, ite_true, ite_false, fitsAll, CK.fits, decide_true, Bool.and_true, Bool.true_and, fillA, AV.cells, writeN, readN, sliceCells, appendA, lenA, i64, loA, hiA, hcells_last, hown_last, List.take_zero, List.drop_zero, List.nil_append, List.cons_append, List.append_nil, List.take_nil, List.drop_nil, List.length_cons, List.length_nil, List.length_append, Nat.zero_add, Nat.add_zero, Nat.reduceAdd, Nat.reduceMul, Nat.reduceDiv, Nat.reduceSub, Nat.mul_one, Nat.one_mul, Nat.div_one, Nat.le_refl, Nat.reduceLeDiff, Nat.reduceLT, Int.toNat_natCast, Int.toNat_zero, Nat.zero_le, Int.natCast_nonneg, Int.reduceLE, Int.reduceLT, Option.some.injEq, foldA, maxA, minA, Cell.int.injEq, AV.c.injEq, e3]; rfl) ⟨xs.length - (i + 1), by omega, i + 1, by omega, rfl, hk.trans ((Kept.push _ _ _).trans k2), x', hx', stale _ _ (by rw [W32_length] <;> rfl)⟩
  · intro ht
    have ht : ¬ (i : Int) < xs.length := of_decide_eq_false ht
    obtain rfl : i = xs.length := by omega
    exact AW_exit (AW_seq (AW_run (by simp only [List.take_succ_cons, List.take_zero, List.drop_succ_cons, List.drop_zero, bne_self_eq_false, List.map_cons, List.map_nil, Bool.true_beq, Bool.false_beq, run_nil, run_cons, run_gate, cont_some, gate_true, gate_false, hrun_nil, hrun_cons, hrun_gate, hcont_some, hgate_true, hgate_false, put_some, put_none, ev_t, ev_k, wantedA, execA, stepA, List.set_cons_succ, List.set_cons_zero, List.getD_cons_succ, List.getD_cons_zero, List.getElem?_cons_zero, List.getElem?_cons_succ, if_true, if_false, binA, binInt, unA, eqA, Option.map, eq_self, true_or, or_true, true_and, and_true, and_self, beq_self_eq_true, Bool.not_true, Bool.not_false, reduceCtorEq, Bool.false_eq_true, ite_true, ite_false, fitsAll, CK.fits, decide_true, Bool.and_true, Bool.true_and, fillA, AV.cells, writeN, readN, sliceCells, appendA, lenA, i64, loA, hiA, hcells_last, hown_last, List.take_zero, List.drop_zero, List.nil_append, List.cons_append, List.append_nil, List.take_nil, List.drop_nil, List.length_cons, List.length_nil, List.length_append, Nat.zero_add, Nat.add_zero, Nat.reduceAdd, Nat.reduceMul, Nat.reduceDiv, Nat.reduceSub, Nat.mul_one, Nat.one_mul, Nat.div_one, Nat.le_refl, Nat.reduceLeDiff, Nat.reduceLT, Int.toNat_natCast, Int.toNat_zero, Nat.zero_le, Int.natCast_nonneg, Int.reduceLE, Int.reduceLT, Option.some.injEq, foldA, maxA, minA, Cell.int.injEq, AV.c.injEq]; rfl) (AW_ret ⟨_, rfl, x, rfl, hx⟩)))

def W64w (xs : List Nat) : List Cell := xs.map fun (n : Nat) => Cell.int .u64 (n : Int)
theorem W64w_length {xs : List Nat} : (W64w xs).length = xs.length := by simp [W64w]
theorem W64w_get {xs : List Nat} {i : Nat} (h : i < xs.length) : (W64w xs)[i]? = some (.int .u64 ((xs.getD i 0 : Nat) : Int)) := by simp [W64w, h]




def wr64Inv (g : Nat → List Nat) (y : Cell) (xs : List Nat) (H0 : AHeap) (m : Nat) (fr : AFrame) (H : AHeap) : Prop := ∃ i : Nat, i ≤ xs.length ∧ m = xs.length - i ∧ Kept H0.length H0 H ∧ ∃ x, Own H0.length H x 1 (W8 (flat g xs i)) ∧ (∃ s : Nat → AV, fr = [.c y, s 1, .c .snil, .c x, s 4, s 5, s 6, s 7, s 8, s 9, s 10, .c y, .c (.int .i64 (xs.length : Int)), .c (.int .i64 (i : Int)), s 14, s 15, s 16, s 17, s 18, s 19, s 20, s 21, s 22, s 23, s 24, s 25, s 26, s 27, s 28, s 29, s 30])
def be64Inv (y : Cell) (xs : List Nat) (i w : Nat) (H0 : AHeap) (k : Nat) (fr : AFrame) (H : AHeap) : Prop := k ≤ 8 ∧ Kept H0.length H0 H ∧ ∃ x, Own H0.length H x 1 (W8 (flat (beB 8) xs i ++ ((leB 8 w).drop k).reverse)) ∧ (∃ s : Nat → AV, fr = [.c y, s 1, .c .snil, .c x, s 4, .c (.int .u64 (w : Int)), .c (.int .i64 ((k : Int) - 1)), s 7, s 8, s 9, s 10, .c y, .c (.int .i64 (xs.length : Int)), .c (.int .i64 (i : Int)), s 14, s 15, s 16, s 17, s 18, s 19, s 20, s 21, s 22, s 23, s 24, s 25, s 26, s 27, s 28, s 29, s 30])
theorem pow8 (k : Nat) : 2 ^ (8 * k) = 256 ^ k := by rw [Nat.pow_mul]

theorem AC_Big64 (H : AHeap) (y : Cell) (xs : List Nat) (hy : Rd H y 1 (W64w xs)) (hl : xs.length ≤ 1000000) : AC A H.length F_words_Big64 [.c y] H (fun v H' => ∃ x, v = .c x ∧ Own H.length H' x 1 (W8 (flat (beB 8) xs xs.length))) := by
  have e1 : IntKind.i64.wrap (8 * (xs.length : Int)) = ((8 * xs.length : Nat) : Int) := by rw [wrap_i64_of (by omega) (by omega)]; omega
  have e2 : ((8 * xs.length : Nat) : Int) * (1 : Nat) ≤ 140737488355328 := by omega
  have yl : (W64w xs).length = xs.length := W64w_length
  have fl4 := flat_length (beB_length 8) xs
  refine AC_enter t_words_Big64 ?_
  simp only [c_words_Big64, enterA, List.replicate, List.length_cons, List.length_nil, Nat.reduceAdd, Nat.reduceSub, List.cons_append, List.nil_append]
  refine AW_seq (AW_run (by simp only [List.take_succ_cons, List.take_zero, List.drop_succ_cons, List.drop_zero, bne_self_eq_false, List.map_cons, List.map_nil, Bool.true_beq, Bool.false_beq, run_nil, run_cons, run_gate, cont_some, gate_true, gate_false, hrun_nil, hrun_cons, hrun_gate, hcont_some, hgate_true, hgate_false, put_some, put_none, ev_t, ev_k, wantedA, execA, stepA, List.set_cons_succ, List.set_cons_zero, List.getD_cons_succ, List.getD_cons_zero, List.getElem?_cons_zero, List.getElem?_cons_succ, if_true, if_false, binA, binInt, unA, eqA, Option.map, eq_self, true_or, or_true, true_and, and_true, and_self, beq_self_eq_true, Bool.not_true, Bool.not_false, reduceCtorEq, Bool.false_eq_true, ite_true, ite_false, fitsAll, CK.fits, decide_true, Bool.and_true, Bool.true_and, fillA, AV.cells, writeN, readN, sliceCells, appendA, lenA, i64, loA, hiA, hcells_last, hown_last, List.take_zero, List.drop_zero, List.nil_append, List.cons_append, List.append_nil, List.take_nil, List.drop_nil, List.length_cons, List.length_nil, List.length_append, Nat.zero_add, Nat.add_zero, Nat.reduceAdd, Nat.reduceMul, Nat.reduceDiv, Nat.reduceSub, Nat.mul_one, Nat.one_mul, Nat.div_one, Nat.le_refl, Nat.reduceLeDiff, Nat.reduceLT, Int.toNat_natCast, Int.toNat_zero, Nat.zero_le, Int.natCast_nonneg, Int.reduceLE, Int.reduceLT, Option.some.injEq, foldA, maxA, minA, Cell.int.injEq, AV.c.injEq]; rfl) ?_)
  refine AW_seq (AW_ops (AO_take 1 (by simp only [List.take_succ_cons, List.take_zero, List.drop_succ_cons, List.drop_zero, bne_self_eq_false, List.map_cons, List.map_nil, Bool.true_beq, Bool.false_beq, run_nil, run_cons, run_gate, cont_some, gate_true, gate_false, hrun_nil, hrun_cons, hrun_gate, hcont_some, hgate_true, hgate_false, put_some, put_none, ev_t, ev_k, wantedA, execA, stepA, List.set_cons_succ, List.set_cons_zero, List.getD_cons_succ, List.getD_cons_zero, List.getElem?_cons_zero, List.getElem?_cons_succ, if_true, if_false, binA, binInt, unA, eqA, Option.map, eq_self, true_or, or_true, true_and, and_true, and_self, beq_self_eq_true, Bool.not_true, Bool.not_false, reduceCtorEq, Bool.false_eq_true, ite_true, ite_false, fitsAll, CK.fits, decide_true, Bool.and_true, Bool.true_and, fillA, AV.cells, writeN, readN, sliceCells, appendA, lenA, i64, loA, hiA, hcells_last, hown_last, List.take_zero, List.drop_zero, List.nil_append, List.cons_append, List.append_nil, List.take_nil, List.drop_nil, List.length_cons, List.length_nil, List.length_append, Nat.zero_add, Nat.add_zero, Nat.reduceAdd, Nat.reduceMul, Nat.reduceDiv, Nat.reduceSub, Nat.mul_one, Nat.one_mul, Nat.div_one, Nat.le_refl, Nat.reduceLeDiff, Nat.reduceLT, Int.toNat_natCast, Int.toNat_zero, Nat.zero_le, Int.natCast_nonneg, Int.reduceLE, Int.reduceLT, Option.some.injEq, foldA, maxA, minA, Cell.int.injEq, AV.c.injEq]; rfl) (AO_step rfl (exec_lenN hy yl rfl) ?_)))
  refine AO_take 3 (by simp only [List.take_succ_cons, List.take_zero, List.drop_succ_cons, List.drop_zero, bne_self_eq_false, List.map_cons, List.map_nil, Bool.true_beq, Bool.false_beq, run_nil, run_cons, run_gate, cont_some, gate_true, gate_false, hrun_nil, hrun_cons, hrun_gate, hcont_some, hgate_true, hgate_false, put_some, put_none, ev_t, ev_k, wantedA, execA, stepA, List.set_cons_succ, List.set_cons_zero, List.getD_cons_succ, List.getD_cons_zero, List.getElem?_cons_zero, List.getElem?_cons_succ, if_true, if_false, binA, binInt, unA, eqA, Option.map, eq_self, true_or, or_true, true_and, and_true, and_self, beq_self_eq_true, Bool.not_true, Bool.not_false, reduceCtorEq, Bool.false_eq_true, ite_true, ite_false, fitsAll, CK.fits, decide_true, Bool.and_true, Bool.true_and, fillA, AV.cells, writeN, readN, sliceCells, appendA, lenA, i64, loA, hiA, hcells_last, hown_last, List.take_zero, List.drop_zero, List.nil_append, List.cons_append, List.append_nil, List.take_nil, List.drop_nil, List.length_cons, List.length_nil, List.length_append, Nat.zero_add, Nat.add_zero, Nat.reduceAdd, Nat.reduceMul, Nat.reduceDiv, Nat.reduceSub, Nat.mul_one, Nat.one_mul, Nat.div_one, Nat.le_refl, Nat.reduceLeDiff, Nat.reduceLT, Int.toNat_natCast, Int.toNat_zero, Nat.zero_le, Int.natCast_nonneg, Int.reduceLE, Int.reduceLT, Option.some.injEq, foldA, maxA, minA, Cell.int.injEq, AV.c.injEq, e1, e2, List.replicate_zero, List.flatten_nil, Int.le_refl]; rfl) (AO_nil ?_)
  refine AW_seq (AW_seq (AW_ops (AO_take 1 (by simp only [List.take_succ_cons, List.take_zero, List.drop_succ_cons, List.drop_zero, bne_self_eq_false, List.map_cons, List.map_nil, Bool.true_beq, Bool.false_beq, run_nil, run_cons, run_gate, cont_some, gate_true, gate_false, hrun_nil, hrun_cons, hrun_gate, hcont_some, hgate_true, hgate_false, put_some, put_none, ev_t, ev_k, wantedA, execA, stepA, List.set_cons_succ, List.set_cons_zero, List.getD_cons_succ, List.getD_cons_zero, List.getElem?_cons_zero, List.getElem?_cons_succ, if_true, if_false, binA, binInt, unA, eqA, Option.map, eq_self, true_or, or_true, true_and, and_true, and_self, beq_self_eq_true, Bool.not_true, Bool.not_false, reduceCtorEq, Bool.false_eq_true, ite_true, ite_false, fitsAll, CK.fits, decide_true, Bool.and_true, Bool.true_and, fillA, AV.cells, writeN, readN, sliceCells, appendA, lenA, i64, loA, hiA, hcells_last, hown_last, List.take_zero, List.drop_zero, List.nil_append, List.cons_append, List.append_nil, List.take_nil, List.drop_nil, List.length_cons, List.length_nil, List.length_append, Nat.zero_add, Nat.add_zero, Nat.reduceAdd, Nat.reduceMul, Nat.reduceDiv, Nat.reduceSub, Nat.mul_one, Nat.one_mul, Nat.div_one, Nat.le_refl, Nat.reduceLeDiff, Nat.reduceLT, Int.toNat_natCast, Int.toNat_zero, Nat.zero_le, Int.natCast_nonneg, Int.reduceLE, Int.reduceLT, Option.some.injEq, foldA, maxA, minA, Cell.int.injEq, AV.c.injEq]; rfl) (AO_step rfl (exec_lenN (hy.kept (Kept.push _ _ _)) yl rfl) ?_))))
  refine AO_take 1 (by simp only [List.take_succ_cons, List.take_zero, List.drop_succ_cons, List.drop_zero, bne_self_eq_false, List.map_cons, List.map_nil, Bool.true_beq, Bool.false_beq, run_nil, run_cons, run_gate, cont_some, gate_true, gate_false, hrun_nil, hrun_cons, hrun_gate, hcont_some, hgate_true, hgate_false, put_some, put_none, ev_t, ev_k, wantedA, execA, stepA, List.set_cons_succ, List.set_cons_zero, List.getD_cons_succ, List.getD_cons_zero, List.getElem?_cons_zero, List.getElem?_cons_succ, if_true, if_false, binA, binInt, unA, eqA, Option.map, eq_self, true_or, or_true, true_and, and_true, and_self, beq_self_eq_true, Bool.not_true, Bool.not_false, reduceCtorEq, Bool.false_eq_true, ite_true, ite_false, fitsAll, CK.fits, decide_true, Bool.and_true, Bool.true_and, fillA, AV.cells, writeN, readN, sliceCells, appendA, lenA, i64, loA, hiA, hcells_last, hown_last, List.take_zero, List.drop_zero, List.nil_append, List.cons_append, List.append_nil, List.take_nil, List.drop_nil, List.length_cons, List.length_nil, List.length_append, Nat.zero_add, Nat.add_zero, Nat.reduceAdd, Nat.reduceMul, Nat.reduceDiv, Nat.reduceSub, Nat.mul_one, Nat.one_mul, Nat.div_one, Nat.le_refl, Nat.reduceLeDiff, Nat.reduceLT, Int.toNat_natCast, Int.toNat_zero, Nat.zero_le, Int.natCast_nonneg, Int.reduceLE, Int.reduceLT, Option.some.injEq, foldA, maxA, minA, Cell.int.injEq, AV.c.injEq]; rfl) (AO_nil (AW_block ?_))
  refine AW_loopN (wr64Inv (beB 8) y xs H) xs.length ⟨0, by omega, by omega, Kept.push _ _ _, .slc H.length 0 0 1, Own.one (cs := []) (Nat.le_refl _), stale _ _ rfl⟩ ?_
  rintro m fr H1 ⟨i, hi, hm, hk, x, hx, s, rfl⟩
  refine AW_seq (AW_run (by simp only [List.take_succ_cons, List.take_zero, List.drop_succ_cons, List.drop_zero, bne_self_eq_false, List.map_cons, List.map_nil, Bool.true_beq, Bool.false_beq, run_nil, run_cons, run_gate, cont_some, gate_true, gate_false, hrun_nil, hrun_cons, hrun_gate, hcont_some, hgate_true, hgate_false, put_some, put_none, ev_t, ev_k, wantedA, execA, stepA, List.set_cons_succ, List.set_cons_zero, List.getD_cons_succ, List.getD_cons_zero, List.getElem?_cons_zero, List.getElem?_cons_succ, if_true, if_false, binA, binInt, unA, eqA, Option.map, eq_self, true_or, or_true, true_and, and_true, and_self, beq_self_eq_true, Bool.not_true, Bool.not_false, reduceCtorEq, Bool.false_eq_true, ite_true, ite_false, fitsAll, CK.fits, decide_true, Bool.and_true, Bool.true_and, fillA, AV.cells, writeN, readN, sliceCells, appendA, lenA, i64, loA, hiA, hcells_last, hown_last, List.take_zero, List.drop_zero, List.nil_append, List.cons_append, List.append_nil, List.take_nil, List.drop_nil, List.length_cons, List.length_nil, List.length_append, Nat.zero_add, Nat.add_zero, Nat.reduceAdd, Nat.reduceMul, Nat.reduceDiv, Nat.reduceSub, Nat.mul_one, Nat.one_mul, Nat.div_one, Nat.le_refl, Nat.reduceLeDiff, Nat.reduceLT, Int.toNat_natCast, Int.toNat_zero, Nat.zero_le, Int.natCast_nonneg, Int.reduceLE, Int.reduceLT, Option.some.injEq, foldA, maxA, minA, Cell.int.injEq, AV.c.injEq]; rfl) (AW_seq (AW_cond rfl ?_ ?_)))
  · intro ht
    have ht : (i : Int) < xs.length := of_decide_eq_true ht
    have ht2 : i < xs.length := by omega
    obtain ⟨u, o, full, rfl, hfull, hget⟩ := (hy.kept hk).get (i := i) (by rw [W64w_length]; exact ht2)
    rw [W64w_get ht2] at hget
    have hlt : (i : Int) < ((W64w xs).length : Nat) := by rw [W64w_length]; omega
    have e3 := place_succ (i := i) (n := xs.length) (by omega) hi
    have ef : flat (beB 8) xs (i + 1) = flat (beB 8) xs i ++ beB 8 (xs.getD i 0) := rfl
    have fli := fl4 i
    refine AW_skip (AW_seq (AW_block (AW_seq (AW_run (by simp only [List.take_succ_cons, List.take_zero, List.drop_succ_cons, List.drop_zero, bne_self_eq_false, List.map_cons, List.map_nil, Bool.true_beq, Bool.false_beq, run_nil, run_cons, run_gate, cont_some, gate_true, gate_false, hrun_nil, hrun_cons, hrun_gate, hcont_some, hgate_true, hgate_false, put_some, put_none, ev_t, ev_k, wantedA, execA, stepA, List.set_cons_succ, List.set_cons_zero, List.getD_cons_succ, List.getD_cons_zero, List.getElem?_cons_zero, List.getElem?_cons_succ, if_true, if_false, binA, binInt, unA, eqA, Option.map, eq_self, true_or, or_true, true_and, and_true, and_self, beq_self_eq_true, Bool.not_true, Bool.not_false, reduceCtorEq, Bool.false_eq_true, ite_true, ite_false, fitsAll, CK.fits, decide_true, Bool.and_true, Bool.true_and, fillA, AV.cells, writeN, readN, sliceCells, appendA, lenA, i64, loA, hiA, hcells_last, hown_last, List.take_zero, List.drop_zero, List.nil_append, List.cons_append, List.append_nil, List.take_nil, List.drop_nil, List.length_cons, List.length_nil, List.length_append, Nat.zero_add, Nat.add_zero, Nat.reduceAdd, Nat.reduceMul, Nat.reduceDiv, Nat.reduceSub, Nat.mul_one, Nat.one_mul, Nat.div_one, Nat.le_refl, Nat.reduceLeDiff, Nat.reduceLT, Int.toNat_natCast, Int.toNat_zero, Nat.zero_le, Int.natCast_nonneg, Int.reduceLE, Int.reduceLT, Option.some.injEq, foldA, maxA, minA, Cell.int.injEq, AV.c.injEq, hfull, hlt, hget]; rfl) ?_))))
    generalize xs.getD i 0 = w at *
    refine AW_seq (AW_run (by simp only [List.take_succ_cons, List.take_zero, List.drop_succ_cons, List.drop_zero, bne_self_eq_false, List.map_cons, List.map_nil, Bool.true_beq, Bool.false_beq, run_nil, run_cons, run_gate, cont_some, gate_true, gate_false, hrun_nil, hrun_cons, hrun_gate, hcont_some, hgate_true, hgate_false, put_some, put_none, ev_t, ev_k, wantedA, execA, stepA, List.set_cons_succ, List.set_cons_zero, List.getD_cons_succ, List.getD_cons_zero, List.getElem?_cons_zero, List.getElem?_cons_succ, if_true, if_false, binA, binInt, unA, eqA, Option.map, eq_self, true_or, or_true, true_and, and_true, and_self, beq_self_eq_true, Bool.not_true, Bool.not_false, reduceCtorEq, Bool.false_eq_true, ite_true, ite_false, fitsAll, CK.fits, decide_true, Bool.and_true, Bool.true_and, fillA, AV.cells, writeN, readN, sliceCells, appendA, lenA, i64, loA, hiA, hcells_last, hown_last, List.take_zero, List.drop_zero, List.nil_append, List.cons_append, List.append_nil, List.take_nil, List.drop_nil, List.length_cons, List.length_nil, List.length_append, Nat.zero_add, Nat.add_zero, Nat.reduceAdd, Nat.reduceMul, Nat.reduceDiv, Nat.reduceSub, Nat.mul_one, Nat.one_mul, Nat.div_one, Nat.le_refl, Nat.reduceLeDiff, Nat.reduceLT, Int.toNat_natCast, Int.toNat_zero, Nat.zero_le, Int.natCast_nonneg, Int.reduceLE, Int.reduceLT, Option.some.injEq, foldA, maxA, minA, Cell.int.injEq, AV.c.injEq]; rfl) (AW_block ?_))
    refine AW_loopN (be64Inv (.slc u o (W64w xs).length 1) xs i w H) 8 ⟨by omega, hk, x, by rw [List.drop_of_length_le (by rw [leB_length]; omega)]; simpa using hx, stale _ _ rfl⟩ ?_
    rintro k fr H2 ⟨hk8, hkk, x, hx, s, rfl⟩
    refine AW_seq (AW_seq (AW_run (by simp only [List.take_succ_cons, List.take_zero, List.drop_succ_cons, List.drop_zero, bne_self_eq_false, List.map_cons, List.map_nil, Bool.true_beq, Bool.false_beq, run_nil, run_cons, run_gate, cont_some, gate_true, gate_false, hrun_nil, hrun_cons, hrun_gate, hcont_some, hgate_true, hgate_false, put_some, put_none, ev_t, ev_k, wantedA, execA, stepA, List.set_cons_succ, List.set_cons_zero, List.getD_cons_succ, List.getD_cons_zero, List.getElem?_cons_zero, List.getElem?_cons_succ, if_true, if_false, binA, binInt, unA, eqA, Option.map, eq_self, true_or, or_true, true_and, and_true, and_self, beq_self_eq_true, Bool.not_true, Bool.not_false, reduceCtorEq, Bool.false_eq_true, ite_true, ite_false, fitsAll, CK.fits, decide_true, Bool.and_true, Bool.true_and, fillA, AV.cells, writeN, readN, sliceCells, appendA, lenA, i64, loA, hiA, hcells_last, hown_last, List.take_zero, List.drop_zero, List.nil_append, List.cons_append, List.append_nil, List.take_nil, List.drop_nil, List.length_cons, List.length_nil, List.length_append, Nat.zero_add, Nat.add_zero, Nat.reduceAdd, Nat.reduceMul, Nat.reduceDiv, Nat.reduceSub, Nat.mul_one, Nat.one_mul, Nat.div_one, Nat.le_refl, Nat.reduceLeDiff, Nat.reduceLT, Int.toNat_natCast, Int.toNat_zero, Nat.zero_le, Int.natCast_nonneg, Int.reduceLE, Int.reduceLT, Option.some.injEq, foldA, maxA, minA, Cell.int.injEq, AV.c.injEq]; rfl) (AW_cond rfl ?_ ?_)))
    · intro ht3
      have ht3 : (k : Int) - 1 ≥ 0 := of_decide_eq_true ht3
      obtain ⟨q, rfl⟩ : ∃ q, k = q + 1 := ⟨k - 1, by omega⟩
      have eq1 : ((q + 1 : Nat) : Int) - 1 = (q : Int) := by omega
      have e5 : IntKind.i64.wrap (8 * (q : Int)) = ((8 * q : Nat) : Int) := by rw [wrap_i64_of (by omega) (by omega)]; omega
      have s1 : shrA .u64 (w : Int) ((8 * q : Nat) : Int) = ((w / 256 ^ q : Nat) : Int) := by rw [shr_of (show 8 * q ≤ 64 by omega), pow8]
      have n1 : ¬ ((8 * q : Nat) : Int) < 0 := by omega
      have e6 : IntKind.i64.wrap ((q : Int) - 1) = (q : Int) - 1 := wrap_i64_of (by omega) (by omega)
      have hq : q < (leB 8 w).length := by rw [leB_length]; omega
      have gq : (leB 8 w).getD q 0 = w / 256 ^ q % 256 := by simp [leB, show q < 8 by omega]
      simp only [eq1]
      refine AW_skip (AW_seq (AW_block ?_))
      refine AW_ops (AO_take 7 (by simp only [List.take_succ_cons, List.take_zero, List.drop_succ_cons, List.drop_zero, bne_self_eq_false, List.map_cons, List.map_nil, Bool.true_beq, Bool.false_beq, run_nil, run_cons, run_gate, cont_some, gate_true, gate_false, hrun_nil, hrun_cons, hrun_gate, hcont_some, hgate_true, hgate_false, put_some, put_none, ev_t, ev_k, wantedA, execA, stepA, List.set_cons_succ, List.set_cons_zero, List.getD_cons_succ, List.getD_cons_zero, List.getElem?_cons_zero, List.getElem?_cons_succ, if_true, if_false, binA, binInt, unA, eqA, Option.map, eq_self, true_or, or_true, true_and, and_true, and_self, beq_self_eq_true, Bool.not_true, Bool.not_false, reduceCtorEq, Bool.false_eq_true, ite_true, ite_false, fitsAll, CK.fits, decide_true, Bool.and_true, Bool.true_and, fillA, AV.cells, writeN, readN, sliceCells, appendA, lenA, i64, loA, hiA, hcells_last, hown_last, List.take_zero, List.drop_zero, List.nil_append, List.cons_append, List.append_nil, List.take_nil, List.drop_nil, List.length_cons, List.length_nil, List.length_append, Nat.zero_add, Nat.add_zero, Nat.reduceAdd, Nat.reduceMul, Nat.reduceDiv, Nat.reduceSub, Nat.mul_one, Nat.one_mul, Nat.div_one, Nat.le_refl, Nat.reduceLeDiff, Nat.reduceLT, Int.toNat_natCast, Int.toNat_zero, Nat.zero_le, Int.natCast_nonneg, Int.reduceLE, Int.reduceLT, Option.some.injEq, foldA, maxA, minA, Cell.int.injEq, AV.c.injEq, e5, s1, n1, byte_of]; rfl) ?_)
      refine AO_append (f := H.length) hx.app (cells_last rfl) rfl (by omega) (by simp) (Nat.le_refl _) (by have := hkk.1; simp; omega) (by simp [W8_length, fli, leB_length]; omega) rfl rfl ?_
      intro x' H3 hx' k2 _
      have ew : W8 (flat (beB 8) xs i ++ ((leB 8 w).drop (q + 1)).reverse) ++ [Cell.int .u8 ((w / 256 ^ q % 256 : Nat) : Int)] = W8 (flat (beB 8) xs i ++ ((leB 8 w).drop q).reverse) := by rw [drop_rev hq, gq, ← List.append_assoc, W8_append (ys := [_])]; rfl
      rw [ew] at hx'
      refine AO_take 1 (by simp only [List.take_succ_cons, List.take_zero, List.drop_succ_cons, List.drop_zero, bne_self_eq_false, List.map_cons, List.map_nil, Bool.true_beq, Bool.false_beq, run_nil, run_cons, run_gate, cont_some, gate_true, gate_false, hrun_nil, hrun_cons, hrun_gate, hcont_some, hgate_true, hgate_false, put_some, put_none, ev_t, ev_k, wantedA, execA, stepA, List.set_cons_succ, List.set_cons_zero, List.getD_cons_succ, List.getD_cons_zero, List.getElem?_cons_zero, List.getElem?_cons_succ, if_true, if_false, binA, binInt, unA, eqA, Option.map, eq_self, true_or, or_true, true_and, and_true, and_self, beq_self_eq_true, Bool.not_true, Bool.not_false, reduceCtorEq, Bool.false_eq_true, ite_true, ite_false, fitsAll, CK.fits, decide_true, Bool.and_true, Bool.true_and, fillA, AV.cells, writeN, readN, sliceCells, appendA, lenA, i64, loA, hiA, hcells_last, hown_last, List.take_zero, List.drop_zero, List.nil_append, List.cons_append, List.append_nil, List.take_nil, List.drop_nil, List.length_cons, List.length_nil, List.length_append, Nat.zero_add, Nat.add_zero, Nat.reduceAdd, Nat.reduceMul, Nat.reduceDiv, Nat.reduceSub, Nat.mul_one, Nat.one_mul, Nat.div_one, Nat.le_refl, Nat.reduceLeDiff, Nat.reduceLT, Int.toNat_natCast, Int.toNat_zero, Nat.zero_le, Int.natCast_nonneg, Int.reduceLE, Int.reduceLT, Option.some.injEq, foldA, maxA, minA, Cell.int.injEq, AV.c.injEq]; rfl) (AO_nil ?_)
      exact AW_run (by simp only [List.take_succ_cons, List.take_zero, List.drop_succ_cons, List.drop_zero, bne_self_eq_false, List.map_cons, List.map_nil, Bool.true_beq, Bool.false_beq, run_nil, run_cons, run_gate, cont_some, gate_true, gate_false, hrun_nil, hrun_cons, hrun_gate, hcont_some, hgate_true, hgate_false, put_some, put_none, ev_t, ev_k, wantedA, execA, stepA, List.set_cons_succ, List.set_cons_zero, List.getD_cons_succ, List.getD_cons_zero, List.getElem?_cons_zero, List.getElem?_cons_succ, if_true, if_false, binA, binInt, unA, eqA, Option.map, eq_self, true_or, or_true, true_and, and_true, and_self, beq_self_eq_true, Bool.not_true, Bool.not_false, reduceCtorEq, Bool.false_eq_true, ite_true, ite_false, fitsAll, CK.fits, decide_true, Bool.and_true, Bool.true_and, fillA, AV.cells, writeN, readN, sliceCells, appendA, lenA, i64, loA, hiA, hcells_last, hown_last, List.take_zero, List.drop_zero, List.nil_append, List.cons_append, List.append_nil, List.take_nil, List.drop_nil, List.length_cons, List.length_nil, List.length_append, Nat.zero_add, Nat.add_zero, Nat.reduceAdd, Nat.reduceMul, Nat.reduceDiv, Nat.reduceSub, Nat.mul_one, Nat.one_mul, Nat.div_one, Nat.le_refl, Nat.reduceLeDiff, Nat.reduceLT, Int.toNat_natCast, Int.toNat_zero, Nat.zero_le, Int.natCast_nonneg, Int.reduceLE, Int.reduceLT, Option.some.injEq, foldA, maxA, minA, Cell.int.injEq, AV.c.injEq, e6]; rfl) ⟨q, by omega, by omega, hkk.trans ((Kept.push _ _ _).trans k2), x', hx', stale _ _ rfl⟩
    · intro ht3
      have ht3 : ¬ (k : Int) - 1 ≥ 0 := of_decide_eq_false ht3
      obtain rfl : k = 0 := by omega
      rw [List.drop_zero] at hx
      have hx : Own H.length H2 x 1 (W8 (flat (beB 8) xs (i + 1))) := by rw [ef]; exact hx
      refine AW_exit ?_
      exact AW_run (by simp only [List.take_succ_cons, List.take_zero, List.drop_succ_cons, List.drop_zero, bne_self_eq_false, List.map_cons, List.map_nil, Bool.true_beq, Bool.false_beq, run_nil, run_cons, run_gate, cont_some, gate_true, gate_false, hrun_nil, hrun_cons, hrun_gate, hcont_some, hgate_true, hgate_false, put_some, put_none, ev_t, ev_k, wantedA, execA, stepA, List.set_cons_succ, List.set_cons_zero, List.getD_cons_succ, List.getD_cons_zero, List.getElem?_cons_zero, List.getElem?_cons_succ, if_true, if_false, binA, binInt, unA, eqA, Option.map, eq_self, true_or, or_true, true_and, and_true, and_self, beq_self_eq_true, Bool.not_true, Bool.not_false, reduceCtorEq, Bool.false_eq_true, ite_true, ite_false, fitsAll, CK.fits, decide_true, Bool.and_true, Bool.true_and, fillA, AV.cells, writeN, readN, sliceCells, appendA, lenA, i64, loA, hiA, hcells_last, hown_last, List.take_zero, List.drop_zero, List.nil_append, List.cons_append, List.append_nil, List.take_nil, List.drop_nil, List.length_cons, List.length_nil, List.length_append, Nat.zero_add, Nat.add_zero, Nat.reduceAdd, Nat.reduceMul, Nat.reduceDiv, Nat.reduceSub, Nat.mul_one, Nat.one_mul, Nat.div_one, Nat.le_refl, Nat.reduceLeDiff, Nat.reduceLT, Int.toNat_natCast, Int.toNat_zero, Nat.zero_le, Int.natCast_nonneg, Int.reduceLE, Int.reduceLT, Option.some.injEq, foldA, maxA, minA, Cell.int.injEq, AV.c.injEq, e3]; rfl) ⟨xs.length - (i + 1), by omega, i + 1, by omega, rfl, hkk, x, hx, stale _ _ (by rw [W64w_length] <;> rfl)⟩
  · intro ht
    have ht : ¬ (i : Int) < xs.length := of_decide_eq_false ht
    obtain rfl : i = xs.length := by omega
    exact AW_exit (AW_seq (AW_run (by simp only [List.take_succ_cons, List.take_zero, List.drop_succ_cons, List.drop_zero, bne_self_eq_false, List.map_cons, List.map_nil, Bool.true_beq, Bool.false_beq, run_nil, run_cons, run_gate, cont_some, gate_true, gate_false, hrun_nil, hrun_cons, hrun_gate, hcont_some, hgate_true, hgate_false, put_some, put_none, ev_t, ev_k, wantedA, execA, stepA, List.set_cons_succ, List.set_cons_zero, List.getD_cons_succ, List.getD_cons_zero, List.getElem?_cons_zero, List.getElem?_cons_succ, if_true, if_false, binA, binInt, unA, eqA, Option.map, eq_self, true_or, or_true, true_and, and_true, and_self, beq_self_eq_true, Bool.not_true, Bool.not_false, reduceCtorEq, Bool.false_eq_true, ite_true, ite_false, fitsAll, CK.fits, decide_true, Bool.and_true, Bool.true_and, fillA, AV.cells, writeN, readN, sliceCells, appendA, lenA, i64, loA, hiA, hcells_last, hown_last, List.take_zero, List.drop_zero, List.nil_append, List.cons_append, List.append_nil, List.take_nil, List.drop_nil, List.length_cons, List.length_nil, List.length_append, Nat.zero_add, Nat.add_zero, Nat.reduceAdd, Nat.reduceMul, Nat.reduceDiv, Nat.reduceSub, Nat.mul_one, Nat.one_mul, Nat.div_one, Nat.le_refl, Nat.reduceLeDiff, Nat.reduceLT, Int.toNat_natCast, Int.toNat_zero, Nat.zero_le, Int.natCast_nonneg, Int.reduceLE, Int.reduceLT, Option.some.injEq, foldA, maxA, minA, Cell.int.injEq, AV.c.injEq]; rfl) (AW_ret ⟨_, rfl, x, rfl, hx⟩)))
end PK

/- Words taken out of bytes, walked. -/
namespace PK
open Go PAbs
set_option linter.unusedSimpArgs false
set_option linter.unusedVariables false
set_option maxRecDepth 100000

def tk (k : Nat) (at_ : Nat → Nat) (bs : List Nat) : Nat → List Nat
  | 0 => List.replicate (bs.length / k) 0
  | i + 1 => (tk k at_ bs i).set (i / k) ((tk k at_ bs i).getD (i / k) 0 ||| (bs.getD i 0 * 2 ^ (8 * at_ (i % k)) % 2 ^ (8 * k)))
theorem tk_length (k : Nat) (at_ : Nat → Nat) (bs : List Nat) : ∀ i, (tk k at_ bs i).length = bs.length / k
  | 0 => by simp [tk]
  | i + 1 => by simp [tk, tk_length k at_ bs i]
theorem getD_set' {xs : List Nat} {a b v : Nat} : (xs.set a v).getD b 0 = if a = b ∧ a < xs.length then v else xs.getD b 0 := by
  simp only [List.getD_eq_getElem?_getD, List.getElem?_set]
  by_cases h : a = b
  · subst h
    by_cases h2 : a < xs.length <;> simp [h2]
  · simp [h]
theorem tk_lt (k : Nat) (at_ : Nat → Nat) (bs : List Nat) : ∀ i j, (tk k at_ bs i).getD j 0 < 2 ^ (8 * k)
  | 0, j => by
    simp only [tk, List.getD_eq_getElem?_getD, List.getElem?_replicate]
    split <;> simp [Nat.two_pow_pos]
  | i + 1, j => by
    simp only [tk, getD_set']
    split
    · exact Nat.or_lt_two_pow (tk_lt k at_ bs i _) (Nat.mod_lt _ (Nat.two_pow_pos _))
    · exact tk_lt k at_ bs i j
theorem W32_set {xs : List Nat} {i n : Nat} (h : i < xs.length) : List.take i (W32 xs) ++ [Cell.int .u32 (n : Int)] ++ List.drop (i + 1) (W32 xs) = W32 (xs.set i n) := by
  simp only [W32, List.map_set, List.append_assoc, List.cons_append, List.nil_append]
  rw [List.set_eq_take_append_cons_drop, if_pos (by simpa using h)]
theorem zeros32 (n : Nat) : (List.replicate n [Cell.int .u32 0]).flatten = W32 (List.replicate n 0) := by
  induction n with
  | zero => rfl
  | succ n ih => simp only [List.replicate_succ, List.flatten_cons, ih, W32, List.map_cons]; rfl


def takeInv (at_ : Nat → Nat) (f b : Nat) (y : Cell) (bs : List Nat) (H0 : AHeap) (m : Nat) (fr : AFrame) (H : AHeap) : Prop := ∃ i : Nat, i ≤ bs.length ∧ m = bs.length - i ∧ Kept H0.length H0 H ∧ hown H b = some (W32 (tk 4 at_ bs i)) ∧ (∃ s : Nat → AV, fr = [.c y, .c (.fn f), s 2, s 3, .c .snil, .c (.int .i64 0), .c (.slc b 0 (bs.length / 4) 1), s 7, s 8, s 9, s 10, s 11, s 12, s 13, s 14, s 15, s 16, .c y, .c (.int .i64 (bs.length : Int)), .c (.int .i64 (i : Int)), s 20, s 21, s 22, s 23, s 24, s 25, s 26, s 27, s 28, s 29, s 30, s 31, s 32, s 33, s 34, s 35, s 36, s 37, s 38, s 39, s 40])

theorem AC_take (H : AHeap) (y : Cell) (bs : List Nat) (f : Nat) (at_ : Nat → Nat) (hy : Rd H y 1 (W8 bs)) (hl : bs.length ≤ 1000000) (hbs : ∀ k, bs.getD k 0 < 256) (hat : ∀ q, q < 4 → at_ q < 4)
    (hf : ∀ (H : AHeap) (q : Nat), q < 4 → AC A H.length f [.c (.int .i64 (q : Int))] H (fun v H' => v = .c (.int .i64 ((at_ q : Nat) : Int)) ∧ H' = H)) :
    AC A H.length F_words_take [.c y, .c (.fn f)] H (fun v H' => (bs.length % 4 ≠ 0 ∧ v = .tup [.c .snil, .c (.int .i64 9)]) ∨ (bs.length % 4 = 0 ∧ ∃ x, v = .tup [.c x, .c (.int .i64 0)] ∧ Own H.length H' x 1 (W32 (tk 4 at_ bs bs.length)))) := by
  have yl : (W8 bs).length = bs.length := W8_length
  have z : ¬ ((4 : Int) = 0) := by omega
  have em : Int.tmod (bs.length : Int) 4 = ((bs.length % 4 : Nat) : Int) := by rw [tmod_pos (by omega)]; omega
  have ed : IntKind.i64.wrap (Int.tdiv (bs.length : Int) 4) = ((bs.length / 4 : Nat) : Int) := by rw [Int.tdiv_eq_ediv_of_nonneg (by omega), wrap_i64_of (by omega) (by omega)]; omega
  refine AC_enter t_words_take ?_
  simp only [c_words_take, enterA, List.replicate, List.length_cons, List.length_nil, Nat.reduceAdd, Nat.reduceSub, List.cons_append, List.nil_append]
  refine AW_seq (AW_run (by simp only [List.take_succ_cons, List.take_zero, List.drop_succ_cons, List.drop_zero, bne_self_eq_false, List.map_cons, List.map_nil, Bool.true_beq, Bool.false_beq, run_nil, run_cons, run_gate, cont_some, gate_true, gate_false, hrun_nil, hrun_cons, hrun_gate, hcont_some, hgate_true, hgate_false, put_some, put_none, ev_t, ev_k, wantedA, execA, stepA, List.set_cons_succ, List.set_cons_zero, List.getD_cons_succ, List.getD_cons_zero, List.getElem?_cons_zero, List.getElem?_cons_succ, if_true, if_false, binA, binInt, unA, eqA, Option.map, eq_self, true_or, or_true, true_and, and_true, and_self, beq_self_eq_true, Bool.not_true, Bool.not_false, reduceCtorEq, Bool.false_eq_true, ite_true, ite_false, fitsAll, CK.fits, decide_true, Bool.and_true, Bool.true_and, fillA, AV.cells, writeN, readN, sliceCells, appendA, lenA, i64, loA, hiA, hcells_last, hown_last, List.take_zero, List.drop_zero, List.nil_append, List.cons_append, List.append_nil, List.take_nil, List.drop_nil, List.length_cons, List.length_nil, List.length_append, Nat.zero_add, Nat.add_zero, Nat.reduceAdd, Nat.reduceMul, Nat.reduceDiv, Nat.reduceSub, Nat.mul_one, Nat.one_mul, Nat.div_one, Nat.le_refl, Nat.reduceLeDiff, Nat.reduceLT, Int.toNat_natCast, Int.toNat_zero, Nat.zero_le, Int.natCast_nonneg, Int.reduceLE, Int.reduceLT, Option.some.injEq, foldA, maxA, minA, Cell.int.injEq, AV.c.injEq]; rfl) ?_)
  refine AW_seq (AW_seq (AW_ops (AO_take 1 (by simp only [List.take_succ_cons, List.take_zero, List.drop_succ_cons, List.drop_zero, bne_self_eq_false, List.map_cons, List.map_nil, Bool.true_beq, Bool.false_beq, run_nil, run_cons, run_gate, cont_some, gate_true, gate_false, hrun_nil, hrun_cons, hrun_gate, hcont_some, hgate_true, hgate_false, put_some, put_none, ev_t, ev_k, wantedA, execA, stepA, List.set_cons_succ, List.set_cons_zero, List.getD_cons_succ, List.getD_cons_zero, List.getElem?_cons_zero, List.getElem?_cons_succ, if_true, if_false, binA, binInt, unA, eqA, Option.map, eq_self, true_or, or_true, true_and, and_true, and_self, beq_self_eq_true, Bool.not_true, Bool.not_false, reduceCtorEq, Bool.false_eq_true, ite_true, ite_false, fitsAll, CK.fits, decide_true, Bool.and_true, Bool.true_and, fillA, AV.cells, writeN, readN, sliceCells, appendA, lenA, i64, loA, hiA, hcells_last, hown_last, List.take_zero, List.drop_zero, List.nil_append, List.cons_append, List.append_nil, List.take_nil, List.drop_nil, List.length_cons, List.length_nil, List.length_append, Nat.zero_add, Nat.add_zero, Nat.reduceAdd, Nat.reduceMul, Nat.reduceDiv, Nat.reduceSub, Nat.mul_one, Nat.one_mul, Nat.div_one, Nat.le_refl, Nat.reduceLeDiff, Nat.reduceLT, Int.toNat_natCast, Int.toNat_zero, Nat.zero_le, Int.natCast_nonneg, Int.reduceLE, Int.reduceLT, Option.some.injEq, foldA, maxA, minA, Cell.int.injEq, AV.c.injEq]; rfl) (AO_step rfl (exec_lenN hy yl rfl) ?_))))
  refine AO_take 2 (by simp only [List.take_succ_cons, List.take_zero, List.drop_succ_cons, List.drop_zero, bne_self_eq_false, List.map_cons, List.map_nil, Bool.true_beq, Bool.false_beq, run_nil, run_cons, run_gate, cont_some, gate_true, gate_false, hrun_nil, hrun_cons, hrun_gate, hcont_some, hgate_true, hgate_false, put_some, put_none, ev_t, ev_k, wantedA, execA, stepA, List.set_cons_succ, List.set_cons_zero, List.getD_cons_succ, List.getD_cons_zero, List.getElem?_cons_zero, List.getElem?_cons_succ, if_true, if_false, binA, binInt, unA, eqA, Option.map, eq_self, true_or, or_true, true_and, and_true, and_self, beq_self_eq_true, Bool.not_true, Bool.not_false, reduceCtorEq, Bool.false_eq_true, ite_true, ite_false, fitsAll, CK.fits, decide_true, Bool.and_true, Bool.true_and, fillA, AV.cells, writeN, readN, sliceCells, appendA, lenA, i64, loA, hiA, hcells_last, hown_last, List.take_zero, List.drop_zero, List.nil_append, List.cons_append, List.append_nil, List.take_nil, List.drop_nil, List.length_cons, List.length_nil, List.length_append, Nat.zero_add, Nat.add_zero, Nat.reduceAdd, Nat.reduceMul, Nat.reduceDiv, Nat.reduceSub, Nat.mul_one, Nat.one_mul, Nat.div_one, Nat.le_refl, Nat.reduceLeDiff, Nat.reduceLT, Int.toNat_natCast, Int.toNat_zero, Nat.zero_le, Int.natCast_nonneg, Int.reduceLE, Int.reduceLT, Option.some.injEq, foldA, maxA, minA, Cell.int.injEq, AV.c.injEq, z, em]; rfl) (AO_nil (AW_cond rfl ?_ ?_))
  · intro h
    have h : ((bs.length % 4 : Nat) : Int) ≠ 0 := by simpa using h
    exact AW_seq (AW_run (by simp only [List.take_succ_cons, List.take_zero, List.drop_succ_cons, List.drop_zero, bne_self_eq_false, List.map_cons, List.map_nil, Bool.true_beq, Bool.false_beq, run_nil, run_cons, run_gate, cont_some, gate_true, gate_false, hrun_nil, hrun_cons, hrun_gate, hcont_some, hgate_true, hgate_false, put_some, put_none, ev_t, ev_k, wantedA, execA, stepA, List.set_cons_succ, List.set_cons_zero, List.getD_cons_succ, List.getD_cons_zero, List.getElem?_cons_zero, List.getElem?_cons_succ, if_true, if_false, binA, binInt, unA, eqA, Option.map, eq_self, true_or, or_true, true_and, and_true, and_self, beq_self_eq_true, Bool.not_true, Bool.not_false, reduceCtorEq, Bool.false_eq_true, ite_true, ite_false, fitsAll, CK.fits, decide_true, Bool.and_true, Bool.true_and, fillA, AV.cells, writeN, readN, sliceCells, appendA, lenA, i64, loA, hiA, hcells_last, hown_last, List.take_zero, List.drop_zero, List.nil_append, List.cons_append, List.append_nil, List.take_nil, List.drop_nil, List.length_cons, List.length_nil, List.length_append, Nat.zero_add, Nat.add_zero, Nat.reduceAdd, Nat.reduceMul, Nat.reduceDiv, Nat.reduceSub, Nat.mul_one, Nat.one_mul, Nat.div_one, Nat.le_refl, Nat.reduceLeDiff, Nat.reduceLT, Int.toNat_natCast, Int.toNat_zero, Nat.zero_le, Int.natCast_nonneg, Int.reduceLE, Int.reduceLT, Option.some.injEq, foldA, maxA, minA, Cell.int.injEq, AV.c.injEq]; rfl) (AW_ret ⟨_, rfl, .inl ⟨by omega, rfl⟩⟩))
  intro h
  have h : ((bs.length % 4 : Nat) : Int) = 0 := by simpa using h
  have h0 : bs.length % 4 = 0 := by omega
  refine AW_skip (AW_seq (AW_ops (AO_take 1 (by simp only [List.take_succ_cons, List.take_zero, List.drop_succ_cons, List.drop_zero, bne_self_eq_false, List.map_cons, List.map_nil, Bool.true_beq, Bool.false_beq, run_nil, run_cons, run_gate, cont_some, gate_true, gate_false, hrun_nil, hrun_cons, hrun_gate, hcont_some, hgate_true, hgate_false, put_some, put_none, ev_t, ev_k, wantedA, execA, stepA, List.set_cons_succ, List.set_cons_zero, List.getD_cons_succ, List.getD_cons_zero, List.getElem?_cons_zero, List.getElem?_cons_succ, if_true, if_false, binA, binInt, unA, eqA, Option.map, eq_self, true_or, or_true, true_and, and_true, and_self, beq_self_eq_true, Bool.not_true, Bool.not_false, reduceCtorEq, Bool.false_eq_true, ite_true, ite_false, fitsAll, CK.fits, decide_true, Bool.and_true, Bool.true_and, fillA, AV.cells, writeN, readN, sliceCells, appendA, lenA, i64, loA, hiA, hcells_last, hown_last, List.take_zero, List.drop_zero, List.nil_append, List.cons_append, List.append_nil, List.take_nil, List.drop_nil, List.length_cons, List.length_nil, List.length_append, Nat.zero_add, Nat.add_zero, Nat.reduceAdd, Nat.reduceMul, Nat.reduceDiv, Nat.reduceSub, Nat.mul_one, Nat.one_mul, Nat.div_one, Nat.le_refl, Nat.reduceLeDiff, Nat.reduceLT, Int.toNat_natCast, Int.toNat_zero, Nat.zero_le, Int.natCast_nonneg, Int.reduceLE, Int.reduceLT, Option.some.injEq, foldA, maxA, minA, Cell.int.injEq, AV.c.injEq]; rfl) (AO_step rfl (exec_lenN hy yl rfl) ?_))))
  have c1 : (0 : Int) ≤ ((bs.length / 4 : Nat) : Int) := by omega
  have c2 : ((bs.length / 4 : Nat) : Int) ≤ ((bs.length / 4 : Nat) : Int) := Int.le_refl _
  have c3 : ((bs.length / 4 : Nat) : Int) * (4 : Nat) ≤ 140737488355328 := by omega
  refine AO_take 3 (by simp only [List.take_succ_cons, List.take_zero, List.drop_succ_cons, List.drop_zero, bne_self_eq_false, List.map_cons, List.map_nil, Bool.true_beq, Bool.false_beq, run_nil, run_cons, run_gate, cont_some, gate_true, gate_false, hrun_nil, hrun_cons, hrun_gate, hcont_some, hgate_true, hgate_false, put_some, put_none, ev_t, ev_k, wantedA, execA, stepA, List.set_cons_succ, List.set_cons_zero, List.getD_cons_succ, List.getD_cons_zero, List.getElem?_cons_zero, List.getElem?_cons_succ, if_true, if_false, binA, binInt, unA, eqA, Option.map, eq_self, true_or, or_true, true_and, and_true, and_self, beq_self_eq_true, Bool.not_true, Bool.not_false, reduceCtorEq, Bool.false_eq_true, ite_true, ite_false, fitsAll, CK.fits, decide_true, Bool.and_true, Bool.true_and, fillA, AV.cells, writeN, readN, sliceCells, appendA, lenA, i64, loA, hiA, hcells_last, hown_last, List.take_zero, List.drop_zero, List.nil_append, List.cons_append, List.append_nil, List.take_nil, List.drop_nil, List.length_cons, List.length_nil, List.length_append, Nat.zero_add, Nat.add_zero, Nat.reduceAdd, Nat.reduceMul, Nat.reduceDiv, Nat.reduceSub, Nat.mul_one, Nat.one_mul, Nat.div_one, Nat.le_refl, Nat.reduceLeDiff, Nat.reduceLT, Int.toNat_natCast, Int.toNat_zero, Nat.zero_le, Int.natCast_nonneg, Int.reduceLE, Int.reduceLT, Option.some.injEq, foldA, maxA, minA, Cell.int.injEq, AV.c.injEq, z, ed, c1, c2, c3, zeros32]; rfl) (AO_nil ?_)
  refine AW_seq (AW_seq (AW_ops (AO_take 1 (by simp only [List.take_succ_cons, List.take_zero, List.drop_succ_cons, List.drop_zero, bne_self_eq_false, List.map_cons, List.map_nil, Bool.true_beq, Bool.false_beq, run_nil, run_cons, run_gate, cont_some, gate_true, gate_false, hrun_nil, hrun_cons, hrun_gate, hcont_some, hgate_true, hgate_false, put_some, put_none, ev_t, ev_k, wantedA, execA, stepA, List.set_cons_succ, List.set_cons_zero, List.getD_cons_succ, List.getD_cons_zero, List.getElem?_cons_zero, List.getElem?_cons_succ, if_true, if_false, binA, binInt, unA, eqA, Option.map, eq_self, true_or, or_true, true_and, and_true, and_self, beq_self_eq_true, Bool.not_true, Bool.not_false, reduceCtorEq, Bool.false_eq_true, ite_true, ite_false, fitsAll, CK.fits, decide_true, Bool.and_true, Bool.true_and, fillA, AV.cells, writeN, readN, sliceCells, appendA, lenA, i64, loA, hiA, hcells_last, hown_last, List.take_zero, List.drop_zero, List.nil_append, List.cons_append, List.append_nil, List.take_nil, List.drop_nil, List.length_cons, List.length_nil, List.length_append, Nat.zero_add, Nat.add_zero, Nat.reduceAdd, Nat.reduceMul, Nat.reduceDiv, Nat.reduceSub, Nat.mul_one, Nat.one_mul, Nat.div_one, Nat.le_refl, Nat.reduceLeDiff, Nat.reduceLT, Int.toNat_natCast, Int.toNat_zero, Nat.zero_le, Int.natCast_nonneg, Int.reduceLE, Int.reduceLT, Option.some.injEq, foldA, maxA, minA, Cell.int.injEq, AV.c.injEq]; rfl) (AO_step rfl (exec_lenN (hy.kept (Kept.push _ _ _)) yl rfl) ?_))))
  refine AO_take 1 (by simp only [List.take_succ_cons, List.take_zero, List.drop_succ_cons, List.drop_zero, bne_self_eq_false, List.map_cons, List.map_nil, Bool.true_beq, Bool.false_beq, run_nil, run_cons, run_gate, cont_some, gate_true, gate_false, hrun_nil, hrun_cons, hrun_gate, hcont_some, hgate_true, hgate_false, put_some, put_none, ev_t, ev_k, wantedA, execA, stepA, List.set_cons_succ, List.set_cons_zero, List.getD_cons_succ, List.getD_cons_zero, List.getElem?_cons_zero, List.getElem?_cons_succ, if_true, if_false, binA, binInt, unA, eqA, Option.map, eq_self, true_or, or_true, true_and, and_true, and_self, beq_self_eq_true, Bool.not_true, Bool.not_false, reduceCtorEq, Bool.false_eq_true, ite_true, ite_false, fitsAll, CK.fits, decide_true, Bool.and_true, Bool.true_and, fillA, AV.cells, writeN, readN, sliceCells, appendA, lenA, i64, loA, hiA, hcells_last, hown_last, List.take_zero, List.drop_zero, List.nil_append, List.cons_append, List.append_nil, List.take_nil, List.drop_nil, List.length_cons, List.length_nil, List.length_append, Nat.zero_add, Nat.add_zero, Nat.reduceAdd, Nat.reduceMul, Nat.reduceDiv, Nat.reduceSub, Nat.mul_one, Nat.one_mul, Nat.div_one, Nat.le_refl, Nat.reduceLeDiff, Nat.reduceLT, Int.toNat_natCast, Int.toNat_zero, Nat.zero_le, Int.natCast_nonneg, Int.reduceLE, Int.reduceLT, Option.some.injEq, foldA, maxA, minA, Cell.int.injEq, AV.c.injEq]; rfl) (AO_nil (AW_block ?_))
  generalize hb : H.length = b at *
  refine AW_loopN (takeInv at_ f b y bs H) bs.length ⟨0, by omega, by omega, Kept.push _ _ _, by rw [← hb]; exact hown_last, stale _ _ rfl⟩ ?_
  rintro m fr H1 ⟨i, hi, hm, hk, ho, s, rfl⟩
  refine AW_seq (AW_run (by simp only [List.take_succ_cons, List.take_zero, List.drop_succ_cons, List.drop_zero, bne_self_eq_false, List.map_cons, List.map_nil, Bool.true_beq, Bool.false_beq, run_nil, run_cons, run_gate, cont_some, gate_true, gate_false, hrun_nil, hrun_cons, hrun_gate, hcont_some, hgate_true, hgate_false, put_some, put_none, ev_t, ev_k, wantedA, execA, stepA, List.set_cons_succ, List.set_cons_zero, List.getD_cons_succ, List.getD_cons_zero, List.getElem?_cons_zero, List.getElem?_cons_succ, if_true, if_false, binA, binInt, unA, eqA, Option.map, eq_self, true_or, or_true, true_and, and_true, and_self, beq_self_eq_true, Bool.not_true, Bool.not_false, reduceCtorEq, Bool.false_eq_true, ite_true, ite_false, fitsAll, CK.fits, decide_true, Bool.and_true, Bool.true_and, fillA, AV.cells, writeN, readN, sliceCells, appendA, lenA, i64, loA, hiA, hcells_last, hown_last, List.take_zero, List.drop_zero, List.nil_append, List.cons_append, List.append_nil, List.take_nil, List.drop_nil, List.length_cons, List.length_nil, List.length_append, Nat.zero_add, Nat.add_zero, Nat.reduceAdd, Nat.reduceMul, Nat.reduceDiv, Nat.reduceSub, Nat.mul_one, Nat.one_mul, Nat.div_one, Nat.le_refl, Nat.reduceLeDiff, Nat.reduceLT, Int.toNat_natCast, Int.toNat_zero, Nat.zero_le, Int.natCast_nonneg, Int.reduceLE, Int.reduceLT, Option.some.injEq, foldA, maxA, minA, Cell.int.injEq, AV.c.injEq]; rfl) (AW_seq (AW_cond rfl ?_ ?_)))
  · intro ht
    have ht : (i : Int) < bs.length := of_decide_eq_true ht
    have ht2 : i < bs.length := by omega
    obtain ⟨u, o, full, rfl, hfull, hget⟩ := (hy.kept hk).get (i := i) (by rw [yl]; exact ht2)
    rw [W8_get ht2] at hget
    have hlt : (i : Int) < ((W8 bs).length : Nat) := by rw [yl]; omega
    have e3 := place_succ (i := i) (n := bs.length) (by omega) hi
    have q4 : i % 4 < 4 := Nat.mod_lt _ (by omega)
    have a4 := hat _ q4
    have hj : i / 4 < bs.length / 4 := by omega
    have e4 : IntKind.i64.wrap (Int.tdiv (i : Int) 4) = ((i / 4 : Nat) : Int) := by rw [Int.tdiv_eq_ediv_of_nonneg (by omega), wrap_i64_of (by omega) (by omega)]; omega
    have e5 : Int.tmod (i : Int) 4 = ((i % 4 : Nat) : Int) := by rw [tmod_pos (by omega)]; omega
    have hj2 : ((i / 4 : Nat) : Int) < ((bs.length / 4 : Nat) : Int) := by omega
    have hj3 : ((i / 4 : Nat) : Int) ≥ 0 := by omega
    have gj : (W32 (tk 4 at_ bs i))[i / 4]? = some _ := W32_get (by rw [tk_length]; exact hj)
    have go := hcells_own ho
    have hbi := hbs i
    have e6 : IntKind.u32.wrap ((bs.getD i 0 : Nat) : Int) = ((bs.getD i 0 : Nat) : Int) := by rw [wrap_u32]; omega
    have e7 : IntKind.i64.wrap (8 * ((at_ (i % 4) : Nat) : Int)) = ((8 * at_ (i % 4) : Nat) : Int) := by rw [wrap_i64_of (by omega) (by omega)]; omega
    have n1 : ¬ ((8 * at_ (i % 4) : Nat) : Int) < 0 := by omega
    have s1 : shlA .u32 ((bs.getD i 0 : Nat) : Int) ((8 * at_ (i % 4) : Nat) : Int) = _ := shl_of rfl (show 8 * at_ (i % 4) ≤ 32 by omega)
    have o1 : bitsA .or .u32 (((tk 4 at_ bs i).getD (i / 4) 0 : Nat) : Int) ((bs.getD i 0 * 2 ^ (8 * at_ (i % 4)) % 2 ^ IntKind.u32.bits : Nat) : Int) = _ := or_of rfl (tk_lt 4 at_ bs i _) (Nat.mod_lt _ (Nat.two_pow_pos _))
    have es : _ = W32 (tk 4 at_ bs (i + 1)) := W32_set (xs := tk 4 at_ bs i) (i := i / 4) (n := (tk 4 at_ bs i).getD (i / 4) 0 ||| (bs.getD i 0 * 2 ^ (8 * at_ (i % 4)) % 2 ^ IntKind.u32.bits)) (by rw [tk_length]; exact hj)
    have l1 : i / 4 + 1 ≤ bs.length / 4 := by omega
    have fb : b ≤ b := Nat.le_refl b
    refine AW_skip (AW_seq (AW_block (AW_seq (AW_run (by simp only [List.take_succ_cons, List.take_zero, List.drop_succ_cons, List.drop_zero, bne_self_eq_false, List.map_cons, List.map_nil, Bool.true_beq, Bool.false_beq, run_nil, run_cons, run_gate, cont_some, gate_true, gate_false, hrun_nil, hrun_cons, hrun_gate, hcont_some, hgate_true, hgate_false, put_some, put_none, ev_t, ev_k, wantedA, execA, stepA, List.set_cons_succ, List.set_cons_zero, List.getD_cons_succ, List.getD_cons_zero, List.getElem?_cons_zero, List.getElem?_cons_succ, if_true, if_false, binA, binInt, unA, eqA, Option.map, eq_self, true_or, or_true, true_and, and_true, and_self, beq_self_eq_true, Bool.not_true, Bool.not_false, reduceCtorEq, Bool.false_eq_true, ite_true, ite_false, fitsAll, CK.fits, decide_true, Bool.and_true, Bool.true_and, fillA, AV.cells, writeN, readN, sliceCells, appendA, lenA, i64, loA, hiA, hcells_last, hown_last, List.take_zero, List.drop_zero, List.nil_append, List.cons_append, List.append_nil, List.take_nil, List.drop_nil, List.length_cons, List.length_nil, List.length_append, Nat.zero_add, Nat.add_zero, Nat.reduceAdd, Nat.reduceMul, Nat.reduceDiv, Nat.reduceSub, Nat.mul_one, Nat.one_mul, Nat.div_one, Nat.le_refl, Nat.reduceLeDiff, Nat.reduceLT, Int.toNat_natCast, Int.toNat_zero, Nat.zero_le, Int.natCast_nonneg, Int.reduceLE, Int.reduceLT, Option.some.injEq, foldA, maxA, minA, Cell.int.injEq, AV.c.injEq, hfull, hlt, hget]; rfl) ?_))))
    refine AW_draw (AHd_take 10 (by simp only [List.take_succ_cons, List.take_zero, List.drop_succ_cons, List.drop_zero, bne_self_eq_false, List.map_cons, List.map_nil, Bool.true_beq, Bool.false_beq, run_nil, run_cons, run_gate, cont_some, gate_true, gate_false, hrun_nil, hrun_cons, hrun_gate, hcont_some, hgate_true, hgate_false, put_some, put_none, ev_t, ev_k, wantedA, execA, stepA, List.set_cons_succ, List.set_cons_zero, List.getD_cons_succ, List.getD_cons_zero, List.getElem?_cons_zero, List.getElem?_cons_succ, if_true, if_false, binA, binInt, unA, eqA, Option.map, eq_self, true_or, or_true, true_and, and_true, and_self, beq_self_eq_true, Bool.not_true, Bool.not_false, reduceCtorEq, Bool.false_eq_true, ite_true, ite_false, fitsAll, CK.fits, decide_true, Bool.and_true, Bool.true_and, fillA, AV.cells, writeN, readN, sliceCells, appendA, lenA, i64, loA, hiA, hcells_last, hown_last, List.take_zero, List.drop_zero, List.nil_append, List.cons_append, List.append_nil, List.take_nil, List.drop_nil, List.length_cons, List.length_nil, List.length_append, Nat.zero_add, Nat.add_zero, Nat.reduceAdd, Nat.reduceMul, Nat.reduceDiv, Nat.reduceSub, Nat.mul_one, Nat.one_mul, Nat.div_one, Nat.le_refl, Nat.reduceLeDiff, Nat.reduceLT, Int.toNat_natCast, Int.toNat_zero, Nat.zero_le, Int.natCast_nonneg, Int.reduceLE, Int.reduceLT, Option.some.injEq, foldA, maxA, minA, Cell.int.injEq, AV.c.injEq, z, e4, e5, e6, hj2, hj3, go, gj]; rfl) ?_)
    refine AHd_callV rfl rfl (hf H1 (i % 4) q4) ?_
    rintro _ _ ⟨rfl, rfl⟩ -
    rename_i H1
    refine AHd_take 2 (by simp only [List.take_succ_cons, List.take_zero, List.drop_succ_cons, List.drop_zero, bne_self_eq_false, List.map_cons, List.map_nil, Bool.true_beq, Bool.false_beq, run_nil, run_cons, run_gate, cont_some, gate_true, gate_false, hrun_nil, hrun_cons, hrun_gate, hcont_some, hgate_true, hgate_false, put_some, put_none, ev_t, ev_k, wantedA, execA, stepA, List.set_cons_succ, List.set_cons_zero, List.getD_cons_succ, List.getD_cons_zero, List.getElem?_cons_zero, List.getElem?_cons_succ, if_true, if_false, binA, binInt, unA, eqA, Option.map, eq_self, true_or, or_true, true_and, and_true, and_self, beq_self_eq_true, Bool.not_true, Bool.not_false, reduceCtorEq, Bool.false_eq_true, ite_true, ite_false, fitsAll, CK.fits, decide_true, Bool.and_true, Bool.true_and, fillA, AV.cells, writeN, readN, sliceCells, appendA, lenA, i64, loA, hiA, hcells_last, hown_last, List.take_zero, List.drop_zero, List.nil_append, List.cons_append, List.append_nil, List.take_nil, List.drop_nil, List.length_cons, List.length_nil, List.length_append, Nat.zero_add, Nat.add_zero, Nat.reduceAdd, Nat.reduceMul, Nat.reduceDiv, Nat.reduceSub, Nat.mul_one, Nat.one_mul, Nat.div_one, Nat.le_refl, Nat.reduceLeDiff, Nat.reduceLT, Int.toNat_natCast, Int.toNat_zero, Nat.zero_le, Int.natCast_nonneg, Int.reduceLE, Int.reduceLT, Option.some.injEq, foldA, maxA, minA, Cell.int.injEq, AV.c.injEq, e7, n1, s1]; rfl) (AHd_nil ?_)
    refine AO_take 3 (by simp only [List.take_succ_cons, List.take_zero, List.drop_succ_cons, List.drop_zero, bne_self_eq_false, List.map_cons, List.map_nil, Bool.true_beq, Bool.false_beq, run_nil, run_cons, run_gate, cont_some, gate_true, gate_false, hrun_nil, hrun_cons, hrun_gate, hcont_some, hgate_true, hgate_false, put_some, put_none, ev_t, ev_k, wantedA, execA, stepA, List.set_cons_succ, List.set_cons_zero, List.getD_cons_succ, List.getD_cons_zero, List.getElem?_cons_zero, List.getElem?_cons_succ, if_true, if_false, binA, binInt, unA, eqA, Option.map, eq_self, true_or, or_true, true_and, and_true, and_self, beq_self_eq_true, Bool.not_true, Bool.not_false, reduceCtorEq, Bool.false_eq_true, ite_true, ite_false, fitsAll, CK.fits, decide_true, Bool.and_true, Bool.true_and, fillA, AV.cells, writeN, readN, sliceCells, appendA, lenA, i64, loA, hiA, hcells_last, hown_last, List.take_zero, List.drop_zero, List.nil_append, List.cons_append, List.append_nil, List.take_nil, List.drop_nil, List.length_cons, List.length_nil, List.length_append, Nat.zero_add, Nat.add_zero, Nat.reduceAdd, Nat.reduceMul, Nat.reduceDiv, Nat.reduceSub, Nat.mul_one, Nat.one_mul, Nat.div_one, Nat.le_refl, Nat.reduceLeDiff, Nat.reduceLT, Int.toNat_natCast, Int.toNat_zero, Nat.zero_le, Int.natCast_nonneg, Int.reduceLE, Int.reduceLT, Option.some.injEq, foldA, maxA, minA, Cell.int.injEq, AV.c.injEq, o1, hj2, hj3, go, ho, W32_length, tk_length, l1, es, fb]; rfl) (AO_nil ?_)
    have hbl := hown_lt ho
    exact AW_run (by simp only [List.take_succ_cons, List.take_zero, List.drop_succ_cons, List.drop_zero, bne_self_eq_false, List.map_cons, List.map_nil, Bool.true_beq, Bool.false_beq, run_nil, run_cons, run_gate, cont_some, gate_true, gate_false, hrun_nil, hrun_cons, hrun_gate, hcont_some, hgate_true, hgate_false, put_some, put_none, ev_t, ev_k, wantedA, execA, stepA, List.set_cons_succ, List.set_cons_zero, List.getD_cons_succ, List.getD_cons_zero, List.getElem?_cons_zero, List.getElem?_cons_succ, if_true, if_false, binA, binInt, unA, eqA, Option.map, eq_self, true_or, or_true, true_and, and_true, and_self, beq_self_eq_true, Bool.not_true, Bool.not_false, reduceCtorEq, Bool.false_eq_true, ite_true, ite_false, fitsAll, CK.fits, decide_true, Bool.and_true, Bool.true_and, fillA, AV.cells, writeN, readN, sliceCells, appendA, lenA, i64, loA, hiA, hcells_last, hown_last, List.take_zero, List.drop_zero, List.nil_append, List.cons_append, List.append_nil, List.take_nil, List.drop_nil, List.length_cons, List.length_nil, List.length_append, Nat.zero_add, Nat.add_zero, Nat.reduceAdd, Nat.reduceMul, Nat.reduceDiv, Nat.reduceSub, Nat.mul_one, Nat.one_mul, Nat.div_one, Nat.le_refl, Nat.reduceLeDiff, Nat.reduceLT, Int.toNat_natCast, Int.toNat_zero, Nat.zero_le, Int.natCast_nonneg, Int.reduceLE, Int.reduceLT, Option.some.injEq, foldA, maxA, minA, Cell.int.injEq, AV.c.injEq, e3]; rfl) ⟨bs.length - (i + 1), by omega, i + 1, by omega, rfl, hk.trans (Kept.set (by omega)), hown_set hbl, stale _ _ (by rw [yl] <;> rfl)⟩
  · intro ht
    have ht : ¬ (i : Int) < bs.length := of_decide_eq_false ht
    obtain rfl : i = bs.length := by omega
    refine AW_exit (AW_seq (AW_run (by simp only [List.take_succ_cons, List.take_zero, List.drop_succ_cons, List.drop_zero, bne_self_eq_false, List.map_cons, List.map_nil, Bool.true_beq, Bool.false_beq, run_nil, run_cons, run_gate, cont_some, gate_true, gate_false, hrun_nil, hrun_cons, hrun_gate, hcont_some, hgate_true, hgate_false, put_some, put_none, ev_t, ev_k, wantedA, execA, stepA, List.set_cons_succ, List.set_cons_zero, List.getD_cons_succ, List.getD_cons_zero, List.getElem?_cons_zero, List.getElem?_cons_succ, if_true, if_false, binA, binInt, unA, eqA, Option.map, eq_self, true_or, or_true, true_and, and_true, and_self, beq_self_eq_true, Bool.not_true, Bool.not_false, reduceCtorEq, Bool.false_eq_true, ite_true, ite_false, fitsAll, CK.fits, decide_true, Bool.and_true, Bool.true_and, fillA, AV.cells, writeN, readN, sliceCells, appendA, lenA, i64, loA, hiA, hcells_last, hown_last, List.take_zero, List.drop_zero, List.nil_append, List.cons_append, List.append_nil, List.take_nil, List.drop_nil, List.length_cons, List.length_nil, List.length_append, Nat.zero_add, Nat.add_zero, Nat.reduceAdd, Nat.reduceMul, Nat.reduceDiv, Nat.reduceSub, Nat.mul_one, Nat.one_mul, Nat.div_one, Nat.le_refl, Nat.reduceLeDiff, Nat.reduceLT, Int.toNat_natCast, Int.toNat_zero, Nat.zero_le, Int.natCast_nonneg, Int.reduceLE, Int.reduceLT, Option.some.injEq, foldA, maxA, minA, Cell.int.injEq, AV.c.injEq]; rfl) (AW_ret ⟨_, rfl, .inr ⟨h0, _, rfl, ?_⟩⟩)))
    exact .inr ⟨b, bs.length / 4, rfl, by rw [W32_length, tk_length]; omega, by omega, ho⟩
end PK

/- Words taken, contracts of whole functions; and the plain law: what was written is taken back. -/
namespace PK
open Go PAbs
set_option linter.unusedSimpArgs false
set_option linter.unusedVariables false
set_option maxRecDepth 100000

theorem AC_highest (H : AHeap) (q : Nat) (hq : q < 4) : AC A H.length F_words_highest [.c (.int .i64 (q : Int))] H (fun v H' => v = .c (.int .i64 ((3 - q : Nat) : Int)) ∧ H' = H) := by
  have e : IntKind.i64.wrap (3 - (q : Int)) = ((3 - q : Nat) : Int) := by rw [wrap_i64_of (by omega) (by omega)]; omega
  refine AC_enter t_words_highest ?_
  simp only [c_words_highest, enterA, List.replicate, List.length_cons, List.length_nil, Nat.reduceAdd, Nat.reduceSub, List.cons_append, List.nil_append]
  exact AW_seq (AW_run (by simp only [List.take_succ_cons, List.take_zero, List.drop_succ_cons, List.drop_zero, bne_self_eq_false, List.map_cons, List.map_nil, Bool.true_beq, Bool.false_beq, run_nil, run_cons, run_gate, cont_some, gate_true, gate_false, hrun_nil, hrun_cons, hrun_gate, hcont_some, hgate_true, hgate_false, put_some, put_none, ev_t, ev_k, wantedA, execA, stepA, List.set_cons_succ, List.set_cons_zero, List.getD_cons_succ, List.getD_cons_zero, List.getElem?_cons_zero, List.getElem?_cons_succ, if_true, if_false, binA, binInt, unA, eqA, Option.map, eq_self, true_or, or_true, true_and, and_true, and_self, beq_self_eq_true, Bool.not_true, Bool.not_false, reduceCtorEq, Bool.false_eq_true, ite_true, ite_false, fitsAll, CK.fits, decide_true, Bool.and_true, Bool.true_and, fillA, AV.cells, writeN, readN, sliceCells, appendA, lenA, i64, loA, hiA, hcells_last, hown_last, List.take_zero, List.drop_zero, List.nil_append, List.cons_append, List.append_nil, List.take_nil, List.drop_nil, List.length_cons, List.length_nil, List.length_append, Nat.zero_add, Nat.add_zero, Nat.reduceAdd, Nat.reduceMul, Nat.reduceDiv, Nat.reduceSub, Nat.mul_one, Nat.one_mul, Nat.div_one, Nat.le_refl, Nat.reduceLeDiff, Nat.reduceLT, Int.toNat_natCast, Int.toNat_zero, Nat.zero_le, Int.natCast_nonneg, Int.reduceLE, Int.reduceLT, Option.some.injEq, foldA, maxA, minA, Cell.int.injEq, AV.c.injEq]; rfl) (AW_seq (AW_run (by simp only [List.take_succ_cons, List.take_zero, List.drop_succ_cons, List.drop_zero, bne_self_eq_false, List.map_cons, List.map_nil, Bool.true_beq, Bool.false_beq, run_nil, run_cons, run_gate, cont_some, gate_true, gate_false, hrun_nil, hrun_cons, hrun_gate, hcont_some, hgate_true, hgate_false, put_some, put_none, ev_t, ev_k, wantedA, execA, stepA, List.set_cons_succ, List.set_cons_zero, List.getD_cons_succ, List.getD_cons_zero, List.getElem?_cons_zero, List.getElem?_cons_succ, if_true, if_false, binA, binInt, unA, eqA, Option.map, eq_self, true_or, or_true, true_and, and_true, and_self, beq_self_eq_true, Bool.not_true, Bool.not_false, reduceCtorEq, Bool.false_eq_true, ite_true, ite_false, fitsAll, CK.fits, decide_true, Bool.and_true, Bool.true_and, fillA, AV.cells, writeN, readN, sliceCells, appendA, lenA, i64, loA, hiA, hcells_last, hown_last, List.take_zero, List.drop_zero, List.nil_append, List.cons_append, List.append_nil, List.take_nil, List.drop_nil, List.length_cons, List.length_nil, List.length_append, Nat.zero_add, Nat.add_zero, Nat.reduceAdd, Nat.reduceMul, Nat.reduceDiv, Nat.reduceSub, Nat.mul_one, Nat.one_mul, Nat.div_one, Nat.le_refl, Nat.reduceLeDiff, Nat.reduceLT, Int.toNat_natCast, Int.toNat_zero, Nat.zero_le, Int.natCast_nonneg, Int.reduceLE, Int.reduceLT, Option.some.injEq, foldA, maxA, minA, Cell.int.injEq, AV.c.injEq, e]; rfl) (AW_ret ⟨_, rfl, rfl, rfl⟩))))

def Taken (f : Nat) (W : List Nat → List Cell) (k : Nat) (at_ : Nat → Nat) (bs : List Nat) (v : AV) (H : AHeap) : Prop := (bs.length % k ≠ 0 ∧ v = .tup [.c .snil, .c (.int .i64 9)]) ∨ (bs.length % k = 0 ∧ ∃ x, v = .tup [.c x, .c (.int .i64 0)] ∧ Own f H x 1 (W (tk k at_ bs bs.length)))

theorem AC_TakeBig32 (H : AHeap) (y : Cell) (bs : List Nat) (hy : Rd H y 1 (W8 bs)) (hl : bs.length ≤ 1000000) (hbs : ∀ k, bs.getD k 0 < 256) : AC A H.length F_words_TakeBig32 [.c y] H (Taken H.length W32 4 (3 - ·) bs) := by
  refine AC_enter t_words_TakeBig32 ?_
  simp only [c_words_TakeBig32, enterA, List.replicate, List.length_cons, List.length_nil, Nat.reduceAdd, Nat.reduceSub, List.cons_append, List.nil_append]
  refine AW_seq (AW_run (by simp only [List.take_succ_cons, List.take_zero, List.drop_succ_cons, List.drop_zero, bne_self_eq_false, List.map_cons, List.map_nil, Bool.true_beq, Bool.false_beq, run_nil, run_cons, run_gate, cont_some, gate_true, gate_false, hrun_nil, hrun_cons, hrun_gate, hcont_some, hgate_true, hgate_false, put_some, put_none, ev_t, ev_k, wantedA, execA, stepA, List.set_cons_succ, List.set_cons_zero, List.getD_cons_succ, List.getD_cons_zero, List.getElem?_cons_zero, List.getElem?_cons_succ, if_true, if_false, binA, binInt, unA, eqA, Option.map, eq_self, true_or, or_true, true_and, and_true, and_self, beq_self_eq_true, Bool.not_true, Bool.not_false, reduceCtorEq, Bool.false_eq_true, ite_true, ite_false, fitsAll, CK.fits, decide_true, Bool.and_true, Bool.true_and, fillA, AV.cells, writeN, readN, sliceCells, appendA, lenA, i64, loA, hiA, hcells_last, hown_last, List.take_zero, List.drop_zero, List.nil_append, List.cons_append, List.append_nil, List.take_nil, List.drop_nil, List.length_cons, List.length_nil, List.length_append, Nat.zero_add, Nat.add_zero, Nat.reduceAdd, Nat.reduceMul, Nat.reduceDiv, Nat.reduceSub, Nat.mul_one, Nat.one_mul, Nat.div_one, Nat.le_refl, Nat.reduceLeDiff, Nat.reduceLT, Int.toNat_natCast, Int.toNat_zero, Nat.zero_le, Int.natCast_nonneg, Int.reduceLE, Int.reduceLT, Option.some.injEq, foldA, maxA, minA, Cell.int.injEq, AV.c.injEq]; rfl) ?_)
  refine AW_seq (AW_ops (AO_take 1 (by simp only [List.take_succ_cons, List.take_zero, List.drop_succ_cons, List.drop_zero, bne_self_eq_false, List.map_cons, List.map_nil, Bool.true_beq, Bool.false_beq, run_nil, run_cons, run_gate, cont_some, gate_true, gate_false, hrun_nil, hrun_cons, hrun_gate, hcont_some, hgate_true, hgate_false, put_some, put_none, ev_t, ev_k, wantedA, execA, stepA, List.set_cons_succ, List.set_cons_zero, List.getD_cons_succ, List.getD_cons_zero, List.getElem?_cons_zero, List.getElem?_cons_succ, if_true, if_false, binA, binInt, unA, eqA, Option.map, eq_self, true_or, or_true, true_and, and_true, and_self, beq_self_eq_true, Bool.not_true, Bool.not_false, reduceCtorEq, Bool.false_eq_true, ite_true, ite_false, fitsAll, CK.fits, decide_true, Bool.and_true, Bool.true_and, fillA, AV.cells, writeN, readN, sliceCells, appendA, lenA, i64, loA, hiA, hcells_last, hown_last, List.take_zero, List.drop_zero, List.nil_append, List.cons_append, List.append_nil, List.take_nil, List.drop_nil, List.length_cons, List.length_nil, List.length_append, Nat.zero_add, Nat.add_zero, Nat.reduceAdd, Nat.reduceMul, Nat.reduceDiv, Nat.reduceSub, Nat.mul_one, Nat.one_mul, Nat.div_one, Nat.le_refl, Nat.reduceLeDiff, Nat.reduceLT, Int.toNat_natCast, Int.toNat_zero, Nat.zero_le, Int.natCast_nonneg, Int.reduceLE, Int.reduceLT, Option.some.injEq, foldA, maxA, minA, Cell.int.injEq, AV.c.injEq]; rfl) ?_))
  refine AO_call rfl (AC_take H y bs F_words_highest (3 - ·) hy hl hbs (fun q h => by show 3 - q < 4; omega) (fun H q h => AC_highest H q h)) ?_
  rintro v H1 (⟨h, rfl⟩ | ⟨h, x, rfl, hx⟩)
  · exact AO_take 4 (by simp only [List.take_succ_cons, List.take_zero, List.drop_succ_cons, List.drop_zero, bne_self_eq_false, List.map_cons, List.map_nil, Bool.true_beq, Bool.false_beq, run_nil, run_cons, run_gate, cont_some, gate_true, gate_false, hrun_nil, hrun_cons, hrun_gate, hcont_some, hgate_true, hgate_false, put_some, put_none, ev_t, ev_k, wantedA, execA, stepA, List.set_cons_succ, List.set_cons_zero, List.getD_cons_succ, List.getD_cons_zero, List.getElem?_cons_zero, List.getElem?_cons_succ, if_true, if_false, binA, binInt, unA, eqA, Option.map, eq_self, true_or, or_true, true_and, and_true, and_self, beq_self_eq_true, Bool.not_true, Bool.not_false, reduceCtorEq, Bool.false_eq_true, ite_true, ite_false, fitsAll, CK.fits, decide_true, Bool.and_true, Bool.true_and, fillA, AV.cells, writeN, readN, sliceCells, appendA, lenA, i64, loA, hiA, hcells_last, hown_last, List.take_zero, List.drop_zero, List.nil_append, List.cons_append, List.append_nil, List.take_nil, List.drop_nil, List.length_cons, List.length_nil, List.length_append, Nat.zero_add, Nat.add_zero, Nat.reduceAdd, Nat.reduceMul, Nat.reduceDiv, Nat.reduceSub, Nat.mul_one, Nat.one_mul, Nat.div_one, Nat.le_refl, Nat.reduceLeDiff, Nat.reduceLT, Int.toNat_natCast, Int.toNat_zero, Nat.zero_le, Int.natCast_nonneg, Int.reduceLE, Int.reduceLT, Option.some.injEq, foldA, maxA, minA, Cell.int.injEq, AV.c.injEq]; rfl) (AO_nil (AW_ret ⟨_, rfl, .inl ⟨h, rfl⟩⟩))
  · exact AO_take 4 (by simp only [List.take_succ_cons, List.take_zero, List.drop_succ_cons, List.drop_zero, bne_self_eq_false, List.map_cons, List.map_nil, Bool.true_beq, Bool.false_beq, run_nil, run_cons, run_gate, cont_some, gate_true, gate_false, hrun_nil, hrun_cons, hrun_gate, hcont_some, hgate_true, hgate_false, put_some, put_none, ev_t, ev_k, wantedA, execA, stepA, List.set_cons_succ, List.set_cons_zero, List.getD_cons_succ, List.getD_cons_zero, List.getElem?_cons_zero, List.getElem?_cons_succ, if_true, if_false, binA, binInt, unA, eqA, Option.map, eq_self, true_or, or_true, true_and, and_true, and_self, beq_self_eq_true, Bool.not_true, Bool.not_false, reduceCtorEq, Bool.false_eq_true, ite_true, ite_false, fitsAll, CK.fits, decide_true, Bool.and_true, Bool.true_and, fillA, AV.cells, writeN, readN, sliceCells, appendA, lenA, i64, loA, hiA, hcells_last, hown_last, List.take_zero, List.drop_zero, List.nil_append, List.cons_append, List.append_nil, List.take_nil, List.drop_nil, List.length_cons, List.length_nil, List.length_append, Nat.zero_add, Nat.add_zero, Nat.reduceAdd, Nat.reduceMul, Nat.reduceDiv, Nat.reduceSub, Nat.mul_one, Nat.one_mul, Nat.div_one, Nat.le_refl, Nat.reduceLeDiff, Nat.reduceLT, Int.toNat_natCast, Int.toNat_zero, Nat.zero_le, Int.natCast_nonneg, Int.reduceLE, Int.reduceLT, Option.some.injEq, foldA, maxA, minA, Cell.int.injEq, AV.c.injEq]; rfl) (AO_nil (AW_ret ⟨_, rfl, .inr ⟨h, x, rfl, hx⟩⟩))

end PK
