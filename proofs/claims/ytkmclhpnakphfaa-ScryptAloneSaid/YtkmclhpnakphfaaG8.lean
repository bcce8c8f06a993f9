/- Texts of this claim, put together: Args Slc Go Base Chg More Go2 Sm GoA KF L00 KMath L02b M01 KWords KPestleref01 L01a KBlock L19a L19b KArena L20a L20b KSalsa KPestleref12. -/
import Derived.Test.YtkmclhpnakphfaaG7
import Derived.ChangeSlices
import Derived.SliceStrings
import Derived.Test.YtkmclhpnakphfaaProg
import Derived.Test.YtkmclhpnakphfaaG6
/- Arguments that are slices of integers or of strings: as cells and blocks that are only read. -/
namespace PAbs
open Go Go.RowKit Go.ChangeShapes Go.WideShapes Go.ChangeAt
set_option linter.unusedSimpArgs false
set_option linter.unusedVariables false

/-- a slice argument of one-cell elements: nil, or block b from its first cell on -/
def SlA (b : Nat) (x : Cell) (n : Nat) : Prop := (x = .snil ∧ n = 0) ∨ x = .slc b 0 n 1

/-- how such an argument stands in the world: a block only read, of these cells, and the value -/
def ArgR (W : World) (b : Nat) (x : Cell) (cs : List Cell) (v : Value) : Prop := SlA b x cs.length ∧ ∃ r : Reg, (∀ ρ, BR W.heap.size ρ W r (.ro cs)) ∧ ∀ ρ : List Reg, ρ[b]? = some r → VR ρ (.c x) v

theorem ArgR.nil (W : World) (b : Nat) : ArgR W b .snil [] (.slice none 0 0) :=
  ⟨.inl ⟨rfl, rfl⟩, .empty, fun ρ => (rfl : ([] : List Cell) = []), fun ρ h => (rfl : Value.slice none 0 0 = .slice none 0 0)⟩

theorem cell_heap {W : World} {g o : Nat} {v : Value} (h : W.cell? ⟨g, o, none⟩ = some v) : ∃ arr ty fz, W.heap[g]? = some (.cells arr ty fz) ∧ arr[o]? = some v := by
  simp only [World.cell?] at h
  split at h
  · rename_i c ty fz hc; exact ⟨c, ty, fz, hc, by simpa using h⟩
  · cases h

theorem ArgR.slice {W : World} {b : Nat} {a : Addr} {len cap : Nat} {cs : List Cell} {vals : Nat → Value} (hl : len ≤ cap) (hn : cs.length = len)
    (hcell : ∀ i, i < cap → W.cell? (a.add i) = some (vals i)) (hR : ∀ (i : Nat) (c : Cell), cs[i]? = some c → ∀ ρ, CR ρ c (vals i)) : ArgR W b (.slc b 0 len 1) cs (.slice (some a) len cap) := by
  refine ⟨.inr (by rw [hn]), ?_⟩
  rcases Nat.eq_zero_or_pos cap with h0 | hp
  · subst h0
    obtain rfl : len = 0 := by omega
    obtain rfl : cs = [] := List.length_eq_zero_iff.mp hn
    refine ⟨.empty, fun ρ => (rfl : ([] : List Cell) = []), fun ρ h => ?_⟩
    show CR ρ (.slc b 0 0 1) _
    simp only [CR, h]
    exact ⟨trivial, _, rfl⟩
  · obtain ⟨g, o, spot⟩ := a
    have hspot : spot = none := by simpa [Addr.add] using World.cell?_spot (hcell 0 hp)
    subst hspot
    have hc : ∀ i, i < cap → W.cell? ⟨g, o + i, none⟩ = some (vals i) := fun i hi => by rw [← Go.WideShapes.add_plain]; exact hcell i hi
    obtain ⟨arr, ty, fz, hh, _⟩ := cell_heap (hc 0 hp)
    have hg : g < W.heap.size := (Array.getElem?_eq_some_iff.mp hh).1
    refine ⟨.at g o cap, fun ρ => ⟨hg, by omega, arr, ty, fz, hh, fun i x hx => ?_⟩, fun ρ h => ?_⟩
    · have hi : i < cs.length := (List.getElem?_eq_some_iff.mp hx).1
      obtain ⟨arr', ty', fz', hh', hv'⟩ := cell_heap (hc i (by omega))
      rw [hh] at hh'
      cases hh'
      exact ⟨_, hv', hR i x hx ρ⟩
    · show CR ρ (.slc b 0 len 1) _
      simp only [CR, h]
      exact .inl ⟨cap, by simp, hl, by omega⟩

/-- the words of a slice of integers -/
theorem open_intsA {H : Type} {enc : TypeId × Value → H} {P : Program} {W : World} {base t e : Nat} {k : IntKind} {v : Value} {d : DataW H} {ps : List MemPlace} (b : Nat) (ht : P.underlying t = some (.slice e)) (he : P.underlying e = some (.int k)) (hc : P.cellsOf e = 1)
    (hval : Value.okWide P W .any base t v) (h : DataW.Trod enc P W 0 (fun _ => true) true t v d ps) :
    ∃ (zs : List Int) (x : Cell), ArgR W b x (zs.map fun z => Cell.int k z) v ∧ (∀ n ∈ zs, (Lit.int k n).wf = true) ∧ zs.length ≤ maxLen ∧ (d = .nil ∧ zs = [] ∨ ∃ sp, d = .slice (lits k zs) (lits k sp)) := by
  obtain ⟨a0, len0, cap0, rfl⟩ := okWide_slice ht hval
  obtain ⟨fuel, hf⟩ := h
  rcases open_ints ht he hc hf with ⟨h1, h2⟩ | ⟨a, len, cap, zs, h1, _, hl, hm, hz, hx, hcell, hwf⟩
  · simp only [Value.cells] at h1
    cases h1
    cases h2
    exact ⟨[], .snil, ArgR.nil W b, fun n hn => (by cases hn), Nat.zero_le _, .inl ⟨rfl, rfl⟩⟩
  · simp only [Value.cells] at h1
    cases h1
    cases hx
    simp only [if_true] at hz
    refine ⟨zs.take len0, .slc b 0 len0 1, ArgR.slice (vals := fun i => .int k (zs.getD i 0)) hl (by simp; omega) (fun i hi => hcell i (by omega)) ?_, fun n hn => hwf n (List.mem_of_mem_take hn), by simp; omega, .inr ⟨_, rfl⟩⟩
    intro i c hc ρ
    rw [List.getElem?_map] at hc
    cases hz' : (zs.take len0)[i]? with
    | none => rw [hz'] at hc; cases hc
    | some z =>
      rw [hz'] at hc
      have hc : Cell.int k z = c := by simpa using hc
      subst hc
      have hz2 : zs[i]? = some z := by
        rw [List.getElem?_take] at hz'
        split at hz'
        · exact hz'
        · cases hz'
      show Value.int k (zs.getD i 0) = .int k z
      simp [hz2]

/-- the texts of a slice of strings -/
theorem open_strsA {H : Type} {enc : TypeId × Value → H} {P : Program} {W : World} {base t e : Nat} {v : Value} {d : DataW H} {ps : List MemPlace} (b : Nat) (ht : P.underlying t = some (.slice e)) (he : P.underlying e = some .string) (hc : P.cellsOf e = 1)
    (hval : Value.okWide P W .any base t v) (h : DataW.Trod enc P W 0 (fun _ => true) true t v d ps) :
    ∃ (ss : List ByteArray) (x : Cell), ArgR W b x (ss.map fun s => Cell.str s.data.toList) v ∧ (∀ s ∈ ss, s.size ≤ maxLen) ∧ ss.length ≤ maxLen ∧ (d = .nil ∧ ss = [] ∨ ∃ sp, d = .slice (strs ss) (strs sp)) := by
  obtain ⟨a0, len0, cap0, rfl⟩ := okWide_slice ht hval
  obtain ⟨fuel, hf⟩ := h
  rcases open_strings ht he hc hf with ⟨h1, h2⟩ | ⟨a, len, cap, ss, h1, _, hl, hm, hz, hx, hcell, hsz⟩
  · simp only [Value.cells] at h1
    cases h1
    cases h2
    exact ⟨[], .snil, ArgR.nil W b, fun n hn => (by cases hn), Nat.zero_le _, .inl ⟨rfl, rfl⟩⟩
  · simp only [Value.cells] at h1
    cases h1
    cases hx
    simp only [if_true] at hz
    refine ⟨ss.take len0, .slc b 0 len0 1, ArgR.slice (vals := fun i => .string (ss.getD i ByteArray.empty)) hl (by simp; omega) (fun i hi => hcell i (by omega)) ?_, fun n hn => hsz n (List.mem_of_mem_take hn), by simp; omega, .inr ⟨_, rfl⟩⟩
    intro i c hc ρ
    rw [List.getElem?_map] at hc
    cases hz' : (ss.take len0)[i]? with
    | none => rw [hz'] at hc; cases hc
    | some z =>
      rw [hz'] at hc
      have hc : Cell.str z.data.toList = c := by simpa using hc
      subst hc
      have hz2 : ss[i]? = some z := by
        rw [List.getElem?_take] at hz'
        split at hz'
        · exact hz'
        · cases hz'
      show Value.string (ss.getD i ByteArray.empty) = .string ⟨z.data.toList.toArray⟩
      simp [hz2]

/-- the texts as lists of letters -/
theorem open_textsA {H : Type} {enc : TypeId × Value → H} {P : Program} {W : World} {base t e : Nat} {v : Value} {d : DataW H} {ps : List MemPlace} (b : Nat) (ht : P.underlying t = some (.slice e)) (he : P.underlying e = some .string) (hc : P.cellsOf e = 1)
    (hval : Value.okWide P W .any base t v) (h : DataW.Trod enc P W 0 (fun _ => true) true t v d ps) :
    ∃ (ss : List (List UInt8)) (x : Cell), ArgR W b x (ss.map Cell.str) v ∧ (∀ s ∈ ss, s.length ≤ maxLen) ∧ ss.length ≤ maxLen ∧ (d = .nil ∧ ss = [] ∨ ∃ sp, d = .slice (ss.map fun s => .lit (.string s)) sp) := by
  obtain ⟨ss, x, h1, h2, h3, h4⟩ := open_strsA b ht he hc hval h
  refine ⟨ss.map fun s => s.data.toList, x, by rw [List.map_map]; exact h1, ?_, by simpa using h3, ?_⟩
  · intro s hs
    obtain ⟨u, hu, rfl⟩ := List.mem_map.mp hs
    have := h2 u hu
    rw [Array.length_toList]; exact this
  · rcases h4 with ⟨h5, h6⟩ | ⟨sp, h5⟩
    · exact .inl ⟨h5, by rw [h6]; rfl⟩
    · exact .inr ⟨_, by rw [h5, List.map_map]; rfl⟩

/-- words of an unsigned kind -/
theorem open_natsA {H : Type} {enc : TypeId × Value → H} {P : Program} {W : World} {base t e : Nat} {k : IntKind} {v : Value} {d : DataW H} {ps : List MemPlace} (b : Nat) (hk : k.min = 0) (ht : P.underlying t = some (.slice e)) (he : P.underlying e = some (.int k)) (hc : P.cellsOf e = 1)
    (hval : Value.okWide P W .any base t v) (h : DataW.Trod enc P W 0 (fun _ => true) true t v d ps) :
    ∃ (ns : List Nat) (x : Cell), ArgR W b x (ns.map fun (n : Nat) => Cell.int k (n : Int)) v ∧ (∀ n ∈ ns, (n : Int) ≤ k.max) ∧ ns.length ≤ maxLen ∧ (d = .nil ∧ ns = [] ∨ ∃ sp, d = .slice (ns.map fun (n : Nat) => .lit (.int k (n : Int))) sp) := by
  obtain ⟨zs, x, h1, h2, h3, h4⟩ := open_intsA b ht he hc hval h
  have hz : ∀ z ∈ zs, 0 ≤ z ∧ z ≤ k.max := fun z hz => by
    have := h2 z hz
    simp only [Lit.wf, Bool.and_eq_true, decide_eq_true_eq, hk] at this
    exact this
  have e1 : zs = zs.map fun z => ((z.toNat : Nat) : Int) := by
    have : zs.map (fun z => ((z.toNat : Nat) : Int)) = zs.map id := List.map_congr_left fun z hz' => by have := (hz z hz').1; simp only [id]; omega
    rw [this]; simp
  refine ⟨zs.map Int.toNat, x, ?_, ?_, by simpa using h3, ?_⟩
  · rw [List.map_map]
    have : zs.map ((fun (n : Nat) => Cell.int k (n : Int)) ∘ Int.toNat) = zs.map fun z => Cell.int k z := List.map_congr_left fun z hz' => by have := (hz z hz').1; simp only [Function.comp]; congr 1; omega
    rw [this]; exact h1
  · intro n hn
    obtain ⟨z, hz', rfl⟩ := List.mem_map.mp hn
    have := hz z hz'; omega
  · rcases h4 with ⟨h5, h6⟩ | ⟨sp, h5⟩
    · exact .inl ⟨h5, by rw [h6]; rfl⟩
    · refine .inr ⟨lits k sp, ?_⟩
      rw [h5, List.map_map]
      congr 1
      simp only [lits]
      exact List.map_congr_left fun z hz' => by have := (hz z hz').1; simp only [Function.comp]; congr 2; omega

/-- heaps of blocks that are only read -/
theorem HR.ro1 {W : World} {r : Reg} {cs : List Cell} (h : ∀ ρ, BR W.heap.size ρ W r (.ro cs)) : HR W.heap.size [r] [.ro cs] W := by
  refine ⟨rfl, fun b x r' hx hr => ?_, fun b b' c c' g f c2 f' c3 h1 => ?_, Nat.le_refl _⟩
  · match b with
    | 0 => simp at hx hr; subst hx hr; exact h _
    | b + 1 => simp at hx
  · match b with
    | 0 => simp at h1
    | b + 1 => simp at h1
theorem HR.ro2 {W : World} {r s : Reg} {cs ds : List Cell} (h : ∀ ρ, BR W.heap.size ρ W r (.ro cs)) (k : ∀ ρ, BR W.heap.size ρ W s (.ro ds)) : HR W.heap.size [r, s] [.ro cs, .ro ds] W := by
  refine ⟨rfl, fun b x r' hx hr => ?_, fun b b' c c' g f c2 f' c3 h1 => ?_, Nat.le_refl _⟩
  · match b with
    | 0 => simp at hx hr; subst hx hr; exact h _
    | 1 => simp at hx hr; subst hx hr; exact k _
    | b + 2 => simp at hx
  · match b with
    | 0 => simp at h1
    | 1 => simp at h1
    | b + 2 => simp at h1

/-- an array of words, by value -/
theorem open_wordsA {H : Type} {enc : TypeId × Value → H} {P : Program} {W : World} {base t e n : Nat} {k : IntKind} {v : Value} {d : DataW H} {ps : List MemPlace} (hk : k.min = 0) (ht : P.underlying t = some (.array n e)) (he : P.underlying e = some (.int k)) (hc : P.cellsOf e = 1) (hct : P.cellsOf t = n)
    (hval : Value.okWide P W .any base t v) (h : DataW.Trod enc P W 0 (fun _ => true) true t v d ps) :
    ∃ ns : List Nat, ns.length = n ∧ (∀ m ∈ ns, (m : Int) ≤ k.max) ∧ ∀ ρ, VR ρ (.agg (ns.map fun (m : Nat) => Cell.int k (m : Int))) v := by
  simp only [Value.okWide, ht] at hval
  obtain ⟨cs, rfl, hs, _⟩ := hval
  obtain ⟨fuel, hf⟩ := h
  obtain ⟨xs, m, rfl, _, hl, hx, hel⟩ := DataW.trod_array ht hf
  simp only [Value.cells] at hl hel
  rw [hct] at hl
  have each : ∀ i (hi : i < cs.toList.length), ∃ z : Nat, cs.toList[i] = .int k (z : Int) ∧ (z : Int) ≤ k.max := by
    intro i hi
    have h1 := hel i (by omega)
    rw [hc, Nat.mul_one] at h1
    have h2 : (cs.toList.drop i).take 1 = [cs.toList[i]] := by
      rw [List.drop_eq_getElem_cons hi]; rfl
    rw [h2, List.getElem?_eq_getElem (by omega)] at h1
    obtain ⟨z, hz, _, hw⟩ := DataW.trod_int he h1
    have hz : cs.toList[i] = .int k z := by simpa using hz
    simp only [Lit.wf, Bool.and_eq_true, decide_eq_true_eq, hk] at hw
    obtain ⟨u, rfl⟩ := Int.eq_ofNat_of_zero_le hw.1
    exact ⟨u, hz, hw.2⟩
  let ns : List Nat := cs.toList.map fun v => match v with | .int _ z => z.toNat | _ => 0
  have en : cs.toList = ns.map fun (m : Nat) => Value.int k (m : Int) := by
    apply List.ext_getElem (by simp [ns])
    intro i h1 h2
    obtain ⟨z, hz, _⟩ := each i h1
    simp only [ns, List.getElem_map, hz, Int.toNat_natCast]
  refine ⟨ns, by simp only [ns, List.length_map]; omega, ?_, fun ρ => ⟨cs.toList, by simp, ?_⟩⟩
  · intro m hm
    obtain ⟨u, hu, rfl⟩ := List.mem_map.mp hm
    obtain ⟨i, hi, rfl⟩ := List.mem_iff_getElem.mp hu
    obtain ⟨z, hz, hb⟩ := each i hi
    rw [hz]; simpa using hb
  · rw [en]
    exact ⟨by simp, fun i x hx => by
      rw [List.getElem?_map] at hx
      cases hn : ns[i]? with
      | none => rw [hn] at hx; cases hx
      | some z =>
        rw [hn] at hx
        have hx : Cell.int k (z : Int) = x := by simpa using hx
        subst hx
        exact ⟨.int k z, by rw [List.getElem?_map, hn]; rfl, (rfl : Value.int k (z : Int) = .int k z)⟩⟩
end PAbs

/- Slices in the abstract heap: such as may be read, such as are one's own; append. -/
namespace PAbs
open Go
set_option linter.unusedSimpArgs false
set_option linter.unusedVariables false

/-- a slice that may be read: these cells -/
def Rd (H : AHeap) (x : Cell) (sz : Nat) (cs : List Cell) : Prop := (x = .snil ∧ cs = []) ∨ ∃ s o n, x = .slc s o n sz ∧ cs.length = n * sz ∧ readN H s o (n * sz) = some cs
/-- a slice that is one's own, the whole of its block, which is not below f -/
def Own (f : Nat) (H : AHeap) (x : Cell) (sz : Nat) (cs : List Cell) : Prop := (x = .snil ∧ cs = []) ∨ ∃ s n, x = .slc s 0 n sz ∧ cs.length = n * sz ∧ f ≤ s ∧ hown H s = some cs
/-- of no common block -/
def Apart (x y : Cell) : Prop := ∀ s o n z s' o' n' z', x = .slc s o n z → y = .slc s' o' n' z' → s ≠ s'

theorem readN_all {H : AHeap} {s : Nat} {cs : List Cell} (h : hcells H s = some cs) : readN H s 0 cs.length = some cs := by simp [readN, h]

theorem Own.rd {f : Nat} {H : AHeap} {x : Cell} {sz : Nat} {cs : List Cell} (h : Own f H x sz cs) : Rd H x sz cs := by
  rcases h with h | ⟨s, n, h1, h2, _, h4⟩
  · exact .inl h
  · exact .inr ⟨s, 0, n, h1, h2, by rw [← h2]; exact readN_all (hcells_own h4)⟩
theorem Own.mono {f g : Nat} {H : AHeap} {x : Cell} {sz : Nat} {cs : List Cell} (h : Own f H x sz cs) (hg : g ≤ f) : Own g H x sz cs := by
  rcases h with h | ⟨s, n, h1, h2, h3, h4⟩
  · exact .inl h
  · exact .inr ⟨s, n, h1, h2, by omega, h4⟩
theorem Own.nil {f : Nat} {H : AHeap} {sz : Nat} : Own f H .snil sz [] := .inl ⟨rfl, rfl⟩
theorem Own.app {f : Nat} {H l : AHeap} {x : Cell} {sz : Nat} {cs : List Cell} (h : Own f H x sz cs) : Own f (H ++ l) x sz cs := by
  rcases h with h | ⟨s, n, h1, h2, h3, h4⟩
  · exact .inl h
  · exact .inr ⟨s, n, h1, h2, h3, hown_app h4⟩
theorem Own.kept {f : Nat} {H H' : AHeap} {x : Cell} {sz : Nat} {cs : List Cell} (h : Own f H x sz cs) (hk : Kept H.length H H') : Own f H' x sz cs := by
  rcases h with h | ⟨s, n, h1, h2, h3, h4⟩
  · exact .inl h
  · exact .inr ⟨s, n, h1, h2, h3, by rw [hk.hown (hown_lt h4) (hown_lt h4)]; exact h4⟩
theorem Own.lt {f : Nat} {H : AHeap} {sz s o n z : Nat} {cs : List Cell} (h : Own f H (.slc s o n z) sz cs) : s < H.length := by
  rcases h with ⟨h, _⟩ | ⟨s', n', h1, h2, h3, h4⟩
  · cases h
  · cases h1; exact hown_lt h4
theorem Own.one {f : Nat} {H : AHeap} {cs : List Cell} (hf : f ≤ H.length) : Own f (H ++ [.own cs]) (.slc H.length 0 cs.length 1) 1 cs := .inr ⟨_, _, rfl, by omega, hf, hown_last⟩
theorem readN_kept {H H' : AHeap} {s o n : Nat} {cs : List Cell} (h : readN H s o n = some cs) (hk : Kept H.length H H') : readN H' s o n = some cs := by
  simp only [readN] at h ⊢
  cases hc : hcells H s with
  | none => rw [hc] at h; cases h
  | some l => rw [hk.hcells (hcells_lt hc) (hcells_lt hc), hc]; rw [hc] at h; exact h
theorem Rd.kept {H H' : AHeap} {x : Cell} {sz : Nat} {cs : List Cell} (h : Rd H x sz cs) (hk : Kept H.length H H') : Rd H' x sz cs := by
  rcases h with h | ⟨s, o, n, h1, h2, h3⟩
  · exact .inl h
  · exact .inr ⟨s, o, n, h1, h2, readN_kept h3 hk⟩
theorem Rd.of_arg {H : AHeap} {b : Nat} {x : Cell} {cs : List Cell} (h : SlA b x cs.length) (hc : hcells H b = some cs) : Rd H x 1 cs := by
  rcases h with ⟨h1, h2⟩ | h
  · exact .inl ⟨h1, List.length_eq_zero_iff.mp h2⟩
  · exact .inr ⟨b, 0, cs.length, h, by omega, by rw [Nat.mul_one]; exact readN_all hc⟩
theorem Kept.more (f : Nat) (H l : AHeap) : Kept f H (H ++ l) := ⟨by simp, fun b _ h => by simp [List.getElem?_append, h]⟩

/-- what stands at place i -/
theorem Rd.get {H : AHeap} {x : Cell} {cs : List Cell} (h : Rd H x 1 cs) {i : Nat} (hi : i < cs.length) : ∃ s o full, x = .slc s o cs.length 1 ∧ hcells H s = some full ∧ full[o + i]? = cs[i]? := by
  rcases h with ⟨_, h⟩ | ⟨s, o, n, h1, h2, h3⟩
  · rw [h] at hi; simp at hi
  · obtain rfl : n = cs.length := by omega
    simp only [readN] at h3
    cases hc : hcells H s with
    | none => rw [hc] at h3; cases h3
    | some l =>
      rw [hc] at h3
      simp only at h3
      split at h3
      · have h3 := Option.some.inj h3
        refine ⟨s, o, l, h1, hc, ?_⟩
        conv => rhs; rw [← h3]
        rw [List.getElem?_take, if_pos (by omega), List.getElem?_drop]
      · cases h3
theorem Rd.cells {H : AHeap} {x : Cell} {sz : Nat} {cs : List Cell} (h : Rd H x sz cs) : sliceCells H sz (.c x) = some cs := by
  rcases h with ⟨rfl, rfl⟩ | ⟨s, o, n, rfl, h2, h3⟩
  · rfl
  · simp only [sliceCells, if_true]; exact h3

theorem exec_len {call : ACall} {fl : Nat} {fr : AFrame} {H : AHeap} {x : Cell} {cs : List Cell} {o : AOpd} (h : Rd H x 1 cs) (ho : o.ev fr = .c x) : execA call fl fr H (.len false o) = some (.c (.int .i64 (cs.length : Int)), H) := by
  rcases h with ⟨rfl, rfl⟩ | ⟨s, b, n, rfl, h2, h3⟩
  · simp only [execA, stepA, ho, i64]; rfl
  · obtain rfl : n = cs.length := by omega
    simp only [readN] at h3
    cases hc : hcells H s with
    | none => rw [hc] at h3; cases h3
    | some l => simp only [execA, stepA, ho, i64, hc]; rfl

theorem exec_lenN {call : ACall} {fl n : Nat} {fr : AFrame} {H : AHeap} {x : Cell} {cs : List Cell} {o : AOpd} (h : Rd H x 1 cs) (hn : cs.length = n) (ho : o.ev fr = .c x) : execA call fl fr H (.len false o) = some (.c (.int .i64 (n : Int)), H) := by
  subst hn; exact exec_len h ho

theorem exec_append {call : ACall} {fl f sz bytes : Nat} {fr : AFrame} {H : AHeap} {x : Cell} {y : AV} {cs news zero : List Cell} {o1 o2 : AOpd} (hx : Own f H x sz cs) (hy : sliceCells H sz y = some news) (hz : zero.length = sz) (hsz : 0 < sz) (hn : news.length % sz = 0) (hf : fl ≤ f) (hfH : f ≤ H.length)
    (hb : (cs.length + news.length) * bytes ≤ 140737488355328) (h1 : o1.ev fr = .c x) (h2 : o2.ev fr = y) :
    ∃ x' H', execA call fl fr H (.append zero bytes o1 o2) = some (.c x', H') ∧ Own f H' x' sz (cs ++ news) ∧ Kept f H H' ∧ ∀ z ds k, Own f H z k ds → Apart x z → Own f H' z k ds ∧ Apart x' z := by
  have hdiv : news.length = news.length / sz * sz := by
    have := Nat.div_add_mod news.length sz; rw [hn, Nat.add_zero, Nat.mul_comm] at this; exact this.symm
  rcases hx with ⟨rfl, rfl⟩ | ⟨s, n, rfl, hl, hs, ho⟩
  · have hb' : news.length * bytes ≤ 140737488355328 := by simpa using hb
    refine ⟨.slc H.length 0 (news.length / sz) sz, H ++ [.own news], ?_, .inr ⟨H.length, news.length / sz, rfl, by simpa using hdiv, hfH, hown_last⟩, Kept.more _ _ _, fun z ds k hz' ha => ⟨hz'.app, ?_⟩⟩
    · simp only [execA, stepA, h1, h2, appendA, hz, hy, hb', if_true]
    · intro s o n z s' o' n' z' e1 e2
      cases e1; subst e2
      have := hz'.lt; omega
  · have ls := hown_lt ho
    have hb' : (n * sz + news.length) * bytes ≤ 140737488355328 := by rw [← hl]; exact hb
    refine ⟨.slc H.length 0 (n + news.length / sz) sz, H.set s .dead ++ [.own (cs ++ news)], ?_, .inr ⟨H.length, _, rfl, ?_, hfH, ?_⟩, ⟨by simp, fun b hb1 hb2 => ?_⟩, fun z ds k hz' ha => ⟨?_, ?_⟩⟩
    · simp only [execA, stepA, h1, h2, appendA, hz, hy, ho]
      rw [if_pos ⟨by omega, by first | rfl | trivial, by omega, hb'⟩]; simp
    · simp only [List.length_append, Nat.add_mul, ← hdiv, hl]
    · have := hown_last (H := H.set s .dead) (cs := cs ++ news)
      simpa using this
    · rw [List.getElem?_append, if_pos (by simpa using hb2), List.getElem?_set, if_neg (by omega)]
    · rcases hz' with h | ⟨s', n', rfl, h4, h5, h6⟩
      · exact .inl h
      · exact .inr ⟨s', n', rfl, h4, h5, by
          refine hown_app ?_
          rw [hown_set_ne (ha _ _ _ _ _ _ _ _ rfl rfl)]; exact h6⟩
    · intro s o n z s' o' n' z' e1 e2
      cases e1; subst e2
      have := hz'.lt; omega

theorem Apart.symm {x y : Cell} (h : Apart x y) : Apart y x := fun s o n z s' o' n' z' e1 e2 e => h _ _ _ _ _ _ _ _ e2 e1 e.symm
theorem Apart.nil {y : Cell} : Apart .snil y := fun s o n z s' o' n' z' e1 => by cases e1

/-- append, in a statement -/
theorem AO_append {A : Nat → Option AFn} {fl f sz bytes : Nat} {fr : AFrame} {H : AHeap} {x : Cell} {y : AV} {cs news zero : List Cell} {o1 o2 : AOpd} {d : Option Nat} {rest : List AOper} {Q : AFrame → AHeap → Prop} (hx : Own f H x sz cs) (hy : sliceCells H sz y = some news) (hz : zero.length = sz) (hsz : 0 < sz) (hn : news.length % sz = 0) (hf : fl ≤ f) (hfH : f ≤ H.length)
    (hb : (cs.length + news.length) * bytes ≤ 140737488355328) (h1 : o1.ev fr = .c x) (h2 : o2.ev fr = y)
    (h : ∀ x' H', Own f H' x' sz (cs ++ news) → Kept f H H' → (∀ z ds k, Own f H z k ds → Apart x z → Own f H' z k ds ∧ Apart x' z) → AO A fl rest (putA fr d (.c x')) H' Q) : AO A fl (⟨d, .append zero bytes o1 o2, none⟩ :: rest) fr H Q := by
  obtain ⟨x', H', e, h3, h4, h5⟩ := exec_append (call := noCall) hx hy hz hsz hn hf hfH hb h1 h2
  exact AO_step rfl e (h x' H' h3 h4 h5)
theorem cells_last {H : AHeap} {cs : List Cell} {n : Nat} (h : cs.length = n) : sliceCells (H ++ [.own cs]) 1 (.c (.slc H.length 0 n 1)) = some cs := by
  subst h
  simp only [sliceCells, if_true, Nat.mul_one]; exact readN_all hcells_last
end PAbs

/- Steps that go as far as they can: operations up to the first call or append; lengths by facts; loops that count up. -/
namespace PAbs
open Go
set_option linter.unusedSimpArgs false
set_option linter.unusedVariables false

def AOp.stops : AOp → Bool
  | .call _ _ => true
  | .callV _ _ => true
  | .append _ _ (.k (.c .snil)) _ => false
  | .append _ _ _ _ => true
  | _ => false

inductive Pre where
  | at (ops : List AOper) (fr : AFrame) (H : AHeap)
  | bad

def Pre.isAt : Pre → List AOper → AFrame → AHeap → Prop
  | .at o f h, o', f', h' => o = o' ∧ f = f' ∧ h = h'
  | .bad, _, _, _ => False

def evalPre (fl : Nat) : List AOper → AFrame → AHeap → Pre
  | [], fr, H => .at [] fr H
  | o :: r, fr, H =>
    if wantedA fr o.guard then
      if o.op.stops then .at (o :: r) fr H else
      match execA noCall fl fr H o.op with
      | some (v, H') => evalPre fl r (putA fr o.dst v) H'
      | none => .bad
    else evalPre fl r (putA fr o.dst aundef) H

/-- the first one is not to stop -/
def evalPre1 (fl : Nat) : List AOper → AFrame → AHeap → Pre
  | [], _, _ => .bad
  | o :: r, fr, H =>
    if wantedA fr o.guard then
      if o.op.stops then .bad else
      match execA noCall fl fr H o.op with
      | some (v, H') => evalPre fl r (putA fr o.dst v) H'
      | none => .bad
    else evalPre fl r (putA fr o.dst aundef) H

def hPre : List AOper → AFrame → AHeap → Pre
  | [], fr, H => .at [] fr H
  | o :: r, fr, H =>
    if wantedA fr o.guard then
      if o.op.stops then .at (o :: r) fr H else
      match execA noCall H.length fr H o.op with
      | some (v, H') => hPre r (putA fr o.dst v) H'
      | none => .bad
    else hPre r (putA fr o.dst aundef) H
def hPre1 : List AOper → AFrame → AHeap → Pre
  | [], _, _ => .bad
  | o :: r, fr, H =>
    if wantedA fr o.guard then
      if o.op.stops then .bad else
      match execA noCall H.length fr H o.op with
      | some (v, H') => hPre r (putA fr o.dst v) H'
      | none => .bad
    else hPre r (putA fr o.dst aundef) H

section
variable {A : Nat → Option AFn} {fl : Nat}
theorem AO_pre0 : ∀ {ops ops' : List AOper} {fr fr' : AFrame} {H H' : AHeap} {Q : AFrame → AHeap → Prop}, evalPre fl ops fr H = .at ops' fr' H' → AO A fl ops' fr' H' Q → AO A fl ops fr H Q
  | [], ops', fr, fr', H, H', Q, h, h2 => by simp only [evalPre, Pre.at.injEq] at h; obtain ⟨rfl, rfl, rfl⟩ := h; exact h2
  | o :: r, ops', fr, fr', H, H', Q, h, h2 => by
    simp only [evalPre] at h
    split at h
    · rename_i hw
      split at h
      · simp only [Pre.at.injEq] at h; obtain ⟨rfl, rfl, rfl⟩ := h; exact h2
      · split at h
        · rename_i v H1 hx
          exact AO_step hw hx (AO_pre0 h h2)
        · cases h
    · rename_i hw
      exact AO_skip (by simpa using hw) (AO_pre0 h h2)
theorem AO_pre {ops ops' : List AOper} {fr fr' : AFrame} {H H' : AHeap} {Q : AFrame → AHeap → Prop} (h : evalPre1 fl ops fr H = .at ops' fr' H') (h2 : AO A fl ops' fr' H' Q) : AO A fl ops fr H Q := by
  refine AO_pre0 (ops' := ops') (fr' := fr') (H' := H') ?_ h2
  cases ops with
  | nil => cases h
  | cons o r =>
    simp only [evalPre, evalPre1] at h ⊢
    split at h
    · rename_i hw
      rw [if_pos hw]
      split at h
      · cases h
      · rename_i hs
        rw [if_neg hs]; exact h
    · rename_i hw
      rw [if_neg hw]; exact h
theorem AHd_pre0 : ∀ {ops ops' : List AOper} {fr fr' : AFrame} {H H' : AHeap} {Q : AFrame → AHeap → Prop}, hPre ops fr H = .at ops' fr' H' → AHd A ops' fr' H' Q → AHd A ops fr H Q
  | [], ops', fr, fr', H, H', Q, h, h2 => by simp only [hPre, Pre.at.injEq] at h; obtain ⟨rfl, rfl, rfl⟩ := h; exact h2
  | o :: r, ops', fr, fr', H, H', Q, h, h2 => by
    simp only [hPre] at h
    split at h
    · rename_i hw
      split at h
      · simp only [Pre.at.injEq] at h; obtain ⟨rfl, rfl, rfl⟩ := h; exact h2
      · split at h
        · rename_i v H1 hx
          exact AHd_step hw hx (AHd_pre0 h h2)
        · cases h
    · rename_i hw
      exact AHd_skip (by simpa using hw) (AHd_pre0 h h2)
theorem AHd_pre {ops ops' : List AOper} {fr fr' : AFrame} {H H' : AHeap} {Q : AFrame → AHeap → Prop} (h : hPre1 ops fr H = .at ops' fr' H') (h2 : AHd A ops' fr' H' Q) : AHd A ops fr H Q := by
  refine AHd_pre0 (ops' := ops') (fr' := fr') (H' := H') ?_ h2
  cases ops with
  | nil => cases h
  | cons o r =>
    simp only [hPre, hPre1] at h ⊢
    split at h
    · rename_i hw
      rw [if_pos hw]
      split at h
      · cases h
      · rename_i hs
        rw [if_neg hs]; exact h
    · rename_i hw
      rw [if_neg hw]; exact h
end

def contP (fl : Nat) (d : Option Nat) (rest : List AOper) (fr : AFrame) : Option (AV × AHeap) → Pre
  | some (v, H) => evalPre fl rest (putA fr d v) H
  | none => .bad
def stopP (fl : Nat) (o : AOper) (rest : List AOper) (fr : AFrame) (H : AHeap) : Bool → Pre
  | true => .at (o :: rest) fr H
  | false => contP fl o.dst rest fr (execA noCall fl fr H o.op)
def gateP (fl : Nat) (o : AOper) (rest : List AOper) (fr : AFrame) (H : AHeap) : Bool → Pre
  | true => stopP fl o rest fr H o.op.stops
  | false => evalPre fl rest (putA fr o.dst aundef) H
def stopQ (fl : Nat) (o : AOper) (rest : List AOper) (fr : AFrame) (H : AHeap) : Bool → Pre
  | true => .bad
  | false => contP fl o.dst rest fr (execA noCall fl fr H o.op)
def gateQ (fl : Nat) (o : AOper) (rest : List AOper) (fr : AFrame) (H : AHeap) : Bool → Pre
  | true => stopQ fl o rest fr H o.op.stops
  | false => evalPre fl rest (putA fr o.dst aundef) H
def contHP (d : Option Nat) (rest : List AOper) (fr : AFrame) : Option (AV × AHeap) → Pre
  | some (v, H) => hPre rest (putA fr d v) H
  | none => .bad
def stopHP (o : AOper) (rest : List AOper) (fr : AFrame) (H : AHeap) : Bool → Pre
  | true => .at (o :: rest) fr H
  | false => contHP o.dst rest fr (execA noCall H.length fr H o.op)
def stopHQ (o : AOper) (rest : List AOper) (fr : AFrame) (H : AHeap) : Bool → Pre
  | true => .bad
  | false => contHP o.dst rest fr (execA noCall H.length fr H o.op)
def gateHQ (o : AOper) (rest : List AOper) (fr : AFrame) (H : AHeap) : Bool → Pre
  | true => stopHQ o rest fr H o.op.stops
  | false => hPre rest (putA fr o.dst aundef) H
def gateHP (o : AOper) (rest : List AOper) (fr : AFrame) (H : AHeap) : Bool → Pre
  | true => stopHP o rest fr H o.op.stops
  | false => hPre rest (putA fr o.dst aundef) H

section
variable {fl : Nat} {d : Option Nat} {op : AOp} {rest : List AOper} {fr : AFrame} {H : AHeap} {v : AV} {g : Nat × Bool}
theorem pre_nil : evalPre fl [] fr H = .at [] fr H := rfl
theorem pre_cons : evalPre fl (⟨d, op, none⟩ :: rest) fr H = stopP fl ⟨d, op, none⟩ rest fr H op.stops := by
  simp only [evalPre, wantedA, if_true]; cases h : op.stops <;> simp only [stopP, if_true, if_false, Bool.false_eq_true]
  cases execA noCall fl fr H op <;> rfl
theorem pre_gate : evalPre fl (⟨d, op, some g⟩ :: rest) fr H = gateP fl ⟨d, op, some g⟩ rest fr H (wantedA fr (some g)) := by
  simp only [evalPre]
  cases hw : wantedA fr (some g) with
  | true =>
    simp only [if_true, gateP]; cases h : op.stops <;> simp only [stopP, if_true, if_false, Bool.false_eq_true]
    cases execA noCall fl fr H op <;> rfl
  | false => simp [gateP]
theorem pre1_nil : evalPre1 fl [] fr H = .bad := rfl
theorem pre1_cons : evalPre1 fl (⟨d, op, none⟩ :: rest) fr H = stopQ fl ⟨d, op, none⟩ rest fr H op.stops := by
  simp only [evalPre1, wantedA, if_true]; cases h : op.stops <;> simp only [stopQ, if_true, if_false, Bool.false_eq_true]
  cases execA noCall fl fr H op <;> rfl
theorem pre1_gate : evalPre1 fl (⟨d, op, some g⟩ :: rest) fr H = gateQ fl ⟨d, op, some g⟩ rest fr H (wantedA fr (some g)) := by
  simp only [evalPre1]
  cases hw : wantedA fr (some g) with
  | true =>
    simp only [if_true, gateQ]; cases h : op.stops <;> simp only [stopQ, if_true, if_false, Bool.false_eq_true]
    cases execA noCall fl fr H op <;> rfl
  | false => simp [gateQ]
theorem qstop_true {o : AOper} : stopQ fl o rest fr H true = .bad := rfl
theorem qstop_false : stopQ fl ⟨d, op, none⟩ rest fr H false = contP fl d rest fr (execA noCall fl fr H op) := rfl
theorem qstopg_false : stopQ fl ⟨d, op, some g⟩ rest fr H false = contP fl d rest fr (execA noCall fl fr H op) := rfl
theorem qgate_true : gateQ fl ⟨d, op, some g⟩ rest fr H true = stopQ fl ⟨d, op, some g⟩ rest fr H op.stops := rfl
theorem qgate_false : gateQ fl ⟨d, op, some g⟩ rest fr H false = evalPre fl rest (putA fr d aundef) H := rfl
theorem pcont_some : contP fl d rest fr (some (v, H)) = evalPre fl rest (putA fr d v) H := rfl
theorem pstop_true {o : AOper} : stopP fl o rest fr H true = .at (o :: rest) fr H := rfl
theorem pstop_false : stopP fl ⟨d, op, none⟩ rest fr H false = contP fl d rest fr (execA noCall fl fr H op) := rfl
theorem pstopg_false : stopP fl ⟨d, op, some g⟩ rest fr H false = contP fl d rest fr (execA noCall fl fr H op) := rfl
theorem pgate_true : gateP fl ⟨d, op, some g⟩ rest fr H true = stopP fl ⟨d, op, some g⟩ rest fr H op.stops := rfl
theorem pgate_false : gateP fl ⟨d, op, some g⟩ rest fr H false = evalPre fl rest (putA fr d aundef) H := rfl
theorem hpre_nil : hPre [] fr H = .at [] fr H := rfl
theorem hpre_cons : hPre (⟨d, op, none⟩ :: rest) fr H = stopHP ⟨d, op, none⟩ rest fr H op.stops := by
  simp only [hPre, wantedA, if_true]; cases h : op.stops <;> simp only [stopHP, if_true, if_false, Bool.false_eq_true]
  cases execA noCall H.length fr H op <;> rfl
theorem hpre_gate : hPre (⟨d, op, some g⟩ :: rest) fr H = gateHP ⟨d, op, some g⟩ rest fr H (wantedA fr (some g)) := by
  simp only [hPre]
  cases hw : wantedA fr (some g) with
  | true =>
    simp only [if_true, gateHP]; cases h : op.stops <;> simp only [stopHP, if_true, if_false, Bool.false_eq_true]
    cases execA noCall H.length fr H op <;> rfl
  | false => simp [gateHP]
theorem hpre1_nil : hPre1 [] fr H = .bad := rfl
theorem hpre1_cons : hPre1 (⟨d, op, none⟩ :: rest) fr H = stopHQ ⟨d, op, none⟩ rest fr H op.stops := by
  simp only [hPre1, wantedA, if_true]; cases h : op.stops <;> simp only [stopHQ, if_true, if_false, Bool.false_eq_true]
  cases execA noCall H.length fr H op <;> rfl
theorem hpre1_gate : hPre1 (⟨d, op, some g⟩ :: rest) fr H = gateHQ ⟨d, op, some g⟩ rest fr H (wantedA fr (some g)) := by
  simp only [hPre1]
  cases hw : wantedA fr (some g) with
  | true =>
    simp only [if_true, gateHQ]; cases h : op.stops <;> simp only [stopHQ, if_true, if_false, Bool.false_eq_true]
    cases execA noCall H.length fr H op <;> rfl
  | false => simp [gateHQ]
theorem hqstop_true {o : AOper} : stopHQ o rest fr H true = .bad := rfl
theorem hqstop_false : stopHQ ⟨d, op, none⟩ rest fr H false = contHP d rest fr (execA noCall H.length fr H op) := rfl
theorem hqstopg_false : stopHQ ⟨d, op, some g⟩ rest fr H false = contHP d rest fr (execA noCall H.length fr H op) := rfl
theorem hqgate_true : gateHQ ⟨d, op, some g⟩ rest fr H true = stopHQ ⟨d, op, some g⟩ rest fr H op.stops := rfl
theorem hqgate_false : gateHQ ⟨d, op, some g⟩ rest fr H false = hPre rest (putA fr d aundef) H := rfl
theorem hpcont_some : contHP d rest fr (some (v, H)) = hPre rest (putA fr d v) H := rfl
theorem hpstop_true {o : AOper} : stopHP o rest fr H true = .at (o :: rest) fr H := rfl
theorem hpstop_false : stopHP ⟨d, op, none⟩ rest fr H false = contHP d rest fr (execA noCall H.length fr H op) := rfl
theorem hpstopg_false : stopHP ⟨d, op, some g⟩ rest fr H false = contHP d rest fr (execA noCall H.length fr H op) := rfl
theorem hpgate_true : gateHP ⟨d, op, some g⟩ rest fr H true = stopHP ⟨d, op, some g⟩ rest fr H op.stops := rfl
theorem hpgate_false : gateHP ⟨d, op, some g⟩ rest fr H false = hPre rest (putA fr d aundef) H := rfl
end

/-- whether a guarded operation is wanted -/
def wantV (x : Option AV) (w : Bool) : Bool := match x with | some (.c (.bool b)) => b == w | _ => false
theorem want_eq {fr : AFrame} {t : Nat} {w : Bool} : wantedA fr (some (t, w)) = wantV fr[t]? w := rfl
theorem wantV_bool {b w : Bool} : wantV (some (.c (.bool b))) w = (b == w) := rfl
theorem wantV_undef {w : Bool} : wantV (some aundef) w = false := rfl

/-- the length of a slice -/
def lenX (H : AHeap) (x : AV) : Option (AV × AHeap) :=
  match x with
  | .c .snil => some (i64 0, H)
  | .c (.slc b _ n _) => (hcells H b).map fun _ => (i64 n, H)
  | _ => none
theorem exec_lenX {call : ACall} {fl : Nat} {fr : AFrame} {H : AHeap} {o : AOpd} : execA call fl fr H (.len false o) = lenX H (o.ev fr) := by
  simp only [execA, stepA, lenX]
  cases o.ev fr with
  | c x => cases x <;> rfl
  | agg l => rfl
  | tup l => rfl
  | clo f l => rfl
theorem lenX_snil {H : AHeap} : lenX H (.c .snil) = some (.c (.int .i64 0), H) := rfl
theorem lenX_slc {H : AHeap} {b o n z : Nat} : lenX H (.c (.slc b o n z)) = (hcells H b).map fun _ => (.c (.int .i64 (n : Int)), H) := rfl
theorem Rd.len {H : AHeap} {x : Cell} {sz : Nat} {cs : List Cell} (h : Rd H x sz cs) (n : Nat) (hn : cs.length = n * sz) (hz : 0 < sz) : lenX H (.c x) = some (.c (.int .i64 (n : Int)), H) := by
  rcases h with ⟨rfl, rfl⟩ | ⟨s, b, m, rfl, h2, h3⟩
  · obtain rfl : n = 0 := by
      rcases Nat.eq_zero_or_pos n with h | h
      · exact h
      · have := Nat.mul_pos h hz
        simp only [List.length_nil] at hn; omega
    rfl
  · obtain rfl : n = m := Nat.eq_of_mul_eq_mul_right hz (by omega)
    simp only [readN] at h3
    cases hc : hcells H s with
    | none => rw [hc] at h3; cases h3
    | some l => rw [lenX_slc, hc]; rfl
theorem Rd.len1 {H : AHeap} {x : Cell} {cs : List Cell} (h : Rd H x 1 cs) (n : Nat) (hn : cs.length = n) : lenX H (.c x) = some (.c (.int .i64 (n : Int)), H) := h.len n (by omega) (by omega)
theorem Rd.len0 {H : AHeap} {x : Cell} {sz : Nat} {cs : List Cell} (h : Rd H x sz cs) (hn : cs.length = 0) (hz : 0 < sz) : lenX H (.c x) = some (.c (.int .i64 0), H) := h.len 0 (by omega) hz

section
variable {A : Nat → Option AFn} {fl id : Nat} {fr : AFrame} {H : AHeap} {Q : AExit → AFrame → AHeap → Prop}
theorem thenQ_n {b : ACode} (h : AW A fl b fr H Q) : thenQ A fl b Q .normal fr H := h
theorem blockQ_n (h : Q .normal fr H) : blockQ id Q .normal fr H := h
theorem AW_blockS {a b : ACode} (h : AW A fl (.seq a b) fr H (blockQ id Q)) : AW A fl (.block id (.seq a b)) fr H Q := AW_block h
theorem AW_blockR {a : List AOper} (h : AW A fl (.region a) fr H (blockQ id Q)) : AW A fl (.block id (.region a)) fr H Q := AW_block h
theorem AW_blockD3 {a b : List AOper} (h : AW A fl (.draw3 a b) fr H (blockQ id Q)) : AW A fl (.block id (.draw3 a b)) fr H Q := AW_block h
theorem AW_blockD {a b : List AOper} (h : AW A fl (.draw a b) fr H (blockQ id Q)) : AW A fl (.block id (.draw a b)) fr H Q := AW_block h
theorem AW_blockC {c : AOpd} {a b : ACode} (h : AW A fl (.cond c a b) fr H (blockQ id Q)) : AW A fl (.block id (.cond c a b)) fr H Q := AW_block h
end
theorem ret_ok {rs : List ARes} {fr : AFrame} {H : AHeap} {Q : AV → AHeap → Prop} {v : AV} (h : outA fr H rs = some v) (hq : Q v H) : exitQ rs Q .ret fr H := ⟨v, h, hq⟩

/-- a loop that counts up -/
theorem AW_up {A : Nat → Option AFn} {fl : Nat} {c : ACode} {fr : AFrame} {H : AHeap} {Q : AExit → AFrame → AHeap → Prop} (I : Nat → AFrame → AHeap → Prop) (n : Nat) (h0 : I 0 fr H)
    (hr : ∀ i fr H, i ≤ n → I i fr H → AW A fl c fr H (fun e fr' H' => match e with | .normal => i < n ∧ I (i + 1) fr' H' | e => Q e fr' H')) : AW A fl (.loop c) fr H Q := by
  refine AW_loopN (fun m fr H => m ≤ n ∧ I (n - m) fr H) n ⟨Nat.le_refl _, by rw [Nat.sub_self]; exact h0⟩ ?_
  intro m fr H ⟨hm, hI⟩
  refine (hr (n - m) fr H (Nat.sub_le _ _) hI).mono fun e fr' H' h => ?_
  cases e with
  | normal =>
    obtain ⟨h1, h2⟩ := h
    refine ⟨m - 1, by omega, by omega, ?_⟩
    have e : n - (m - 1) = n - m + 1 := by omega
    rw [e]; exact h2
  | exit id => exact h
  | ret => exact h

theorem i64_of {n : Int} (h : -9223372036854775808 ≤ n) (h' : n < 9223372036854775808) : IntKind.i64.wrap n = n := by
  show (if (true && decide (n % (2 ^ 64 : Int) ≥ (2 ^ 63 : Int))) = true then n % (2 ^ 64 : Int) - (2 ^ 64 : Int) else n % (2 ^ 64 : Int)) = n
  simp only [Bool.true_and, decide_eq_true_eq]
  split <;> omega
theorem i64_add {a b : Nat} (h : a + b < 9223372036854775808) : IntKind.i64.wrap ((a : Int) + (b : Int)) = ((a + b : Nat) : Int) := by rw [i64_of (by omega) (by omega)]; omega
theorem i64_succ {a : Nat} (h : a < 9223372036854775807) : IntKind.i64.wrap ((a : Int) + 1) = ((a + 1 : Nat) : Int) := by rw [i64_of (by omega) (by omega)]; omega

theorem nat_0 : ((0 : Nat) : Int) = 0 := rfl
theorem nat_1 : ((1 : Nat) : Int) = 1 := rfl
theorem nat_2 : ((2 : Nat) : Int) = 2 := rfl
theorem nat_3 : ((3 : Nat) : Int) = 3 := rfl
theorem nat_4 : ((4 : Nat) : Int) = 4 := rfl
theorem nat_8 : ((8 : Nat) : Int) = 8 := rfl
theorem nat_16 : ((16 : Nat) : Int) = 16 := rfl
theorem nat_64 : ((64 : Nat) : Int) = 64 := rfl
theorem nat_128 : ((128 : Nat) : Int) = 128 := rfl
end PAbs

/- Lists of cells: bytes, words; a list changed place by place; stores; bits. -/
namespace PAbs
open Go
set_option linter.unusedSimpArgs false
set_option linter.unusedVariables false

/-- the cells of letters -/
def B8 (s : List UInt8) : List Cell := s.map fun u => .int .u8 u.toNat
theorem B8_length {s : List UInt8} : (B8 s).length = s.length := by simp [B8]
theorem B8_append {s t : List UInt8} : B8 (s ++ t) = B8 s ++ B8 t := by simp [B8]
theorem B8_get {s : List UInt8} {i : Nat} {u : UInt8} (h : s[i]? = some u) : (B8 s)[i]? = some (.int .u8 (u.toNat : Int)) := by simp [B8, h]
theorem B8_set {s : List UInt8} {i : Nat} {u : UInt8} : (B8 s).set i (.int .u8 (u.toNat : Int)) = B8 (s.set i u) := by simp [B8, List.map_set]
theorem bytesOf_B8 : ∀ s : List UInt8, bytesOf (B8 s) = some s
  | [] => rfl
  | u :: s => by
    have := bytesOf_B8 s
    simp only [B8, List.map_cons, bytesOf, byteOf] at this ⊢
    rw [this]; simp
theorem B8_of_str (s : List UInt8) : (s.map fun u => Cell.int .u8 (u.toNat : Int)) = B8 s := rfl

/-- a list whose first k places are new -/
def upd {α : Type} (f : Nat → α) (l : List α) : Nat → List α
  | 0 => l
  | k + 1 => (upd f l k).set k (f k)
theorem upd_length {α : Type} {f : Nat → α} {l : List α} : ∀ k, (upd f l k).length = l.length
  | 0 => rfl
  | k + 1 => by simp [upd, upd_length k]
theorem upd_get {α : Type} {f : Nat → α} {l : List α} : ∀ k j, j < l.length → (upd f l k)[j]? = if j < k then some (f j) else l[j]?
  | 0, j, h => by simp [upd]
  | k + 1, j, h => by
    simp only [upd, List.getElem?_set, upd_length]
    by_cases hk : k = j
    · subst hk; rw [if_pos rfl, if_pos h, if_pos (by omega)]
    · rw [if_neg hk, upd_get k j h]
      by_cases hj : j < k
      · rw [if_pos hj, if_pos (by omega)]
      · rw [if_neg hj, if_neg (by omega)]
theorem upd_self {α : Type} {f : Nat → α} {l : List α} (k : Nat) (h : k < l.length) : (upd f l k)[k]? = l[k]? := by rw [upd_get k k h, if_neg (by omega)]
theorem upd_eq {α : Type} {f : Nat → α} {l m : List α} (hl : l.length = m.length) (h : ∀ j, j < m.length → m[j]? = some (f j)) : upd f l m.length = m := by
  apply List.ext_getElem?
  intro j
  rcases Nat.lt_or_ge j m.length with hj | hj
  · rw [upd_get _ j (by omega), if_pos hj, h j hj]
  · rw [List.getElem?_eq_none (by rw [upd_length]; omega), List.getElem?_eq_none hj]

theorem Kept.setB {f b : Nat} {H : AHeap} {y : Blk} (h : f ≤ b) : Kept f H (H.set b y) := ⟨by simp, fun c hc _ => by rw [List.getElem?_set, if_neg (by omega)]⟩

/-- bytes as a text -/
def bsX (H : AHeap) (y : AV) : Option (AV × AHeap) :=
  match y with
  | .c (.str _) => none
  | v => match sliceCells H 1 v with | some cs => (bytesOf cs).map fun l => (.c (.str l), H) | none => none
theorem exec_bsX {call : ACall} {fl : Nat} {fr : AFrame} {H : AHeap} {o : AOpd} : execA call fl fr H (.bytesStr o) = bsX H (o.ev fr) := by simp only [execA, stepA, bsX]; rfl
theorem bsX_rd {H : AHeap} {x : Cell} {s : List UInt8} (h : Rd H x 1 (B8 s)) : bsX H (.c x) = some (.c (.str s), H) := by
  have hc := h.cells
  rcases h with ⟨rfl, h2⟩ | ⟨s', o, n, rfl, h2, h3⟩
  · simp only [bsX, hc, bytesOf_B8]; rfl
  · simp only [bsX, hc, bytesOf_B8]; rfl

/-- append to nothing -/
def appNil (H : AHeap) (z bytes : Nat) (y : AV) : Option (AV × AHeap) :=
  match sliceCells H z y with
  | some news => if news.length * bytes ≤ 140737488355328 then some (.c (.slc H.length 0 (news.length / z) z), H ++ [.own news]) else none
  | none => none
theorem exec_appNil {call : ACall} {fl bytes : Nat} {fr : AFrame} {H : AHeap} {zero : List Cell} {o : AOpd} : execA call fl fr H (.append zero bytes (.k (.c .snil)) o) = appNil H zero.length bytes (o.ev fr) := by
  simp only [execA, stepA, appendA, appNil]
  generalize o.ev fr = y
  cases sliceCells H zero.length y <;> rfl
theorem appNil_one {H : AHeap} {bytes n : Nat} {y : AV} {news : List Cell} (h : sliceCells H 1 y = some news) (hn : news.length = n) (hb : n * bytes ≤ 140737488355328) : appNil H 1 bytes y = some (.c (.slc H.length 0 n 1), H ++ [.own news]) := by
  subst hn; simp only [appNil, h, if_pos hb, Nat.div_one]

/-- a store of one cell -/
def storeX (fl : Nat) (H : AHeap) (a x : AV) : Option (AV × AHeap) :=
  match a, x.cells with
  | .c (.ptr b o), some vs => if vs.length = 1 then (writeN fl H b o vs).map fun H' => (aundef, H') else none
  | _, _ => none
theorem exec_storeX {call : ACall} {fl : Nat} {fr : AFrame} {H : AHeap} {a x : AOpd} : execA call fl fr H (.store 1 a x) = storeX fl H (a.ev fr) (x.ev fr) := by
  simp only [execA, stepA, storeX]; rfl
theorem storeX_own {fl : Nat} {H : AHeap} {b o : Nat} {cs : List Cell} {v : Cell} (hb : hown H b = some cs) (hf : fl ≤ b) (ho : o < cs.length) : storeX fl H (.c (.ptr b o)) (.c v) = some (aundef, H.set b (.own (cs.set o v))) := by
  have e : cs.set o v = cs.take o ++ [v] ++ cs.drop (o + 1) := by rw [List.set_eq_take_append_cons_drop, if_pos ho]; simp
  simp only [storeX, AV.cells, writeN, hb, List.length_cons, List.length_nil, Nat.zero_add, if_true]
  rw [if_pos ⟨hf, by omega⟩, e]; rfl
/-- a store of several cells -/
def storeN (n fl : Nat) (H : AHeap) (a x : AV) : Option (AV × AHeap) :=
  match a, x.cells with
  | .c (.ptr b o), some vs => if vs.length = n then (writeN fl H b o vs).map fun H' => (aundef, H') else none
  | _, _ => none
theorem exec_storeN {call : ACall} {fl n : Nat} {fr : AFrame} {H : AHeap} {a x : AOpd} : execA call fl fr H (.store n a x) = storeN n fl H (a.ev fr) (x.ev fr) := by
  simp only [execA, stepA, storeN]; rfl
theorem storeN_all {n fl : Nat} {H : AHeap} {b : Nat} {cs vs : List Cell} (hb : hown H b = some cs) (hf : fl ≤ b) (hc : cs.length = n) (hv : vs.length = n) : storeN n fl H (.c (.ptr b 0)) (.agg vs) = some (aundef, H.set b (.own vs)) := by
  simp only [storeN, AV.cells, writeN, hb, hv, if_true]
  rw [if_pos ⟨hf, by omega⟩, List.drop_eq_nil_of_le (by omega)]; simp

theorem Rd.full {H : AHeap} {u o n sz : Nat} {cs : List Cell} (h : Rd H (.slc u o n sz) sz cs) : ∃ full, hcells H u = some full ∧ cs.length = n * sz ∧ o + n * sz ≤ full.length ∧ cs = (full.drop o).take (n * sz) := by
  rcases h with ⟨h, _⟩ | ⟨s, o', n', e, h2, h3⟩
  · cases h
  · cases e
    simp only [readN] at h3
    cases hc : hcells H u with
    | none => rw [hc] at h3; cases h3
    | some l =>
      rw [hc] at h3
      simp only at h3
      split at h3
      · exact ⟨l, rfl, h2, by assumption, (Option.some.inj h3).symm⟩
      · cases h3
theorem Rd.of_full {H : AHeap} {u o n sz : Nat} {full cs : List Cell} (hc : hcells H u = some full) (hl : o + n * sz ≤ full.length) (he : cs = (full.drop o).take (n * sz)) : Rd H (.slc u o n sz) sz cs := by
  refine .inr ⟨u, o, n, rfl, ?_, ?_⟩
  · rw [he, List.length_take, List.length_drop]; omega
  · simp only [readN, hc, he]; rw [if_pos hl]
/-- a part of a slice -/
theorem Rd.sub {H : AHeap} {u o n sz i j : Nat} {cs : List Cell} (h : Rd H (.slc u o n sz) sz cs) (hij : i ≤ j) (hj : j ≤ n) : Rd H (.slc u (o + i * sz) (j - i) sz) sz ((cs.drop (i * sz)).take ((j - i) * sz)) := by
  obtain ⟨full, hc, hl, ho, he⟩ := h.full
  have h1 : j * sz ≤ n * sz := Nat.mul_le_mul_right _ hj
  have h2 : (j - i) * sz + i * sz = j * sz := by rw [← Nat.add_mul]; congr 1; omega
  refine Rd.of_full hc (by omega) ?_
  rw [he, List.drop_take, List.take_take, List.drop_drop]
  congr 1; omega

theorem xor_of {k : IntKind} (hs : k.signed = false) {a b : Nat} (ha : a < 2 ^ k.bits) (hb : b < 2 ^ k.bits) : bitsA .xor k (a : Int) (b : Int) = ((a ^^^ b : Nat) : Int) := by
  have h : a ^^^ b < 2 ^ k.bits := Nat.xor_lt_two_pow ha hb
  simp only [bitsA, IntKind.wrap, hs, Bool.false_and, Bool.false_eq_true, if_false, BitVec.ofInt_natCast, BitVec.toNat_xor, BitVec.toNat_ofNat, Nat.mod_eq_of_lt ha, Nat.mod_eq_of_lt hb]
  have : ((2 : Int) ^ k.bits) = ((2 ^ k.bits : Nat) : Int) := by simp
  rw [this, ← Int.natCast_emod, Nat.mod_eq_of_lt h]
theorem and_of {k : IntKind} (hs : k.signed = false) {a b : Nat} (ha : a < 2 ^ k.bits) (hb : b < 2 ^ k.bits) : bitsA .and k (a : Int) (b : Int) = ((a &&& b : Nat) : Int) := by
  have h : a &&& b < 2 ^ k.bits := Nat.and_lt_two_pow _ hb
  simp only [bitsA, IntKind.wrap, hs, Bool.false_and, Bool.false_eq_true, if_false, BitVec.ofInt_natCast, BitVec.toNat_and, BitVec.toNat_ofNat, Nat.mod_eq_of_lt ha, Nat.mod_eq_of_lt hb]
  have : ((2 : Int) ^ k.bits) = ((2 ^ k.bits : Nat) : Int) := by simp
  rw [this, ← Int.natCast_emod, Nat.mod_eq_of_lt h]
theorem xor_byte (a b : UInt8) : bitsA .xor .u8 (a.toNat : Int) (b.toNat : Int) = (((a ^^^ b : UInt8)).toNat : Int) := by
  rw [xor_of rfl a.toNat_lt b.toNat_lt, UInt8.toNat_xor]

theorem tmod_nat {a b : Nat} : Int.tmod (a : Int) (b : Int) = ((a % b : Nat) : Int) := by rw [← Int.ofNat_tmod]
theorem tdiv_nat {a b : Nat} : Int.tdiv (a : Int) (b : Int) = ((a / b : Nat) : Int) := by rw [← Int.ofNat_tdiv]
end PAbs

/- What a call changed: all but some blocks stand as they stood. -/
namespace PAbs
open Go
set_option linter.unusedSimpArgs false
set_option linter.unusedVariables false

def Chg (S : Nat → Prop) (H H' : AHeap) : Prop := H.length ≤ H'.length ∧ ∀ b, b < H.length → ¬ S b → H'[b]? = H[b]?
def none_ : Nat → Prop := fun _ => False
/-- the block of a slice -/
def inX (x : Cell) (b : Nat) : Prop := ∃ o n z, x = .slc b o n z

section
variable {S T : Nat → Prop} {H H1 H2 H' l : AHeap} {b : Nat} {cs : List Cell} {x : Cell} {sz : Nat}
theorem Chg.refl (S : Nat → Prop) (H : AHeap) : Chg S H H := ⟨Nat.le_refl _, fun _ _ _ => rfl⟩
theorem Chg.trans (h : Chg S H H1) (h2 : Chg T H1 H2) (ht : ∀ b, b < H.length → T b → S b) : Chg S H H2 :=
  ⟨Nat.le_trans h.1 h2.1, fun b hb hs => by rw [h2.2 b (Nat.lt_of_lt_of_le hb h.1) (fun t => hs (ht b hb t)), h.2 b hb hs]⟩
theorem Chg.mono (h : Chg S H H') (hs : ∀ b, b < H.length → S b → T b) : Chg T H H' := ⟨h.1, fun b hb ht => h.2 b hb fun s => ht (hs b hb s)⟩
theorem Chg.push (S : Nat → Prop) (H l : AHeap) : Chg S H (H ++ l) := ⟨by simp, fun b h _ => by simp [List.getElem?_append, h]⟩
theorem Chg.set {y : Blk} (hs : S b) : Chg S H (H.set b y) := ⟨by simp, fun c h hc => by
  rw [List.getElem?_set, if_neg (fun e => hc (by rw [← e]; exact hs))]⟩
theorem Chg.hown (h : Chg S H H') (hs : ¬ S b) (ho : PAbs.hown H b = some cs) : PAbs.hown H' b = some cs := by
  have hb := hown_lt ho
  simp only [PAbs.hown, h.2 b hb hs] at ho ⊢; exact ho
theorem Chg.hcells (h : Chg S H H') (hs : ¬ S b) (ho : PAbs.hcells H b = some cs) : PAbs.hcells H' b = some cs := by
  have hb := hcells_lt ho
  simp only [PAbs.hcells, h.2 b hb hs] at ho ⊢; exact ho
theorem Chg.of_kept (h : Kept H.length H H') : Chg none_ H H' := ⟨h.1, fun b hb _ => h.2 b hb hb⟩
theorem Chg.kept (h : Chg none_ H H') : Kept H.length H H' := ⟨h.1, fun b hb _ => h.2 b hb (fun f => f)⟩
theorem Rd.chg (h : Rd H x sz cs) (hc : Chg S H H') (hs : ∀ b, inX x b → ¬ S b) : Rd H' x sz cs := by
  rcases h with h | ⟨s, o, n, h1, h2, h3⟩
  · exact .inl h
  · refine .inr ⟨s, o, n, h1, h2, ?_⟩
    simp only [readN] at h3 ⊢
    cases hl : PAbs.hcells H s with
    | none => rw [hl] at h3; cases h3
    | some l => rw [hc.hcells (hs s ⟨o, n, sz, h1⟩) hl]; rw [hl] at h3; exact h3
theorem Own.chg {f : Nat} (h : Own f H x sz cs) (hc : Chg S H H') (hs : ∀ b, inX x b → ¬ S b) : Own f H' x sz cs := by
  rcases h with h | ⟨s, n, h1, h2, h3, h4⟩
  · exact .inl h
  · exact .inr ⟨s, n, h1, h2, h3, hc.hown (hs s ⟨_, _, _, h1⟩) h4⟩
theorem Own.le {f : Nat} (h : Own f H x sz cs) (hi : inX x b) : f ≤ b := by
  obtain ⟨o, n, z, rfl⟩ := hi
  rcases h with ⟨h, _⟩ | ⟨s, n, h1, h2, h3, h4⟩
  · cases h
  · cases h1; exact h3
theorem Own.lt' {f : Nat} (h : Own f H x sz cs) (hi : inX x b) : b < H.length := by
  obtain ⟨o, n, z, rfl⟩ := hi; exact h.lt
theorem Rd.lt (h : Rd H x sz cs) (hi : inX x b) : b < H.length := by
  obtain ⟨o, n, z, rfl⟩ := hi
  rcases h with ⟨h, _⟩ | ⟨s, o', n', h1, h2, h3⟩
  · cases h
  · cases h1
    simp only [readN] at h3
    cases hl : PAbs.hcells H b with
    | none => rw [hl] at h3; cases h3
    | some l => exact hcells_lt hl
end

/-- a slice that ends where its block ends, which is one's own -/
def OwnT (f : Nat) (H : AHeap) (x : Cell) (sz : Nat) (cs : List Cell) : Prop := (x = .snil ∧ cs = []) ∨ ∃ s o n full, x = .slc s o n sz ∧ cs.length = n * sz ∧ f ≤ s ∧ hown H s = some full ∧ o + n * sz = full.length ∧ cs = full.drop o
theorem Own.t {f : Nat} {H : AHeap} {x : Cell} {sz : Nat} {cs : List Cell} (h : Own f H x sz cs) : OwnT f H x sz cs := by
  rcases h with h | ⟨s, n, h1, h2, h3, h4⟩
  · exact .inl h
  · exact .inr ⟨s, 0, n, cs, h1, h2, h3, h4, by omega, rfl⟩
theorem OwnT.rd {f : Nat} {H : AHeap} {x : Cell} {sz : Nat} {cs : List Cell} (h : OwnT f H x sz cs) : Rd H x sz cs := by
  rcases h with h | ⟨s, o, n, full, rfl, h2, h3, h4, h5, h6⟩
  · exact .inl h
  · refine Rd.of_full (hcells_own h4) (by omega) ?_
    rw [List.take_of_length_le (by rw [List.length_drop]; omega)]; exact h6
theorem OwnT.chg {S : Nat → Prop} {H H' : AHeap} {f sz : Nat} {x : Cell} {cs : List Cell} (h : OwnT f H x sz cs) (hc : Chg S H H') (hs : ∀ b, inX x b → ¬ S b) : OwnT f H' x sz cs := by
  rcases h with h | ⟨s, o, n, full, h1, h2, h3, h4, h5, h6⟩
  · exact .inl h
  · exact .inr ⟨s, o, n, full, h1, h2, h3, hc.hown (hs s ⟨_, _, _, h1⟩) h4, h5, h6⟩

theorem exec_appendT {call : ACall} {fl f sz bytes : Nat} {fr : AFrame} {H : AHeap} {x : Cell} {y : AV} {cs news zero : List Cell} {o1 o2 : AOpd} (hx : OwnT f H x sz cs) (hy : sliceCells H sz y = some news) (hz : zero.length = sz) (hsz : 0 < sz) (hn : news.length % sz = 0) (hf : fl ≤ f) (hfH : f ≤ H.length)
    (hb : (cs.length + news.length) * bytes ≤ 140737488355328) (h1 : o1.ev fr = .c x) (h2 : o2.ev fr = y) :
    ∃ x' H', execA call fl fr H (.append zero bytes o1 o2) = some (.c x', H') ∧ Own f H' x' sz (cs ++ news) ∧ Chg (inX x) H H' ∧ ∃ n', x' = .slc H.length 0 n' sz := by
  have hdiv : news.length = news.length / sz * sz := by
    have := Nat.div_add_mod news.length sz; rw [hn, Nat.add_zero, Nat.mul_comm] at this; exact this.symm
  rcases hx with ⟨rfl, rfl⟩ | ⟨s, o, n, full, rfl, hl, hs, ho, hof, rfl⟩
  · have hb' : news.length * bytes ≤ 140737488355328 := by simpa using hb
    refine ⟨.slc H.length 0 (news.length / sz) sz, H ++ [.own news], ?_, .inr ⟨H.length, news.length / sz, rfl, by simpa using hdiv, hfH, hown_last⟩, Chg.push _ _ _, _, rfl⟩
    simp only [execA, stepA, h1, h2, appendA, hz, hy, hb', if_true]
  · have ls := hown_lt ho
    have hb' : (n * sz + news.length) * bytes ≤ 140737488355328 := by rw [← hl]; exact hb
    refine ⟨.slc H.length 0 (n + news.length / sz) sz, H.set s .dead ++ [.own (full.drop o ++ news)], ?_, .inr ⟨H.length, _, rfl, ?_, hfH, ?_⟩, ⟨by simp, fun b hb1 hb2 => ?_⟩, _, rfl⟩
    · simp only [execA, stepA, h1, h2, appendA, hz, hy, ho]
      rw [if_pos ⟨by omega, by first | rfl | trivial, by omega, hb'⟩]
    · simp only [List.length_append, Nat.add_mul, ← hdiv, hl]
    · have := hown_last (H := H.set s .dead) (cs := full.drop o ++ news)
      simpa using this
    · have hne : s ≠ b := fun e => hb2 ⟨o, n, sz, by rw [e]⟩
      rw [List.getElem?_append, if_pos (by simpa using hb1), List.getElem?_set, if_neg hne]
/-- append to a slice that ends where its block ends; the new one lies in the newest block -/
theorem AO_appendT {A : Nat → Option AFn} {fl f sz bytes : Nat} {fr : AFrame} {H : AHeap} {x : Cell} {y : AV} {cs news zero : List Cell} {o1 o2 : AOpd} {d : Option Nat} {rest : List AOper} {Q : AFrame → AHeap → Prop} (hx : OwnT f H x sz cs) (hy : sliceCells H sz y = some news) (hz : zero.length = sz) (hsz : 0 < sz) (hn : news.length % sz = 0) (hf : fl ≤ f) (hfH : f ≤ H.length)
    (hb : (cs.length + news.length) * bytes ≤ 140737488355328) (h1 : o1.ev fr = .c x) (h2 : o2.ev fr = y)
    (h : ∀ q n' H', q = H.length → Own f H' (.slc q 0 n' sz) sz (cs ++ news) → Chg (inX x) H H' → AO A fl rest (putA fr d (.c (.slc q 0 n' sz))) H' Q) : AO A fl (⟨d, .append zero bytes o1 o2, none⟩ :: rest) fr H Q := by
  obtain ⟨x', H', e, h3, h4, n', rfl⟩ := exec_appendT (call := noCall) hx hy hz hsz hn hf hfH hb h1 h2
  exact AO_step rfl e (h _ n' H' rfl h3 h4)

theorem OwnT.floor {f g : Nat} {H : AHeap} {x : Cell} {sz : Nat} {cs : List Cell} (h : OwnT f H x sz cs) (hg : ∀ b, inX x b → g ≤ b) : OwnT g H x sz cs := by
  rcases h with h | ⟨s, o, n, full, h1, h2, h3, h4, h5, h6⟩
  · exact .inl h
  · exact .inr ⟨s, o, n, full, h1, h2, hg s ⟨_, _, _, h1⟩, h4, h5, h6⟩
theorem OwnT.le {f b : Nat} {H : AHeap} {x : Cell} {sz : Nat} {cs : List Cell} (h : OwnT f H x sz cs) (hi : inX x b) : f ≤ b := by
  obtain ⟨o, n, z, rfl⟩ := hi
  rcases h with ⟨h, _⟩ | ⟨s, o', n', full, h1, h2, h3, h4, h5, h6⟩
  · cases h
  · cases h1; exact h3
theorem OwnT.lt {f b : Nat} {H : AHeap} {x : Cell} {sz : Nat} {cs : List Cell} (h : OwnT f H x sz cs) (hi : inX x b) : b < H.length := h.rd.lt hi
theorem OwnT.nil {f : Nat} {H : AHeap} {sz : Nat} : OwnT f H .snil sz [] := .inl ⟨rfl, rfl⟩
theorem OwnT.last {f n sz : Nat} {H : AHeap} {cs : List Cell} (hf : f ≤ H.length) (hn : cs.length = n * sz) : OwnT f (H ++ [.own cs]) (.slc H.length 0 n sz) sz cs := .inr ⟨_, 0, n, cs, rfl, hn, hf, hown_last, by omega, rfl⟩
/-- what is left behind the first places -/
theorem OwnT.drop {f s o n : Nat} {H : AHeap} {cs : List Cell} (h : OwnT f H (.slc s o n 1) 1 cs) {k : Nat} (hk : k ≤ n) : OwnT f H (.slc s (o + k) (n - k) 1) 1 (cs.drop k) := by
  rcases h with ⟨h, _⟩ | ⟨s', o', n', full, h1, h2, h3, h4, h5, h6⟩
  · cases h
  · cases h1
    refine .inr ⟨_, _, _, full, rfl, ?_, h3, h4, by omega, ?_⟩
    · rw [List.length_drop]; omega
    · rw [h6, List.drop_drop]
theorem OwnT.slc {f : Nat} {H : AHeap} {x : Cell} {cs : List Cell} (h : OwnT f H x 1 cs) (h0 : 0 < cs.length) : ∃ s o full, x = .slc s o cs.length 1 ∧ hown H s = some full ∧ o + cs.length = full.length ∧ cs = full.drop o := by
  rcases h with ⟨_, h⟩ | ⟨s, o, n, full, h1, h2, h3, h4, h5, h6⟩
  · rw [h] at h0; simp at h0
  · obtain rfl : n = cs.length := by omega
    exact ⟨s, o, full, h1, h4, by omega, h6⟩
theorem inX_slc {s o n z b : Nat} : inX (.slc s o n z) b ↔ b = s := ⟨fun ⟨_, _, _, h⟩ => by cases h; rfl, fun h => ⟨o, n, z, by rw [h]⟩⟩
theorem inX_snil {b : Nat} : ¬ inX .snil b := fun ⟨_, _, _, h⟩ => by cases h

/-- a slice of slices of bytes, all one's own -/
def BB (n : Nat) (H : AHeap) (y : Cell) (zs : List Cell) (bs : List (List UInt8)) : Prop := OwnT n H y 1 zs ∧ zs.length = bs.length ∧ ∀ (i : Nat) (z : Cell) (b : List UInt8), zs[i]? = some z → bs[i]? = some b → OwnT n H z 1 (B8 b)
def inB (y : Cell) (zs : List Cell) (b : Nat) : Prop := inX y b ∨ ∃ z ∈ zs, inX z b
theorem BB.nil {n : Nat} {H : AHeap} : BB n H .snil [] [] := ⟨OwnT.nil, rfl, fun i z b h => by simp at h⟩
theorem BB.chg {S : Nat → Prop} {n : Nat} {H H' : AHeap} {y : Cell} {zs : List Cell} {bs : List (List UInt8)} (h : BB n H y zs bs) (hc : Chg S H H') (hs : ∀ b, inB y zs b → ¬ S b) : BB n H' y zs bs :=
  ⟨h.1.chg hc fun b hb => hs b (.inl hb), h.2.1, fun i z b h1 h2 => (h.2.2 i z b h1 h2).chg hc fun c hc' => hs c (.inr ⟨z, List.mem_of_getElem? h1, hc'⟩)⟩
theorem BB.lt {n b : Nat} {H : AHeap} {y : Cell} {zs : List Cell} {bs : List (List UInt8)} (h : BB n H y zs bs) (hb : inB y zs b) : b < H.length := by
  rcases hb with hb | ⟨z, hz, hb⟩
  · exact h.1.lt hb
  · obtain ⟨i, hi, rfl⟩ := List.mem_iff_getElem.mp hz
    have hi' : i < bs.length := by rw [← h.2.1]; exact hi
    exact (h.2.2 i _ _ (List.getElem?_eq_getElem hi) (List.getElem?_eq_getElem hi')).lt hb
theorem BB.le {n b : Nat} {H : AHeap} {y : Cell} {zs : List Cell} {bs : List (List UInt8)} (h : BB n H y zs bs) (hb : inB y zs b) : n ≤ b := by
  rcases hb with hb | ⟨z, hz, hb⟩
  · exact h.1.le hb
  · obtain ⟨i, hi, rfl⟩ := List.mem_iff_getElem.mp hz
    have hi' : i < bs.length := by rw [← h.2.1]; exact hi
    exact (h.2.2 i _ _ (List.getElem?_eq_getElem hi) (List.getElem?_eq_getElem hi')).le hb
/-- one more behind -/
theorem BB.snoc {n : Nat} {H : AHeap} {y' z : Cell} {zs : List Cell} {bs : List (List UInt8)} {b : List UInt8} (h : ∀ (i : Nat) (z : Cell) (b : List UInt8), zs[i]? = some z → bs[i]? = some b → OwnT n H z 1 (B8 b)) (hl : zs.length = bs.length) (hy : OwnT n H y' 1 (zs ++ [z])) (hz : OwnT n H z 1 (B8 b)) : BB n H y' (zs ++ [z]) (bs ++ [b]) := by
  refine ⟨hy, by simp [hl], fun i w c h1 h2 => ?_⟩
  rw [List.getElem?_append] at h1 h2
  by_cases hi : i < zs.length
  · rw [if_pos hi] at h1; rw [if_pos (by omega)] at h2; exact h i w c h1 h2
  · rw [if_neg hi] at h1; rw [if_neg (by omega)] at h2
    have h0 : i - zs.length = 0 := by have := (List.getElem?_eq_some_iff.mp h1).1; simp at this; omega
    have h0' : i - bs.length = 0 := by omega
    rw [h0] at h1; rw [h0'] at h2
    simp at h1 h2
    subst h1 h2; exact hz

/-- a part of a slice -/
def sliceX (sz' : Nat) (H : AHeap) (x : AV) (lo hi : Option AV) : Option (AV × AHeap) :=
  match x with
  | .c (.slc b o n sz) =>
    match hiA hi n, loA lo with
    | some h, some l => if sz = sz' ∧ l ≤ h then (hcells H b).map fun _ => (.c (.slc b (o + l * sz) (h - l) sz), H) else none
    | _, _ => none
  | .c .snil =>
    match hiA hi 0, loA lo with
    | some _, some l => if l ≤ 0 then some (.c .snil, H) else none
    | _, _ => none
  | _ => none
theorem exec_sliceX {call : ACall} {fl sz : Nat} {fr : AFrame} {H : AHeap} {x : AOpd} {lo hi : Option AOpd} : execA call fl fr H (.sliceS sz x lo hi) = sliceX sz H (x.ev fr) (lo.map (·.ev fr)) (hi.map (·.ev fr)) := by
  simp only [execA, stepA, sliceX]; rfl
/-- from a place on -/
theorem Rd.slice_from {H : AHeap} {x : Cell} {cs : List Cell} (h : Rd H x 1 cs) {k : Nat} (hk : k ≤ cs.length) : ∃ x', sliceX 1 H (.c x) (some (.c (.int .i64 (k : Int)))) none = some (.c x', H) ∧ Rd H x' 1 (cs.drop k) ∧ (∀ b, inX x' b → inX x b) := by
  have h3 : (0 : Int) ≤ (k : Int) := by omega
  rcases h with ⟨rfl, rfl⟩ | ⟨s, o, n, rfl, hn, hr⟩
  · obtain rfl : k = 0 := by simpa using hk
    exact ⟨.snil, rfl, .inl ⟨rfl, rfl⟩, fun _ h => h⟩
  · have hR : Rd H (.slc s o n 1) 1 cs := .inr ⟨s, o, n, rfl, hn, hr⟩
    obtain ⟨full, hc, _, _, _⟩ := hR.full
    refine ⟨.slc s (o + k * 1) (n - k) 1, ?_, ?_, fun b hb => by rw [inX_slc] at hb ⊢; exact hb⟩
    · simp only [sliceX, hiA, loA, h3, if_true, Int.toNat_natCast, hc]
      rw [if_pos ⟨trivial, by omega⟩]; rfl
    · have := hR.sub (i := k) (j := n) (by omega) (Nat.le_refl _)
      rw [Nat.mul_one, Nat.mul_one, List.take_of_length_le (by rw [List.length_drop]; omega)] at this
      rw [Nat.mul_one]; exact this

/-! a block that is changed over and over: the heap is 'H.set p ..' -/
theorem set_id {H : AHeap} {p : Nat} {cs : List Cell} (h : hown H p = some cs) : H = H.set p (.own cs) := by
  have hp := hown_lt h
  apply List.ext_getElem?
  intro i
  rw [List.getElem?_set]
  by_cases e : p = i
  · subst e
    rw [if_pos rfl, if_pos hp]
    simp only [hown] at h
    split at h
    · rename_i hb; rw [hb]; cases h; rfl
    · cases h
  · rw [if_neg e]
theorem hcells_setS {H : AHeap} {p : Nat} {cs : List Cell} (hp : p < H.length) : hcells (H.set p (.own cs)) p = some cs := hcells_set hp
theorem storeX_setS {fl : Nat} {H : AHeap} {p o : Nat} {cs : List Cell} {v : Cell} (hp : p < H.length) (hf : fl ≤ p) (ho : o < cs.length) : storeX fl (H.set p (.own cs)) (.c (.ptr p o)) (.c v) = some (aundef, H.set p (.own (cs.set o v))) := by
  rw [storeX_own (hown_set hp) hf ho, List.set_set]

theorem set_last {H : AHeap} {x y : Blk} : (H ++ [x]).set H.length y = H ++ [y] := by
  rw [List.set_append_right _ _ (Nat.le_refl _), Nat.sub_self]; rfl
theorem storeN_last {n fl : Nat} {H : AHeap} {cs vs : List Cell} (hf : fl ≤ H.length) (hc : cs.length = n) (hv : vs.length = n) : storeN n fl (H ++ [.own cs]) (.c (.ptr H.length 0)) (.agg vs) = some (aundef, H ++ [.own vs]) := by
  rw [storeN_all hown_last hf hc hv, set_last]
theorem rep_len {α : Type} {n : Nat} {x : α} : (rep n x).length = n := by simp [rep]
theorem rep_4 {α : Type} {x : α} : rep 4 x = [x, x, x, x] := rfl
end PAbs

/- More facts for walks: copy; parts of lists; blocks of several cells. -/
namespace PAbs
open Go
set_option linter.unusedSimpArgs false
set_option linter.unusedVariables false

/-- copy -/
def copyX (sz fl : Nat) (H : AHeap) (d s : AV) : Option (AV × AHeap) :=
  match d, lenA s, sliceCells H sz s with
  | .c (.slc b o n sz'), some m, some cs => if sz' = sz then (writeN fl H b o (cs.take (min m n * sz))).map fun H' => (i64 (min m n : Nat), H') else none
  | _, _, _ => none
theorem exec_copyX {call : ACall} {fl sz : Nat} {fr : AFrame} {H : AHeap} {d s : AOpd} : execA call fl fr H (.copy sz d s) = copyX sz fl H (d.ev fr) (s.ev fr) := by
  simp only [execA, stepA, copyX]; rfl
theorem Rd.lenA {H : AHeap} {x : Cell} {cs : List Cell} (h : Rd H x 1 cs) : lenA (.c x) = some cs.length := by
  rcases h with ⟨rfl, rfl⟩ | ⟨s, o, n, rfl, h2, _⟩
  · rfl
  · simp only [PAbs.lenA]; rw [h2, Nat.mul_one]
theorem copyX_own {fl : Nat} {H : AHeap} {b o n k : Nat} {cs ns : List Cell} {x : Cell} (hb : hown H b = some cs) (hf : fl ≤ b) (hx : Rd H x 1 ns) (hk : min ns.length n = k) (ho : o + k ≤ cs.length) :
    copyX 1 fl H (.c (.slc b o n 1)) (.c x) = some (.c (.int .i64 (k : Int)), H.set b (.own (cs.take o ++ ns.take k ++ cs.drop (o + k)))) := by
  have hl : (ns.take k).length = k := by rw [List.length_take]; omega
  simp only [copyX, hx.lenA, hx.cells, if_true, Nat.mul_one, hk, writeN, hb, hl]
  rw [if_pos ⟨hf, ho⟩]; rfl

/-- a list with a part put in -/
def putL {α : Type} (l : List α) (o : Nat) (m : List α) : List α := l.take o ++ m ++ l.drop (o + m.length)
theorem putL_length {α : Type} {l m : List α} {o : Nat} (h : o + m.length ≤ l.length) : (putL l o m).length = l.length := by
  simp only [putL, List.length_append, List.length_take, List.length_drop]; omega
theorem putL_get {α : Type} {l m : List α} {o j : Nat} (h : o + m.length ≤ l.length) : (putL l o m)[j]? = if o ≤ j ∧ j < o + m.length then m[j - o]? else l[j]? := by
  have ht : (l.take o).length = o := by rw [List.length_take]; omega
  simp only [putL, List.getElem?_append, List.length_append, ht]
  by_cases h1 : j < o
  · rw [if_pos (by omega), if_pos h1, if_neg (by omega), List.getElem?_take, if_pos h1]
  · by_cases h2 : j < o + m.length
    · rw [if_pos h2, if_neg h1, if_pos ⟨by omega, h2⟩]
    · rw [if_neg h2, if_neg (by omega), List.getElem?_drop]
      congr 1; omega
theorem putL_map {α β : Type} {f : α → β} {l m : List α} {o : Nat} : putL (l.map f) o (m.map f) = (putL l o m).map f := by simp [putL]

/-- parts put together -/
def joinN {α : Type} (f : Nat → List α) : Nat → List α
  | 0 => []
  | n + 1 => joinN f n ++ f n
theorem joinN_length {α : Type} {f : Nat → List α} {k : Nat} (h : ∀ i, (f i).length = k) : ∀ n, (joinN f n).length = n * k
  | 0 => by simp [joinN]
  | n + 1 => by simp [joinN, joinN_length h n, h, Nat.add_mul]
theorem joinN_get {α : Type} {f : Nat → List α} {k : Nat} (h : ∀ i, (f i).length = k) : ∀ n j q, j < n → q < k → (joinN f n)[k * j + q]? = (f j)[q]?
  | 0, j, q, hj, _ => by omega
  | n + 1, j, q, hj, hq => by
    have hl := joinN_length h n
    simp only [joinN, List.getElem?_append, hl]
    have e := Nat.mul_comm n k
    rcases Nat.lt_or_ge j n with hj' | hj'
    · have h2 : k * j + k ≤ k * n := by rw [← Nat.mul_succ]; exact Nat.mul_le_mul_left _ hj'
      rw [if_pos (by omega)]
      exact joinN_get h n j q hj' hq
    · obtain rfl : j = n := by omega
      rw [if_neg (by omega)]
      congr 1; omega
theorem getD_of_get {α : Type} {l m : List α} {i j : Nat} {d : α} (h : l[i]? = m[j]?) : l.getD i d = m.getD j d := by rw [List.getD_eq_getElem?_getD, List.getD_eq_getElem?_getD, h]
theorem take_one' {α : Type} {l : List α} {i : Nat} {x : α} (h : l[i]? = some x) : l.take (i + 1) = l.take i ++ [x] := by rw [List.take_add_one, h]; rfl

/-- a place of a slice of one-cell elements, for facts -/
theorem Rd.at1 {H : AHeap} {u o n z : Nat} {cs : List Cell} (h : Rd H (.slc u o n z) 1 cs) (i : Nat) (hi : i < cs.length) : ∃ full, hcells H u = some full ∧ full[o + i]? = cs[i]? ∧ n = cs.length ∧ z = 1 := by
  obtain ⟨u', o', full, e, h1, h2⟩ := h.get hi
  cases e
  exact ⟨full, h1, h2, rfl, rfl⟩
/-- a slice of one's own -/
theorem Rd.all {H : AHeap} {b n : Nat} {cs : List Cell} (h : hcells H b = some cs) (hn : cs.length = n) : Rd H (.slc b 0 n 1) 1 cs := by
  subst hn; exact .inr ⟨b, 0, _, rfl, by omega, by rw [Nat.mul_one]; exact readN_all h⟩

theorem sliceX_from {H : AHeap} {b o n k sz : Nat} {cs : List Cell} (hb : hcells H b = some cs) (hk : k ≤ n) : sliceX sz H (.c (.slc b o n sz)) (some (.c (.int .i64 (k : Int)))) none = some (.c (.slc b (o + k * sz) (n - k) sz), H) := by
  have h3 : (0 : Int) ≤ (k : Int) := by omega
  simp only [sliceX, hiA, loA, h3, if_true, Int.toNat_natCast, hb]
  rw [if_pos ⟨trivial, by omega⟩]; rfl
theorem sliceX_to {H : AHeap} {b o n k sz : Nat} {cs : List Cell} (hb : hcells H b = some cs) (hk : k ≤ n) : sliceX sz H (.c (.slc b o n sz)) none (some (.c (.int .i64 (k : Int)))) = some (.c (.slc b o k sz), H) := by
  have h3 : (0 : Int) ≤ (k : Int) := by omega
  have h4 : (k : Int) ≤ (n : Int) := by omega
  simp only [sliceX, hiA, loA, h3, h4, and_self, if_true, Int.toNat_natCast, hb, Nat.zero_mul, Nat.add_zero, Nat.sub_zero]
  rw [if_pos ⟨trivial, by omega⟩]; rfl
theorem sliceX_part {H : AHeap} {b o n i j sz : Nat} {cs : List Cell} (hb : hcells H b = some cs) (hi : i ≤ j) (hj : j ≤ n) : sliceX sz H (.c (.slc b o n sz)) (some (.c (.int .i64 (i : Int)))) (some (.c (.int .i64 (j : Int)))) = some (.c (.slc b (o + i * sz) (j - i) sz), H) := by
  have h3 : (0 : Int) ≤ (i : Int) := by omega
  have h5 : (0 : Int) ≤ (j : Int) := by omega
  have h4 : (j : Int) ≤ (n : Int) := by omega
  simp only [sliceX, hiA, loA, h3, h4, h5, and_self, if_true, Int.toNat_natCast, hb]
  rw [if_pos ⟨trivial, by omega⟩]; rfl
end PAbs

/- Steps that go on until one lacks a fact, and stand there: the operation's value is an open term. -/
namespace PAbs
open Go
set_option linter.unusedSimpArgs false
set_option linter.unusedVariables false

theorem exec_same {fl : Nat} {fr : AFrame} {H : AHeap} {p : AOp} (call : ACall) (h : p.stops = false) : execA call fl fr H p = execA noCall fl fr H p := by
  cases p <;> first | rfl | (simp [AOp.stops] at h)

/-- what a row of steps comes to -/
def atOps (call : ACall) (fl : Nat) : Pre → Option (AFrame × AHeap)
  | .at o f h => evalOps call fl o f h
  | .bad => none
def atHead (call : ACall) : Pre → Option (AFrame × AHeap)
  | .at o f h => evalHead call o f h
  | .bad => none
theorem evalPre_ops (call : ACall) {fl : Nat} : ∀ (ops : List AOper) (fr : AFrame) (H : AHeap), evalOps call fl ops fr H = atOps call fl (evalPre fl ops fr H)
  | [], fr, H => rfl
  | o :: r, fr, H => by
    simp only [evalPre]
    cases hw : wantedA fr o.guard with
    | true =>
      cases hs : o.op.stops with
      | true => simp only [if_true, atOps]
      | false =>
        simp only [evalOps, hw, if_true, Bool.false_eq_true, if_false, exec_same call hs]
        cases hx : execA noCall fl fr H o.op with
        | none => rfl
        | some y => obtain ⟨v, H'⟩ := y; exact evalPre_ops call r _ _
    | false =>
      simp only [evalOps, hw, Bool.false_eq_true, if_false]
      exact evalPre_ops call r _ _
theorem hPre_head (call : ACall) : ∀ (ops : List AOper) (fr : AFrame) (H : AHeap), evalHead call ops fr H = atHead call (hPre ops fr H)
  | [], fr, H => rfl
  | o :: r, fr, H => by
    simp only [hPre]
    cases hw : wantedA fr o.guard with
    | true =>
      cases hs : o.op.stops with
      | true => simp only [if_true, atHead]
      | false =>
        simp only [evalHead, hw, if_true, Bool.false_eq_true, if_false, exec_same call hs]
        cases hx : execA noCall H.length fr H o.op with
        | none => rfl
        | some y => obtain ⟨v, H'⟩ := y; exact hPre_head call r _ _
    | false =>
      simp only [evalHead, hw, Bool.false_eq_true, if_false]
      exact hPre_head call r _ _

section
variable {A : Nat → Option AFn} {fl : Nat} {ops rest : List AOper} {fr fr0 : AFrame} {H H0 : AHeap} {Q : AFrame → AHeap → Prop} {d : Option Nat} {X : Option (AV × AHeap)} {v : AV} {H' : AHeap}
/-- an operation of this value, then the rest -/
structure AX (A : Nat → Option AFn) (fl : Nat) (d : Option Nat) (rest : List AOper) (fr : AFrame) (X : Option (AV × AHeap)) (Q : AFrame → AHeap → Prop) : Prop where
  ex : ∃ v H', X = some (v, H') ∧ AO A fl rest (putA fr d v) H' Q
structure AHX (A : Nat → Option AFn) (d : Option Nat) (rest : List AOper) (fr : AFrame) (X : Option (AV × AHeap)) (Q : AFrame → AHeap → Prop) : Prop where
  ex : ∃ v H', X = some (v, H') ∧ AHd A rest (putA fr d v) H' Q
theorem AX_go (h : X = some (v, H')) (h2 : AO A fl rest (putA fr d v) H' Q) : AX A fl d rest fr X Q := ⟨v, H', h, h2⟩
theorem AHX_go (h : X = some (v, H')) (h2 : AHd A rest (putA fr d v) H' Q) : AHX A d rest fr X Q := ⟨v, H', h, h2⟩
theorem AO_stuck (h : evalPre1 fl ops fr0 H0 = contP fl d rest fr X) (h2 : AX A fl d rest fr X Q) : AO A fl ops fr0 H0 Q := by
  obtain ⟨v, H', rfl, hr⟩ := h2
  rw [pcont_some] at h
  cases he : evalPre fl rest (putA fr d v) H' with
  | bad =>
    obtain ⟨k, f, g, h3, _⟩ := hr
    rw [evalPre_ops, he] at h3; cases h3
  | «at» o f g =>
    rw [he] at h
    refine AO_pre h ?_
    obtain ⟨k, f2, g2, h3, h4⟩ := hr
    rw [evalPre_ops, he] at h3
    exact ⟨k, f2, g2, h3, h4⟩
theorem AHd_stuck (h : hPre1 ops fr0 H0 = contHP d rest fr X) (h2 : AHX A d rest fr X Q) : AHd A ops fr0 H0 Q := by
  obtain ⟨v, H', rfl, hr⟩ := h2
  rw [hpcont_some] at h
  cases he : hPre rest (putA fr d v) H' with
  | bad =>
    obtain ⟨k, f, g, h3, _⟩ := hr
    rw [hPre_head, he] at h3; cases h3
  | «at» o f g =>
    rw [he] at h
    refine AHd_pre h ?_
    obtain ⟨k, f2, g2, h3, h4⟩ := hr
    rw [hPre_head, he] at h3
    exact ⟨k, f2, g2, h3, h4⟩
end
section
variable {A : Nat → Option AFn} {fl : Nat} {c : AOpd} {a b : ACode} {fr : AFrame} {H : AHeap} {Q : AExit → AFrame → AHeap → Prop}
theorem AW_ift (h : c.ev fr = .c (.bool true)) (h2 : AW A fl a fr H Q) : AW A fl (.cond c a b) fr H Q := AW_cond h (fun _ => h2) (fun h => by cases h)
theorem AW_iff (h : c.ev fr = .c (.bool false)) (h2 : AW A fl b fr H Q) : AW A fl (.cond c a b) fr H Q := AW_cond h (fun h => by cases h) (fun _ => h2)
end
theorem storeN_one {fl : Nat} {H : AHeap} {a x : AV} : storeN 1 fl H a x = storeX fl H a x := rfl
theorem storeN_lastp {n fl p : Nat} {H : AHeap} {cs vs : List Cell} (hp : p = H.length) (hf : fl ≤ p) (hc : cs.length = n) (hv : vs.length = n) : storeN n fl (H ++ [.own cs]) (.c (.ptr p 0)) (.agg vs) = some (aundef, H ++ [.own vs]) := by
  subst hp; exact storeN_last hf hc hv

/-! one form for all steps: what a row of steps comes to, an open term where a fact lacks -/
section
variable {A : Nat → Option AFn} {fl : Nat} {ops rest : List AOper} {fr fr0 : AFrame} {H H0 : AHeap} {Q : AFrame → AHeap → Prop} {p p' : Pre}
structure AP (A : Nat → Option AFn) (fl : Nat) (p : Pre) (Q : AFrame → AHeap → Prop) : Prop where
  ex : ∃ o f h, p = .at o f h ∧ AO A fl o f h Q
structure AHP (A : Nat → Option AFn) (p : Pre) (Q : AFrame → AHeap → Prop) : Prop where
  ex : ∃ o f h, p = .at o f h ∧ AHd A o f h Q
structure EqP (p p' : Pre) : Prop where
  e : p = p'
theorem EqP.at_ {o : List AOper} : EqP (.at o fr H) (.at o fr H) := ⟨rfl⟩
theorem EqP.cont {d : Option Nat} {X : Option (AV × AHeap)} : EqP (contP fl d rest fr X) (contP fl d rest fr X) := ⟨rfl⟩
theorem EqP.hcont {d : Option Nat} {X : Option (AV × AHeap)} : EqP (contHP d rest fr X) (contHP d rest fr X) := ⟨rfl⟩
theorem EqP.gate {o : AOper} {b : Bool} : EqP (gateP fl o rest fr H b) (gateP fl o rest fr H b) := ⟨rfl⟩
theorem EqP.hgate {o : AOper} {b : Bool} : EqP (gateHP o rest fr H b) (gateHP o rest fr H b) := ⟨rfl⟩
theorem AO_any (h : EqP (evalPre1 fl ops fr H) p) (h2 : AP A fl p Q) : AO A fl ops fr H Q := by
  obtain ⟨o, f, g, rfl, h3⟩ := h2; exact AO_pre h.e h3
theorem AHd_any (h : EqP (hPre1 ops fr H) p) (h2 : AHP A p Q) : AHd A ops fr H Q := by
  obtain ⟨o, f, g, rfl, h3⟩ := h2; exact AHd_pre h.e h3
theorem AP_go (h : EqP p p') (h2 : AP A fl p' Q) : AP A fl p Q := by obtain ⟨rfl⟩ := h; exact h2
theorem AHP_go (h : EqP p p') (h2 : AHP A p' Q) : AHP A p Q := by obtain ⟨rfl⟩ := h; exact h2
theorem AP_at {o : List AOper} (h : AO A fl o fr H Q) : AP A fl (.at o fr H) Q := ⟨_, _, _, rfl, h⟩
theorem AHP_at {o : List AOper} (h : AHd A o fr H Q) : AHP A (.at o fr H) Q := ⟨_, _, _, rfl, h⟩
end
/-- sums with a carry -/
def carryX (sub : Bool) (H : AHeap) (x y c : AV) : Option (AV × AHeap) :=
  match x, y, c with
  | .c (.int .u64 a), .c (.int .u64 b), .c (.int .u64 k) => (carryA sub a b k).map fun v => (v, H)
  | _, _, _ => none
theorem exec_carryX {call : ACall} {fl : Nat} {fr : AFrame} {H : AHeap} {sub : Bool} {x y c : AOpd} : execA call fl fr H (.carry sub x y c) = carryX sub H (x.ev fr) (y.ev fr) (c.ev fr) := by
  simp only [execA, stepA, carryX]; rfl
theorem carryX_of {sub : Bool} {H : AHeap} {a b k : Int} {v : AV} (h : carryA sub a b k = some v) : carryX sub H (.c (.int .u64 a)) (.c (.int .u64 b)) (.c (.int .u64 k)) = some (v, H) := by
  simp only [carryX, h]; rfl
section
variable {A : Nat → Option AFn} {fl id i : Nat} {fr : AFrame} {H : AHeap} {Q : AExit → AFrame → AHeap → Prop} {b : ACode}
theorem thenQ_e (h : Q (.exit i) fr H) : thenQ A fl b Q (.exit i) fr H := h
theorem thenQ_r (h : Q .ret fr H) : thenQ A fl b Q .ret fr H := h
theorem blockQ_r (h : Q .ret fr H) : blockQ id Q .ret fr H := h
theorem blockQ_s (h : Q .normal fr H) : blockQ id Q (.exit id) fr H := by simp only [blockQ, if_true]; exact h
theorem blockQ_o (hi : (i == id) = false) (h : Q (.exit i) fr H) : blockQ id Q (.exit i) fr H := by
  have : ¬ i = id := by simpa using hi
  simp only [blockQ, if_neg this]; exact h
end
end PAbs

/- One name for many rewrites. -/
namespace PAbs
open Go PAbs
theorem Sm : type_of% @List.take_succ_cons.{0} ∧ type_of% @List.take_zero.{0} ∧ type_of% @List.drop_succ_cons.{0} ∧ type_of% @List.drop_zero.{0} ∧ type_of% @bne_self_eq_false.{0} ∧ type_of% @List.map_cons.{0,0} ∧ type_of% @List.map_nil.{0,0} ∧ type_of% @Bool.true_beq ∧ type_of% @Bool.false_beq ∧ type_of% @run_nil ∧ type_of% @run_cons ∧ type_of% @run_gate ∧ type_of% @cont_some ∧ type_of% @gate_true ∧ type_of% @gate_false ∧ type_of% @hrun_nil ∧ type_of% @hrun_cons ∧ type_of% @hrun_gate ∧ type_of% @hcont_some ∧ type_of% @hgate_true ∧ type_of% @hgate_false ∧ type_of% @put_some ∧ type_of% @put_none ∧ type_of% @ev_t ∧ type_of% @ev_k ∧ type_of% @List.set_cons_succ.{0} ∧ type_of% @List.set_cons_zero.{0} ∧ type_of% @List.getD_cons_succ.{0} ∧ type_of% @List.getD_cons_zero.{0} ∧ type_of% @true_or ∧ type_of% @or_true ∧ type_of% @true_and ∧ type_of% @and_true ∧ type_of% @and_self ∧ type_of% @beq_self_eq_true.{0} ∧ type_of% @Bool.not_true ∧ type_of% @Bool.not_false ∧ type_of% @Bool.false_eq_true ∧ type_of% @decide_true ∧ type_of% @Bool.and_true ∧ type_of% @Bool.true_and ∧ type_of% @hcells_last ∧ type_of% @hown_last ∧ type_of% @List.nil_append.{0} ∧ type_of% @List.cons_append.{0} ∧ type_of% @List.append_nil.{0} ∧ type_of% @List.take_nil.{0} ∧ type_of% @List.drop_nil.{0} ∧ type_of% @List.length_cons.{0} ∧ type_of% @List.length_nil.{0} ∧ type_of% @List.length_append.{0} ∧ type_of% @Nat.zero_add ∧ type_of% @Nat.add_zero ∧ type_of% @Nat.mul_one ∧ type_of% @Nat.one_mul ∧ type_of% @Nat.div_one ∧ type_of% @Nat.le_refl ∧ type_of% @Int.toNat_natCast ∧ type_of% @Int.toNat_zero ∧ type_of% @Nat.zero_le ∧ type_of% @Int.natCast_nonneg ∧ type_of% @Option.some.injEq.{0} ∧ type_of% @Cell.int.injEq ∧ type_of% @AV.c.injEq ∧ type_of% @pre_nil ∧ type_of% @pre_cons ∧ type_of% @pre_gate ∧ type_of% @pre1_cons ∧ type_of% @pre1_gate ∧ type_of% @qstop_true ∧ type_of% @qstop_false ∧ type_of% @qstopg_false ∧ type_of% @qgate_true ∧ type_of% @qgate_false ∧ type_of% @pcont_some ∧ type_of% @pstop_true ∧ type_of% @pstop_false ∧ type_of% @pstopg_false ∧ type_of% @pgate_true ∧ type_of% @pgate_false ∧ type_of% @hpre_nil ∧ type_of% @hpre_cons ∧ type_of% @hpre_gate ∧ type_of% @hpre1_cons ∧ type_of% @hpre1_gate ∧ type_of% @hqstop_true ∧ type_of% @hqstop_false ∧ type_of% @hqstopg_false ∧ type_of% @hqgate_true ∧ type_of% @hqgate_false ∧ type_of% @hpcont_some ∧ type_of% @hpstop_true ∧ type_of% @hpstop_false ∧ type_of% @hpstopg_false ∧ type_of% @hpgate_true ∧ type_of% @hpgate_false ∧ type_of% @decide_false ∧ type_of% @nat_0 ∧ type_of% @nat_1 ∧ type_of% @nat_2 ∧ type_of% @nat_3 ∧ type_of% @nat_4 ∧ type_of% @nat_8 ∧ type_of% @nat_16 ∧ type_of% @nat_64 ∧ type_of% @nat_128 ∧ type_of% @pre1_nil ∧ type_of% @hpre1_nil ∧ type_of% @wantV_bool ∧ type_of% @wantV_undef ∧ type_of% @lenX_snil ∧ type_of% @lenX_slc := ⟨@List.take_succ_cons.{0}, @List.take_zero.{0}, @List.drop_succ_cons.{0}, @List.drop_zero.{0}, @bne_self_eq_false.{0}, @List.map_cons.{0,0}, @List.map_nil.{0,0}, @Bool.true_beq, @Bool.false_beq, @run_nil, @run_cons, @run_gate, @cont_some, @gate_true, @gate_false, @hrun_nil, @hrun_cons, @hrun_gate, @hcont_some, @hgate_true, @hgate_false, @put_some, @put_none, @ev_t, @ev_k, @List.set_cons_succ.{0}, @List.set_cons_zero.{0}, @List.getD_cons_succ.{0}, @List.getD_cons_zero.{0}, @true_or, @or_true, @true_and, @and_true, @and_self, @beq_self_eq_true.{0}, @Bool.not_true, @Bool.not_false, @Bool.false_eq_true, @decide_true, @Bool.and_true, @Bool.true_and, @hcells_last, @hown_last, @List.nil_append.{0}, @List.cons_append.{0}, @List.append_nil.{0}, @List.take_nil.{0}, @List.drop_nil.{0}, @List.length_cons.{0}, @List.length_nil.{0}, @List.length_append.{0}, @Nat.zero_add, @Nat.add_zero, @Nat.mul_one, @Nat.one_mul, @Nat.div_one, @Nat.le_refl, @Int.toNat_natCast, @Int.toNat_zero, @Nat.zero_le, @Int.natCast_nonneg, @Option.some.injEq.{0}, @Cell.int.injEq, @AV.c.injEq, @pre_nil, @pre_cons, @pre_gate, @pre1_cons, @pre1_gate, @qstop_true, @qstop_false, @qstopg_false, @qgate_true, @qgate_false, @pcont_some, @pstop_true, @pstop_false, @pstopg_false, @pgate_true, @pgate_false, @hpre_nil, @hpre_cons, @hpre_gate, @hpre1_cons, @hpre1_gate, @hqstop_true, @hqstop_false, @hqstopg_false, @hqgate_true, @hqgate_false, @hpcont_some, @hpstop_true, @hpstop_false, @hpstopg_false, @hpgate_true, @hpgate_false, @decide_false, @nat_0, @nat_1, @nat_2, @nat_3, @nat_4, @nat_8, @nat_16, @nat_64, @nat_128, @pre1_nil, @hpre1_nil, @wantV_bool, @wantV_undef, @lenX_snil, @lenX_slc⟩
end PAbs

/- One step of a walk, and as many as there are: by a hypothesis that is proved where it is used. -/
namespace PAbs
open Go PAbs
theorem GOS {P Q : Prop} (g : Q) (h : Q → P := by intro hq; (first | with_reducible (first | refine thenQ_n ?_ | refine blockQ_n ?_ | refine thenQ_e ?_ | refine thenQ_r ?_ | refine blockQ_r ?_ | refine blockQ_s ?_ | refine blockQ_o rfl ?_) | refine AW_skip ?_ | refine AW_seq ?_ | refine AW_ops ?_ | refine AW_blockS ?_ | refine AW_blockR ?_ | refine AW_blockD ?_ | refine AW_blockC ?_ | refine AO_nil ?_ | refine AW_draw ?_ | refine AW_draw3 ?_ | refine AW_blockD3 ?_ | (refine AW_drawA ?_; simp only [atBlk, Sm]) | refine AHd_nil ?_ | with_reducible (first | refine AP_at ?_ | refine AHP_at ?_) | (refine AW_ift ?_ ?_; focus (simp only [Sm]; done)) | (refine AW_iff ?_ ?_; focus (simp only [Sm]; done))); (repeat (first | with_reducible (first | refine thenQ_n ?_ | refine blockQ_n ?_ | refine thenQ_e ?_ | refine thenQ_r ?_ | refine blockQ_r ?_ | refine blockQ_s ?_ | refine blockQ_o rfl ?_) | refine AW_skip ?_ | refine AW_seq ?_ | refine AW_ops ?_ | refine AW_blockS ?_ | refine AW_blockR ?_ | refine AW_blockD ?_ | refine AW_blockC ?_ | refine AO_nil ?_ | refine AW_draw ?_ | refine AW_draw3 ?_ | refine AW_blockD3 ?_ | (refine AW_drawA ?_; simp only [atBlk, Sm]) | refine AHd_nil ?_ | with_reducible (first | refine AP_at ?_ | refine AHP_at ?_) | (refine AW_ift ?_ ?_; focus (simp only [Sm]; done)) | (refine AW_iff ?_ ?_; focus (simp only [Sm]; done)))); exact hq) : P := h g
theorem GO {P Q : Prop} (g : Q) (h : Q → P := by intro hq; (repeat (first | with_reducible (first | refine thenQ_n ?_ | refine blockQ_n ?_ | refine thenQ_e ?_ | refine thenQ_r ?_ | refine blockQ_r ?_ | refine blockQ_s ?_ | refine blockQ_o rfl ?_) | refine AW_skip ?_ | refine AW_seq ?_ | refine AW_ops ?_ | refine AW_blockS ?_ | refine AW_blockR ?_ | refine AW_blockD ?_ | refine AW_blockC ?_ | refine AO_nil ?_ | refine AW_draw ?_ | refine AW_draw3 ?_ | refine AW_blockD3 ?_ | (refine AW_drawA ?_; simp only [atBlk, Sm]) | refine AHd_nil ?_ | with_reducible (first | refine AP_at ?_ | refine AHP_at ?_) | (refine AW_ift ?_ ?_; focus (simp only [Sm]; done)) | (refine AW_iff ?_ ?_; focus (simp only [Sm]; done)) | (with_reducible (first | apply AO_any | apply AHd_any | apply AP_go | apply AHP_go); focus (simp only [Sm, wantedA, execA, stepA, List.getElem?_cons_zero, List.getElem?_cons_succ, if_true, if_false, binA, binInt, unA, eqA, Option.map, eq_self, reduceCtorEq, ite_true, ite_false, cellsAV, fitsAll, CK.fits, fillA, AV.cells, writeN, sliceCells, appendA, lenA, i64, loA, hiA, Nat.reduceAdd, Nat.reduceMul, Nat.reduceDiv, Nat.reduceSub, Nat.reduceLeDiff, Nat.reduceLT, Int.reduceLE, Int.reduceLT, foldA, maxA, minA, Int.reduceBEq, Int.reduceBNe, Int.reduceGT, Int.reduceGE, Int.reduceEq, Int.reduceNe, Int.reduceToNat, AOp.stops, ↓want_eq, ↓exec_lenX, ↓exec_storeX, ↓exec_storeN, storeN_one, ↓exec_bsX, ↓exec_sliceX, ↓exec_copyX, ↓exec_appNil, ↓exec_carryX, Nat.sub_zero, rep_len]; with_reducible first | exact EqP.at_ | exact EqP.cont | exact EqP.hcont | exact EqP.gate | exact EqP.hgate)))); exact hq) : P := h g
end PAbs

/- The numbers of the functions in this translation. -/
namespace PK
open Go PAbs
noncomputable abbrev A : Nat → Option AFn := tableA Go.Proofs.Try.prog
theorem mixed : Go.Proofs.Try.prog.follows .mixedOrders = true := by kernel_rfl
abbrev F_pestlelaw25_ScryptAlone : Nat := 6
abbrev F_romix_Store_Mix : Nat := 11
abbrev F_romix_Store_Row : Nat := 15
abbrev F_romix_New : Nat := 16
abbrev F_romix_Store_Put : Nat := 17
abbrev F_arena_New : Nat := 18
abbrev F_arena_Arena_Reserve : Nat := 19
abbrev F_arena_Arena_Release : Nat := 20
abbrev F_pestlelaw25_awake : Nat := 21
abbrev F_scrypt_Check : Nat := 22
abbrev F_scrypt_Need : Nat := 24
abbrev F_scrypt_Key : Nat := 26
abbrev F_arena_Arena_Used : Nat := 27
abbrev F_romix_Store_has : Nat := 28
abbrev F_size_Power : Nat := 29
abbrev F_shuffle_Mix : Nat := 30
abbrev F_shuffle_Integer : Nat := 31
abbrev F_block_Half : Nat := 36
abbrev F_arena_Piece_At : Nat := 37
abbrev F_size_Within : Nat := 38
abbrev F_arena_Piece_Len : Nat := 39
abbrev F_block_SetHalf : Nat := 40
abbrev F_size_Add : Nat := 41
abbrev F_size_Mul : Nat := 42
abbrev F_size_Blocks : Nat := 43
abbrev F_pbkdf_Key : Nat := 44
abbrev F_scrypt_rows : Nat := 45
abbrev F_scrypt_text : Nat := 46
abbrev F_shuffle_Check : Nat := 47
abbrev F_shuffle_Places : Nat := 48
abbrev F_salsa_Eight : Nat := 49
abbrev F_size_held : Nat := 51
abbrev F_math_bits_Mul64 : Nat := 52
abbrev F_size_Up : Nat := 53
abbrev F_pbkdf_Check : Nat := 54
abbrev F_mac_New : Nat := 55
abbrev F_pbkdf_Part : Nat := 56
abbrev F_words_Take32 : Nat := 57
abbrev F_words_Little32 : Nat := 58
abbrev F_salsa_Core : Nat := 59
abbrev F_mac_key : Nat := 61
abbrev F_sha_New : Nat := 62
abbrev F_sha_Hash_Add : Nat := 63
abbrev F_mac_masked : Nat := 64
abbrev F_mac_Mac_Chain : Nat := 65
abbrev F_words_Big32 : Nat := 66
abbrev F_words_take : Nat := 67
abbrev F_words_lowest : Nat := 68
abbrev F_salsa_Double : Nat := 69
abbrev F_sha_Of : Nat := 71
abbrev F_feed_New : Nat := 72
abbrev F_sha_Initial : Nat := 73
abbrev F_feed_Feed_Put : Nat := 74
abbrev F_sha_Compress : Nat := 75
abbrev F_words_Xor : Nat := 76
abbrev F_mac_Mac_With : Nat := 77
abbrev F_mac_Mac_Tag : Nat := 78
abbrev F_salsa_lines : Nat := 79
abbrev F_salsa_Quarter : Nat := 80
abbrev F_sha_Hash_Sum : Nat := 82
abbrev F_feed_Feed_full : Nat := 83
abbrev F_sha_spread : Nat := 84
abbrev F_sha_constants : Nat := 85
abbrev F_words_Right32 : Nat := 86
abbrev F_sha_Hash_Clone : Nat := 87
abbrev F_words_Left32 : Nat := 88
abbrev F_sha_Pad : Nat := 89
abbrev F_feed_Feed_Total : Nat := 90
abbrev F_words_TakeBig32 : Nat := 91
abbrev F_feed_Feed_Copy : Nat := 92
abbrev F_words_Big64 : Nat := 93
abbrev F_words_highest : Nat := 94
abbrev F_feed_Feed_Rest : Nat := 95
end PK

/- Lists of whole numbers as cells; facts used by many walks. -/
namespace PK
open Go PAbs
set_option linter.unusedSimpArgs false
set_option linter.unusedVariables false

theorem u64_of {n : Int} (h : 0 ≤ n) (h2 : n < 18446744073709551616) : IntKind.u64.wrap n = n := by show n % 18446744073709551616 = n; omega
theorem u32_of {n : Int} (h : 0 ≤ n) (h2 : n < 4294967296) : IntKind.u32.wrap n = n := by show n % 4294967296 = n; omega
theorem wrap64 (n : Int) : IntKind.u64.wrap n = n % 18446744073709551616 := rfl
theorem wrap32 (n : Int) : IntKind.u32.wrap n = n % 4294967296 := rfl
theorem u64_nat {q : Nat} (h : q < 18446744073709551616) : IntKind.u64.wrap (q : Int) = (q : Int) := u64_of (by omega) (by omega)
theorem u32_nat {q : Nat} (h : q < 4294967296) : IntKind.u32.wrap (q : Int) = (q : Int) := u32_of (by omega) (by omega)
theorem shr_n {k : IntKind} {x p : Nat} (hp : p ≤ k.bits) : shrA k (x : Int) (p : Int) = ((x / 2 ^ p : Nat) : Int) := by
  simp only [shrA, Int.toNat_natCast, Nat.min_eq_left hp]
  rw [Int.fdiv_eq_ediv_of_nonneg _ (by simp [Int.pow_nonneg])]; simp
theorem storeN_ex {n fl p : Nat} {H : AHeap} {cs : List Cell} (ho : hown H p = some cs) (hf : fl ≤ p) (hc : cs.length = n) (vs : List Cell) (hv : vs.length = n) :
    ∃ H', storeN n fl H (.c (.ptr p 0)) (.agg vs) = some (aundef, H') ∧ hown H' p = some vs ∧ Chg (· = p) H H' ∧ H'.length = H.length :=
  ⟨_, storeN_all ho hf hc hv, hown_set (hown_lt ho), Chg.set rfl, by simp⟩
theorem storeX_ex {fl p o : Nat} {H : AHeap} {cs : List Cell} (ho : hown H p = some cs) (hf : fl ≤ p) (hl : o < cs.length) (v : Cell) :
    ∃ H', storeX fl H (.c (.ptr p o)) (.c v) = some (aundef, H') ∧ hown H' p = some (cs.set o v) ∧ Chg (· = p) H H' ∧ H'.length = H.length :=
  ⟨_, storeX_own ho hf hl, hown_set (hown_lt ho), Chg.set rfl, by simp⟩
theorem getD_set_ {xs : List Nat} {a b v : Nat} : (xs.set a v).getD b 0 = if a = b ∧ a < xs.length then v else xs.getD b 0 := by
  simp only [List.getD_eq_getElem?_getD, List.getElem?_set]
  by_cases h : a = b
  · subst h
    by_cases h2 : a < xs.length
    · simp [h2]
    · simp [h2, List.getElem?_eq_none (Nat.le_of_not_lt h2)]
  · simp [h]
theorem kept_app {H0 H H' : AHeap} {x : Cell} {sz : Nat} {cs : List Cell} (k : Kept H0.length H0 H) (h : Own H0.length H x sz cs) (c : Chg (inX x) H H') : Kept H0.length H0 H' :=
  k.trans ⟨c.1, fun b hb hb2 => c.2 b hb2 fun hi => by have := h.le hi; omega⟩
end PK

/- Package math as code of the abstract machine. -/
namespace PK
open Go PAbs

noncomputable def c_math_bits_Mul64 : AFn := AFn.mk 51 [.tmp 4, .tmp 5]
  (.seq (.region
      [⟨some 4, .mv (.k (.c (.int .u64 0))), none⟩,
        ⟨some 5, .mv (.k (.c (.int .u64 0))), none⟩])
  (.seq (.region
      [⟨some 14, .mv (.t 0), none⟩,
        ⟨some 15, .bin .and (.t 14) (.k (.c (.int .u64 4294967295))), none⟩,
        ⟨some 6, .mv (.t 15), none⟩])
  (.seq (.region
      [⟨some 16, .mv (.t 0), none⟩,
        ⟨some 17, .bin .shr (.t 16) (.k (.c (.int .u64 32))), none⟩,
        ⟨some 7, .mv (.t 17), none⟩])
  (.seq (.region
      [⟨some 18, .mv (.t 1), none⟩,
        ⟨some 19, .bin .and (.t 18) (.k (.c (.int .u64 4294967295))), none⟩,
        ⟨some 8, .mv (.t 19), none⟩])
  (.seq (.region
      [⟨some 20, .mv (.t 1), none⟩,
        ⟨some 21, .bin .shr (.t 20) (.k (.c (.int .u64 32))), none⟩,
        ⟨some 9, .mv (.t 21), none⟩])
  (.seq (.region
      [⟨some 22, .mv (.t 6), none⟩,
        ⟨some 23, .mv (.t 8), none⟩,
        ⟨some 24, .bin .mul (.t 22) (.t 23), none⟩,
        ⟨some 10, .mv (.t 24), none⟩])
  (.seq (.region
      [⟨some 25, .mv (.t 7), none⟩,
        ⟨some 26, .mv (.t 8), none⟩,
        ⟨some 27, .bin .mul (.t 25) (.t 26), none⟩,
        ⟨some 28, .mv (.t 10), none⟩,
        ⟨some 29, .bin .shr (.t 28) (.k (.c (.int .u64 32))), none⟩,
        ⟨some 30, .bin .add (.t 27) (.t 29), none⟩,
        ⟨some 11, .mv (.t 30), none⟩])
  (.seq (.region
      [⟨some 31, .mv (.t 11), none⟩,
        ⟨some 32, .bin .and (.t 31) (.k (.c (.int .u64 4294967295))), none⟩,
        ⟨some 12, .mv (.t 32), none⟩])
  (.seq (.region
      [⟨some 33, .mv (.t 11), none⟩,
        ⟨some 34, .bin .shr (.t 33) (.k (.c (.int .u64 32))), none⟩,
        ⟨some 13, .mv (.t 34), none⟩])
  (.seq (.region
      [⟨some 35, .mv (.t 12), none⟩,
        ⟨some 36, .mv (.t 6), none⟩,
        ⟨some 37, .mv (.t 9), none⟩,
        ⟨some 38, .bin .mul (.t 36) (.t 37), none⟩,
        ⟨some 39, .bin .add (.t 35) (.t 38), none⟩,
        ⟨some 12, .mv (.t 39), none⟩])
  (.seq (.region
      [⟨some 40, .mv (.t 7), none⟩,
        ⟨some 41, .mv (.t 9), none⟩,
        ⟨some 42, .bin .mul (.t 40) (.t 41), none⟩,
        ⟨some 43, .mv (.t 13), none⟩,
        ⟨some 44, .bin .add (.t 42) (.t 43), none⟩,
        ⟨some 45, .mv (.t 12), none⟩,
        ⟨some 46, .bin .shr (.t 45) (.k (.c (.int .u64 32))), none⟩,
        ⟨some 47, .bin .add (.t 44) (.t 46), none⟩,
        ⟨some 4, .mv (.t 47), none⟩])
  (.seq (.region
      [⟨some 48, .mv (.t 0), none⟩,
        ⟨some 49, .mv (.t 1), none⟩,
        ⟨some 50, .bin .mul (.t 48) (.t 49), none⟩,
        ⟨some 5, .mv (.t 50), none⟩])
  (.ret)))))))))))))
theorem t_math_bits_Mul64 : A F_math_bits_Mul64 = some c_math_bits_Mul64 := by kernel_rfl
end PK

/- Products of words, walked. -/
namespace PK
open Go PAbs
set_option linter.unusedSimpArgs false
set_option linter.unusedVariables false
set_option maxRecDepth 100000
set_option maxHeartbeats 2000000

theorem mul_parts (M : Nat) (x0 x1 y0 y1 : Nat) (hM : 0 < M) (hx0 : x0 < M) (hy0 : y0 < M) (hx1 : x1 < M) (hy1 : y1 < M) :
    x0 * y0 < M * M ∧ x1 * y0 + x0 * y0 / M < M * M ∧ (x1 * y0 + x0 * y0 / M) % M + x0 * y1 < M * M ∧
    x1 * y1 + (x1 * y0 + x0 * y0 / M) / M + ((x1 * y0 + x0 * y0 / M) % M + x0 * y1) / M = (x1 * M + x0) * (y1 * M + y0) / (M * M) := by
  have b1 : x0 * y0 + x0 ≤ M * x0 := by rw [← Nat.mul_succ, Nat.mul_comm M]; exact Nat.mul_le_mul_left _ hy0
  have b2 : M * x0 ≤ M * M := Nat.mul_le_mul_left _ (by omega)
  have d1 : x0 * y0 / M < M := Nat.div_lt_of_lt_mul (by
    rcases Nat.eq_zero_or_pos x0 with h | h
    · subst h; rw [Nat.zero_mul]; exact Nat.mul_pos hM hM
    · omega)
  have b3 : x1 * y0 + x1 ≤ x1 * M := by rw [← Nat.mul_succ]; exact Nat.mul_le_mul_left _ hy0
  have b4 : x1 * M + M ≤ M * M := by rw [← Nat.succ_mul]; exact Nat.mul_le_mul_right _ hx1
  have b5 : x0 * y1 + x0 ≤ x0 * M := by rw [← Nat.mul_succ]; exact Nat.mul_le_mul_left _ hy1
  have b6 : x0 * M + M ≤ M * M := by rw [← Nat.succ_mul]; exact Nat.mul_le_mul_right _ hx0
  have m1 := Nat.mod_lt (x1 * y0 + x0 * y0 / M) hM
  have t1 : x1 * y0 + x0 * y0 / M < M * M := by omega
  refine ⟨?_, t1, by omega, ?_⟩
  · rcases Nat.eq_zero_or_pos x0 with h | h
    · subst h; rw [Nat.zero_mul]; exact Nat.mul_pos hM hM
    · omega
  · -- the product, by parts
    obtain ⟨w, hw⟩ : ∃ w, w = x0 * y0 / M := ⟨_, rfl⟩
    obtain ⟨r, hr⟩ : ∃ r, r = x0 * y0 % M := ⟨_, rfl⟩
    have e0 := Nat.div_add_mod (x0 * y0) M
    rw [← hw, ← hr] at e0
    rw [← hw]
    obtain ⟨t, ht⟩ : ∃ t, t = x1 * y0 + w := ⟨_, rfl⟩
    rw [← ht]
    have e1 := Nat.div_add_mod t M
    obtain ⟨u, hu⟩ : ∃ u, u = t % M + x0 * y1 := ⟨_, rfl⟩
    rw [← hu]
    have e2 := Nat.div_add_mod u M
    have hr2 : r < M := by rw [hr]; exact Nat.mod_lt _ hM
    have hs2 : u % M < M := Nat.mod_lt _ hM
    have key : (x1 * M + x0) * (y1 * M + y0) = M * M * (x1 * y1 + t / M + u / M) + (M * (u % M) + r) := by
      generalize t / M = td at *
      generalize t % M = tm at *
      generalize u / M = ud at *
      generalize u % M = um at *
      have h1 : M * (M * td + tm) = M * (x1 * y0 + w) := by rw [e1, ht]
      have h2 : M * (M * ud + um) = M * (tm + x0 * y1) := by rw [e2, hu]
      grind
    have hlt : M * (u % M) + r < M * M := by
      have : M * (u % M) + M ≤ M * M := by rw [← Nat.mul_succ]; exact Nat.mul_le_mul_left _ hs2
      omega
    rw [key, Nat.mul_add_div (Nat.mul_pos hM hM), Nat.div_eq_of_lt hlt, Nat.add_zero]

section
variable (H : AHeap)
theorem AC_Mul64 (x y : Nat) (hx : x < 18446744073709551616) (hy : y < 18446744073709551616) :
    AC A H.length F_math_bits_Mul64 [.c (.int .u64 (x : Int)), .c (.int .u64 (y : Int))] H (fun v H' => v = .tup [.c (.int .u64 ((x * y / 18446744073709551616 : Nat) : Int)), .c (.int .u64 ((x * y % 18446744073709551616 : Nat) : Int))] ∧ H = H') := by
  have ex : x / 4294967296 * 4294967296 + x % 4294967296 = x := by rw [Nat.mul_comm]; exact Nat.div_add_mod x _
  have ey : y / 4294967296 * 4294967296 + y % 4294967296 = y := by rw [Nat.mul_comm]; exact Nat.div_add_mod y _
  have hxd : x / 4294967296 < 4294967296 := by omega
  have hyd : y / 4294967296 < 4294967296 := by omega
  have hxm : x % 4294967296 < 4294967296 := by omega
  have hym : y % 4294967296 < 4294967296 := by omega
  have MM : (4294967296 : Nat) * 4294967296 = 18446744073709551616 := by decide
  obtain ⟨p1, p2, p3, p4⟩ := mul_parts 4294967296 (x % 4294967296) (x / 4294967296) (y % 4294967296) (y / 4294967296) (by decide) hxm hym hxd hyd
  rw [ex, ey, MM] at p4
  rw [MM] at p1 p2 p3
  have a1 : ∀ z : Nat, z < 18446744073709551616 → bitsA .and .u64 (z : Int) 4294967295 = ((z % 4294967296 : Nat) : Int) := fun z hz => by
    have := and_of (k := .u64) rfl (a := z) (b := 4294967295) hz (by decide)
    refine this.trans ?_
    rw [show (4294967295 : Nat) = 2 ^ 32 - 1 from rfl, Nat.and_two_pow_sub_one_eq_mod]
  have a2 : ∀ z : Nat, shrA .u64 (z : Int) 32 = ((z / 4294967296 : Nat) : Int) := fun z => shr_n (k := .u64) (x := z) (p := 32) (by decide)
  have n32 : ¬ ((32 : Int) < 0) := by omega
  have lo : IntKind.u64.wrap ((x : Int) * (y : Int)) = ((x * y % 18446744073709551616 : Nat) : Int) := by rw [← Int.natCast_mul, wrap64]; omega
  rw [← p4]
  have pb : x / 4294967296 * (y / 4294967296) ≤ 4294967295 * 4294967295 := Nat.mul_le_mul (by omega) (by omega)
  have A1 := a1 x hx
  have A2 := a1 y hy
  have B1 := a2 x
  have B2 := a2 y
  generalize x % 4294967296 = x0 at *
  generalize y % 4294967296 = y0 at *
  generalize x / 4294967296 = x1 at *
  generalize y / 4294967296 = y1 at *
  have m1 : IntKind.u64.wrap ((x0 : Int) * (y0 : Int)) = ((x0 * y0 : Nat) : Int) := by rw [← Int.natCast_mul]; exact u64_nat p1
  have m2 : IntKind.u64.wrap ((x1 : Int) * (y0 : Int)) = ((x1 * y0 : Nat) : Int) := by rw [← Int.natCast_mul]; exact u64_nat (by omega)
  have m3 : IntKind.u64.wrap (((x1 * y0 : Nat) : Int) + ((x0 * y0 / 4294967296 : Nat) : Int)) = ((x1 * y0 + x0 * y0 / 4294967296 : Nat) : Int) := by rw [← Int.natCast_add]; exact u64_nat p2
  have A3 := a1 _ p2
  have m4 : IntKind.u64.wrap ((x0 : Int) * (y1 : Int)) = ((x0 * y1 : Nat) : Int) := by rw [← Int.natCast_mul]; exact u64_nat (by omega)
  generalize x1 * y0 + x0 * y0 / 4294967296 = t at *
  have m5 : IntKind.u64.wrap (((t % 4294967296 : Nat) : Int) + ((x0 * y1 : Nat) : Int)) = ((t % 4294967296 + x0 * y1 : Nat) : Int) := by rw [← Int.natCast_add]; exact u64_nat p3
  generalize t % 4294967296 + x0 * y1 = u at *
  have m6 : IntKind.u64.wrap ((x1 : Int) * (y1 : Int)) = ((x1 * y1 : Nat) : Int) := by rw [← Int.natCast_mul]; exact u64_nat (by omega)
  have m7 : IntKind.u64.wrap (((x1 * y1 : Nat) : Int) + ((t / 4294967296 : Nat) : Int)) = ((x1 * y1 + t / 4294967296 : Nat) : Int) := by rw [← Int.natCast_add]; exact u64_nat (by omega)
  have m8 : IntKind.u64.wrap (((x1 * y1 + t / 4294967296 : Nat) : Int) + ((u / 4294967296 : Nat) : Int)) = ((x1 * y1 + t / 4294967296 + u / 4294967296 : Nat) : Int) := by rw [← Int.natCast_add]; exact u64_nat (by omega)
  refine AC_enter t_math_bits_Mul64 ?_; simp only [c_math_bits_Mul64, enterA, List.replicate, List.length_cons, List.length_nil, Nat.reduceAdd, Nat.reduceSub, List.cons_append, List.nil_append]
  (repeat (first | refine GOS ?_ | (with_reducible (first | apply AO_any | apply AHd_any | apply AP_go | apply AHP_go); focus (simp only [Sm, wantedA, execA, stepA, List.getElem?_cons_zero, List.getElem?_cons_succ, if_true, if_false, binA, binInt, unA, eqA, Option.map, eq_self, reduceCtorEq, ite_true, ite_false, cellsAV, fitsAll, CK.fits, fillA, AV.cells, writeN, sliceCells, appendA, lenA, i64, loA, hiA, Nat.reduceAdd, Nat.reduceMul, Nat.reduceDiv, Nat.reduceSub, Nat.reduceLeDiff, Nat.reduceLT, Int.reduceLE, Int.reduceLT, foldA, maxA, minA, Int.reduceBEq, Int.reduceBNe, Int.reduceGT, Int.reduceGE, Int.reduceEq, Int.reduceNe, Int.reduceToNat, AOp.stops, ↓want_eq, ↓exec_lenX, ↓exec_storeX, ↓exec_storeN, storeN_one, ↓exec_bsX, ↓exec_sliceX, ↓exec_copyX, ↓exec_appNil, ↓exec_carryX, Nat.sub_zero, rep_len, A1, A2, B1, B2, m1, m2, a2 (x0 * y0), m3, A3, a2 t, m4, m5, m6, a2 u, m7, m8, lo, n32]; with_reducible first | exact EqP.at_ | exact EqP.cont | exact EqP.hcont | exact EqP.gate | exact EqP.hgate))))
  exact AW_ret ⟨_, rfl, rfl, rfl⟩

end
end PK

/- Plain arithmetic of turned words. -/
namespace PAbs
open Go
set_option linter.unusedSimpArgs false
set_option linter.unusedVariables false

theorem wrap_u8 (n : Int) : IntKind.u8.wrap n = n % 256 := rfl
theorem wrap_u32 (n : Int) : IntKind.u32.wrap n = n % 4294967296 := rfl
theorem wrap_u64 (n : Int) : IntKind.u64.wrap n = n % 18446744073709551616 := rfl
theorem wrap_i64_of {n : Int} (h : -9223372036854775808 ≤ n) (h' : n < 9223372036854775808) : IntKind.i64.wrap n = n := by
  show (if (true && decide (n % (2 ^ 64 : Int) ≥ (2 ^ 63 : Int))) = true then n % (2 ^ 64 : Int) - (2 ^ 64 : Int) else n % (2 ^ 64 : Int)) = n
  simp only [Bool.true_and, decide_eq_true_eq]
  split <;> omega

def rl (W k x : Nat) : Nat := x * 2 ^ k % 2 ^ W + x / 2 ^ (W - k)
def rr (W k x : Nat) : Nat := x / 2 ^ k + x * 2 ^ (W - k) % 2 ^ W

theorem pow_split {W k : Nat} (h : k ≤ W) : 2 ^ W = 2 ^ (W - k) * 2 ^ k := by rw [← Nat.pow_add]; congr 1; omega

theorem mul_mod_pow {W k : Nat} (h : k ≤ W) (x : Nat) : x * 2 ^ k % 2 ^ W = x % 2 ^ (W - k) * 2 ^ k := by rw [pow_split h, Nat.mul_mod_mul_right]

theorem rl_eq {W k : Nat} (h : k ≤ W) (x : Nat) : rl W k x = x % 2 ^ (W - k) * 2 ^ k + x / 2 ^ (W - k) := by simp only [rl, mul_mod_pow h]
theorem rr_eq {W k : Nat} (h : k ≤ W) (x : Nat) : rr W k x = x / 2 ^ k + x % 2 ^ k * 2 ^ (W - k) := by
  have e : W - (W - k) = k := by omega
  simp only [rr, mul_mod_pow (Nat.sub_le W k), e]

theorem div_lt_pow {W k x : Nat} (h : k ≤ W) (hx : x < 2 ^ W) : x / 2 ^ (W - k) < 2 ^ k := by
  rw [Nat.div_lt_iff_lt_mul (Nat.two_pow_pos _), Nat.mul_comm, ← pow_split h]; exact hx
theorem div_lt_pow' {W k x : Nat} (h : k ≤ W) (hx : x < 2 ^ W) : x / 2 ^ k < 2 ^ (W - k) := by
  rw [Nat.div_lt_iff_lt_mul (Nat.two_pow_pos _), ← pow_split h]; exact hx

theorem rl_or {W k x : Nat} (h : k ≤ W) (hx : x < 2 ^ W) : x * 2 ^ k % 2 ^ W ||| x / 2 ^ (W - k) = rl W k x := by
  rw [rl_eq h, mul_mod_pow h, ← Nat.shiftLeft_eq, ← Nat.shiftLeft_add_eq_or_of_lt (div_lt_pow h hx)]
theorem rr_or {W k x : Nat} (h : k ≤ W) (hx : x < 2 ^ W) : x / 2 ^ k ||| x * 2 ^ (W - k) % 2 ^ W = rr W k x := by
  have e : W - (W - k) = k := by omega
  rw [rr_eq h, mul_mod_pow (Nat.sub_le W k), e, Nat.or_comm, ← Nat.shiftLeft_eq, ← Nat.shiftLeft_add_eq_or_of_lt (div_lt_pow' h hx), Nat.shiftLeft_eq, Nat.add_comm]

theorem rl_lt {W k x : Nat} (h : k ≤ W) (hx : x < 2 ^ W) : rl W k x < 2 ^ W := by
  rw [rl_eq h]
  have h1 := div_lt_pow h hx
  have h2 : x % 2 ^ (W - k) < 2 ^ (W - k) := Nat.mod_lt _ (Nat.two_pow_pos _)
  have h3 := pow_split h
  generalize x % 2 ^ (W - k) = l at *
  generalize x / 2 ^ (W - k) = m at *
  rw [h3]
  calc l * 2 ^ k + m < l * 2 ^ k + 2 ^ k := by omega
    _ = (l + 1) * 2 ^ k := by rw [Nat.add_mul, Nat.one_mul]
    _ ≤ 2 ^ (W - k) * 2 ^ k := Nat.mul_le_mul_right _ h2
theorem rr_lt {W k x : Nat} (h : k ≤ W) (hx : x < 2 ^ W) : rr W k x < 2 ^ W := by
  have := rl_lt (Nat.sub_le W k) hx
  have e : W - (W - k) = k := by omega
  rw [rl_eq (Nat.sub_le W k), e] at this
  rw [rr_eq h]; omega

end PAbs

/- Package words as code of the abstract machine. -/
namespace PK
open Go PAbs

noncomputable def c_words_Take32 : AFn := AFn.mk 8 [.tmp 2, .tmp 3]
  (.seq (.region
      [⟨some 2, .mv (.k (.c (.snil))), none⟩,
        ⟨some 3, .mv (.k (.c (.int .i64 0))), none⟩])
  (.seq (.region
      [⟨some 4, .mv (.t 0), none⟩,
        ⟨some 5, .call F_words_take [.t 4, .k (.c (.fn F_words_lowest))], none⟩,
        ⟨some 6, .extract (.t 5) 0, none⟩,
        ⟨some 7, .extract (.t 5) 1, none⟩,
        ⟨some 2, .mv (.t 6), none⟩,
        ⟨some 3, .mv (.t 7), none⟩])
  (.ret)))
theorem t_words_Take32 : A F_words_Take32 = some c_words_Take32 := by kernel_rfl

noncomputable def c_words_Little32 : AFn := AFn.mk 32 [.tmp 2]
  (.seq (.region
      [⟨some 2, .mv (.k (.c (.snil))), none⟩])
  (.seq (.region
      [⟨some 6, .mv (.t 0), none⟩,
        ⟨some 7, .len false (.t 6), none⟩,
        ⟨some 8, .bin .mul (.k (.c (.int .i64 4))) (.t 7), none⟩,
        ⟨some 9, .makeSlice ([.int .u8 0]) 1 (.k (.c (.int .i64 0))) (.t 8), none⟩,
        ⟨some 3, .mv (.t 9), none⟩])
  (.seq (.seq (.region
        [⟨some 10, .mv (.t 0), none⟩,
          ⟨some 11, .len false (.t 10), none⟩,
          ⟨some 12, .mv (.k (.c (.int .i64 0))), none⟩])
    (.block 0
      (.loop
        (.seq (.region
            [⟨some 13, .bin .lss (.t 12) (.t 11), none⟩])
        (.seq (.cond (.t 13)
            (.skip)
            (.exit 0))
        (.seq (.block 1
            (.seq (.region
                [⟨some 14, .idxSlc 1 (.t 10) (.t 12), none⟩,
                  ⟨some 15, .load1 (.t 14), none⟩,
                  ⟨some 5, .mv (.t 15), none⟩])
            (.region
              [⟨some 16, .mv (.t 3), none⟩,
                ⟨some 17, .mv (.t 5), none⟩,
                ⟨some 18, .convInt .u8 (.t 17), none⟩,
                ⟨some 19, .mv (.t 5), none⟩,
                ⟨some 20, .bin .shr (.t 19) (.k (.c (.int .u64 8))), none⟩,
                ⟨some 21, .convInt .u8 (.t 20), none⟩,
                ⟨some 22, .mv (.t 5), none⟩,
                ⟨some 23, .bin .shr (.t 22) (.k (.c (.int .u64 16))), none⟩,
                ⟨some 24, .convInt .u8 (.t 23), none⟩,
                ⟨some 25, .mv (.t 5), none⟩,
                ⟨some 26, .bin .shr (.t 25) (.k (.c (.int .u64 24))), none⟩,
                ⟨some 27, .convInt .u8 (.t 26), none⟩,
                ⟨some 28, .buildSlice (rep 4 (.int .u8 0)) 1 4 [(0, 1, .t 18), (1, 1, .t 21), (2, 1, .t 24), (3, 1, .t 27)], none⟩,
                ⟨some 29, .append ([.int .u8 0]) 1 (.t 16) (.t 28), none⟩,
                ⟨some 3, .mv (.t 29), none⟩])))
        (.region
          [⟨some 30, .bin .add (.t 12) (.k (.c (.int .i64 1))), none⟩,
            ⟨some 12, .mv (.t 30), none⟩])))))))
  (.seq (.region
      [⟨some 31, .mv (.t 3), none⟩,
        ⟨some 2, .mv (.t 31), none⟩])
  (.ret)))))
theorem t_words_Little32 : A F_words_Little32 = some c_words_Little32 := by kernel_rfl

noncomputable def c_words_Big32 : AFn := AFn.mk 32 [.tmp 2]
  (.seq (.region
      [⟨some 2, .mv (.k (.c (.snil))), none⟩])
  (.seq (.region
      [⟨some 6, .mv (.t 0), none⟩,
        ⟨some 7, .len false (.t 6), none⟩,
        ⟨some 8, .bin .mul (.k (.c (.int .i64 4))) (.t 7), none⟩,
        ⟨some 9, .makeSlice ([.int .u8 0]) 1 (.k (.c (.int .i64 0))) (.t 8), none⟩,
        ⟨some 3, .mv (.t 9), none⟩])
  (.seq (.seq (.region
        [⟨some 10, .mv (.t 0), none⟩,
          ⟨some 11, .len false (.t 10), none⟩,
          ⟨some 12, .mv (.k (.c (.int .i64 0))), none⟩])
    (.block 0
      (.loop
        (.seq (.region
            [⟨some 13, .bin .lss (.t 12) (.t 11), none⟩])
        (.seq (.cond (.t 13)
            (.skip)
            (.exit 0))
        (.seq (.block 1
            (.seq (.region
                [⟨some 14, .idxSlc 1 (.t 10) (.t 12), none⟩,
                  ⟨some 15, .load1 (.t 14), none⟩,
                  ⟨some 5, .mv (.t 15), none⟩])
            (.region
              [⟨some 16, .mv (.t 3), none⟩,
                ⟨some 17, .mv (.t 5), none⟩,
                ⟨some 18, .bin .shr (.t 17) (.k (.c (.int .u64 24))), none⟩,
                ⟨some 19, .convInt .u8 (.t 18), none⟩,
                ⟨some 20, .mv (.t 5), none⟩,
                ⟨some 21, .bin .shr (.t 20) (.k (.c (.int .u64 16))), none⟩,
                ⟨some 22, .convInt .u8 (.t 21), none⟩,
                ⟨some 23, .mv (.t 5), none⟩,
                ⟨some 24, .bin .shr (.t 23) (.k (.c (.int .u64 8))), none⟩,
                ⟨some 25, .convInt .u8 (.t 24), none⟩,
                ⟨some 26, .mv (.t 5), none⟩,
                ⟨some 27, .convInt .u8 (.t 26), none⟩,
                ⟨some 28, .buildSlice (rep 4 (.int .u8 0)) 1 4 [(0, 1, .t 19), (1, 1, .t 22), (2, 1, .t 25), (3, 1, .t 27)], none⟩,
                ⟨some 29, .append ([.int .u8 0]) 1 (.t 16) (.t 28), none⟩,
                ⟨some 3, .mv (.t 29), none⟩])))
        (.region
          [⟨some 30, .bin .add (.t 12) (.k (.c (.int .i64 1))), none⟩,
            ⟨some 12, .mv (.t 30), none⟩])))))))
  (.seq (.region
      [⟨some 31, .mv (.t 3), none⟩,
        ⟨some 2, .mv (.t 31), none⟩])
  (.ret)))))
theorem t_words_Big32 : A F_words_Big32 = some c_words_Big32 := by kernel_rfl

noncomputable def c_words_take : AFn := AFn.mk 41 [.tmp 4, .tmp 5]
  (.seq (.region
      [⟨some 4, .mv (.k (.c (.snil))), none⟩,
        ⟨some 5, .mv (.k (.c (.int .i64 0))), none⟩])
  (.seq (.seq (.region
        [⟨some 9, .mv (.t 0), none⟩,
          ⟨some 10, .len false (.t 9), none⟩,
          ⟨some 11, .bin .rem (.t 10) (.k (.c (.int .i64 4))), none⟩,
          ⟨some 12, .bin .neq (.t 11) (.k (.c (.int .i64 0))), none⟩])
    (.cond (.t 12)
      (.seq (.region
          [⟨some 4, .mv (.k (.c (.snil))), none⟩,
            ⟨some 5, .mv (.k (.c (.int .i64 9))), none⟩])
      (.ret))
      (.skip)))
  (.seq (.region
      [⟨some 13, .mv (.t 0), none⟩,
        ⟨some 14, .len false (.t 13), none⟩,
        ⟨some 15, .bin .quo (.t 14) (.k (.c (.int .i64 4))), none⟩,
        ⟨some 16, .makeSlice ([.int .u32 0]) 4 (.t 15) (.t 15), none⟩,
        ⟨some 6, .mv (.t 16), none⟩])
  (.seq (.seq (.region
        [⟨some 17, .mv (.t 0), none⟩,
          ⟨some 18, .len false (.t 17), none⟩,
          ⟨some 19, .mv (.k (.c (.int .i64 0))), none⟩])
    (.block 0
      (.loop
        (.seq (.region
            [⟨some 20, .bin .lss (.t 19) (.t 18), none⟩])
        (.seq (.cond (.t 20)
            (.skip)
            (.exit 0))
        (.seq (.block 1
            (.seq (.region
                [⟨some 21, .mv (.t 19), none⟩,
                  ⟨some 22, .idxSlc 1 (.t 17) (.t 19), none⟩,
                  ⟨some 23, .load1 (.t 22), none⟩,
                  ⟨some 7, .mv (.t 21), none⟩,
                  ⟨some 8, .mv (.t 23), none⟩])
            (.draw
              [⟨some 24, .mv (.t 6), none⟩,
                ⟨some 25, .mv (.t 7), none⟩,
                ⟨some 26, .bin .quo (.t 25) (.k (.c (.int .i64 4))), none⟩,
                ⟨some 27, .idxSlc 1 (.t 24) (.t 26), none⟩,
                ⟨some 28, .load1 (.t 27), none⟩,
                ⟨some 29, .mv (.t 8), none⟩,
                ⟨some 30, .convInt .u32 (.t 29), none⟩,
                ⟨some 31, .mv (.t 1), none⟩,
                ⟨some 32, .mv (.t 7), none⟩,
                ⟨some 33, .bin .rem (.t 32) (.k (.c (.int .i64 4))), none⟩,
                ⟨some 34, .callV (.t 31) [.t 33], none⟩,
                ⟨some 35, .bin .mul (.k (.c (.int .i64 8))) (.t 34), none⟩,
                ⟨some 36, .bin .shl (.t 30) (.t 35), none⟩]
              [⟨some 37, .bin .or (.t 28) (.t 36), none⟩,
                ⟨some 38, .idxSlc 1 (.t 24) (.t 26), none⟩,
                ⟨none, .store 1 (.t 38) (.t 37), none⟩])))
        (.region
          [⟨some 39, .bin .add (.t 19) (.k (.c (.int .i64 1))), none⟩,
            ⟨some 19, .mv (.t 39), none⟩])))))))
  (.seq (.region
      [⟨some 40, .mv (.t 6), none⟩,
        ⟨some 4, .mv (.t 40), none⟩,
        ⟨some 5, .mv (.k (.c (.int .i64 0))), none⟩])
  (.ret))))))
theorem t_words_take : A F_words_take = some c_words_take := by kernel_rfl

noncomputable def c_words_lowest : AFn := AFn.mk 4 [.tmp 2]
  (.seq (.region
      [⟨some 2, .mv (.k (.c (.int .i64 0))), none⟩])
  (.seq (.region
      [⟨some 3, .mv (.t 0), none⟩,
        ⟨some 2, .mv (.t 3), none⟩])
  (.ret)))
theorem t_words_lowest : A F_words_lowest = some c_words_lowest := by kernel_rfl

noncomputable def c_words_Xor : AFn := AFn.mk 45 [.tmp 2, .tmp 3]
  (.seq (.region
      [⟨some 2, .mv (.k (.c (.str []))), none⟩,
        ⟨some 3, .mv (.k (.c (.int .i64 0))), none⟩])
  (.seq (.seq (.region
        [⟨some 8, .mv (.t 0), none⟩,
          ⟨some 9, .len false (.t 8), none⟩,
          ⟨some 10, .bin .eql (.t 9) (.k (.c (.int .i64 0))), none⟩])
    (.cond (.t 10)
      (.seq (.region
          [⟨some 2, .mv (.k (.c (.str []))), none⟩,
            ⟨some 3, .mv (.k (.c (.int .i64 0))), none⟩])
      (.ret))
      (.skip)))
  (.seq (.region
      [⟨some 11, .mv (.t 0), none⟩,
        ⟨some 12, .idxSlc 1 (.t 11) (.k (.c (.int .i64 0))), none⟩,
        ⟨some 13, .load1 (.t 12), none⟩,
        ⟨some 14, .strBytes (.t 13), none⟩,
        ⟨some 4, .mv (.t 14), none⟩])
  (.seq (.seq (.region
        [⟨some 15, .mv (.t 0), none⟩,
          ⟨some 16, .sliceS 1 (.t 15) (some (.k (.c (.int .i64 1)))) none, none⟩,
          ⟨some 17, .len false (.t 16), none⟩,
          ⟨some 18, .mv (.k (.c (.int .i64 0))), none⟩])
    (.block 0
      (.loop
        (.seq (.region
            [⟨some 19, .bin .lss (.t 18) (.t 17), none⟩])
        (.seq (.cond (.t 19)
            (.skip)
            (.exit 0))
        (.seq (.block 1
            (.seq (.region
                [⟨some 20, .idxSlc 1 (.t 16) (.t 18), none⟩,
                  ⟨some 21, .load1 (.t 20), none⟩,
                  ⟨some 6, .mv (.t 21), none⟩])
            (.seq (.seq (.region
                  [⟨some 22, .mv (.t 6), none⟩,
                    ⟨some 23, .len true (.t 22), none⟩,
                    ⟨some 24, .mv (.t 4), none⟩,
                    ⟨some 25, .len false (.t 24), none⟩,
                    ⟨some 26, .bin .neq (.t 23) (.t 25), none⟩])
              (.cond (.t 26)
                (.seq (.region
                    [⟨some 2, .mv (.k (.c (.str []))), none⟩,
                      ⟨some 3, .mv (.k (.c (.int .i64 9))), none⟩])
                (.ret))
                (.skip)))
            (.seq (.region
                [⟨some 27, .mv (.t 4), none⟩,
                  ⟨some 28, .len false (.t 27), none⟩,
                  ⟨some 29, .mv (.k (.c (.int .i64 0))), none⟩])
            (.block 2
              (.loop
                (.seq (.region
                    [⟨some 30, .bin .lss (.t 29) (.t 28), none⟩])
                (.seq (.cond (.t 30)
                    (.skip)
                    (.exit 2))
                (.seq (.block 3
                    (.seq (.region
                        [⟨some 31, .mv (.t 29), none⟩,
                          ⟨some 7, .mv (.t 31), none⟩])
                    (.draw
                      [⟨some 32, .mv (.t 4), none⟩,
                        ⟨some 33, .mv (.t 7), none⟩,
                        ⟨some 34, .idxSlc 1 (.t 32) (.t 33), none⟩,
                        ⟨some 35, .load1 (.t 34), none⟩,
                        ⟨some 36, .mv (.t 6), none⟩,
                        ⟨some 37, .mv (.t 7), none⟩,
                        ⟨some 38, .elemStr (.t 36) (.t 37), none⟩]
                      [⟨some 39, .bin .xor (.t 35) (.t 38), none⟩,
                        ⟨some 40, .idxSlc 1 (.t 32) (.t 33), none⟩,
                        ⟨none, .store 1 (.t 40) (.t 39), none⟩])))
                (.region
                  [⟨some 41, .bin .add (.t 29) (.k (.c (.int .i64 1))), none⟩,
                    ⟨some 29, .mv (.t 41), none⟩]))))))))))
        (.region
          [⟨some 42, .bin .add (.t 18) (.k (.c (.int .i64 1))), none⟩,
            ⟨some 18, .mv (.t 42), none⟩])))))))
  (.seq (.region
      [⟨some 43, .mv (.t 4), none⟩,
        ⟨some 44, .bytesStr (.t 43), none⟩,
        ⟨some 2, .mv (.t 44), none⟩,
        ⟨some 3, .mv (.k (.c (.int .i64 0))), none⟩])
  (.ret))))))
theorem t_words_Xor : A F_words_Xor = some c_words_Xor := by kernel_rfl

noncomputable def c_words_Right32 : AFn := AFn.mk 17 [.tmp 4]
  (.seq (.region
      [⟨some 4, .mv (.k (.c (.int .u32 0))), none⟩])
  (.seq (.region
      [⟨some 6, .mv (.t 1), none⟩,
        ⟨some 7, .convInt .u64 (.t 6), none⟩,
        ⟨some 8, .bin .rem (.t 7) (.k (.c (.int .u64 32))), none⟩,
        ⟨some 5, .mv (.t 8), none⟩])
  (.seq (.region
      [⟨some 9, .mv (.t 0), none⟩,
        ⟨some 10, .mv (.t 5), none⟩,
        ⟨some 11, .bin .shr (.t 9) (.t 10), none⟩,
        ⟨some 12, .mv (.t 0), none⟩,
        ⟨some 13, .mv (.t 5), none⟩,
        ⟨some 14, .bin .sub (.k (.c (.int .u64 32))) (.t 13), none⟩,
        ⟨some 15, .bin .shl (.t 12) (.t 14), none⟩,
        ⟨some 16, .bin .or (.t 11) (.t 15), none⟩,
        ⟨some 4, .mv (.t 16), none⟩])
  (.ret))))
theorem t_words_Right32 : A F_words_Right32 = some c_words_Right32 := by kernel_rfl

noncomputable def c_words_Left32 : AFn := AFn.mk 17 [.tmp 4]
  (.seq (.region
      [⟨some 4, .mv (.k (.c (.int .u32 0))), none⟩])
  (.seq (.region
      [⟨some 6, .mv (.t 1), none⟩,
        ⟨some 7, .convInt .u64 (.t 6), none⟩,
        ⟨some 8, .bin .rem (.t 7) (.k (.c (.int .u64 32))), none⟩,
        ⟨some 5, .mv (.t 8), none⟩])
  (.seq (.region
      [⟨some 9, .mv (.t 0), none⟩,
        ⟨some 10, .mv (.t 5), none⟩,
        ⟨some 11, .bin .shl (.t 9) (.t 10), none⟩,
        ⟨some 12, .mv (.t 0), none⟩,
        ⟨some 13, .mv (.t 5), none⟩,
        ⟨some 14, .bin .sub (.k (.c (.int .u64 32))) (.t 13), none⟩,
        ⟨some 15, .bin .shr (.t 12) (.t 14), none⟩,
        ⟨some 16, .bin .or (.t 11) (.t 15), none⟩,
        ⟨some 4, .mv (.t 16), none⟩])
  (.ret))))
theorem t_words_Left32 : A F_words_Left32 = some c_words_Left32 := by kernel_rfl

noncomputable def c_words_TakeBig32 : AFn := AFn.mk 8 [.tmp 2, .tmp 3]
  (.seq (.region
      [⟨some 2, .mv (.k (.c (.snil))), none⟩,
        ⟨some 3, .mv (.k (.c (.int .i64 0))), none⟩])
  (.seq (.region
      [⟨some 4, .mv (.t 0), none⟩,
        ⟨some 5, .call F_words_take [.t 4, .k (.c (.fn F_words_highest))], none⟩,
        ⟨some 6, .extract (.t 5) 0, none⟩,
        ⟨some 7, .extract (.t 5) 1, none⟩,
        ⟨some 2, .mv (.t 6), none⟩,
        ⟨some 3, .mv (.t 7), none⟩])
  (.ret)))
theorem t_words_TakeBig32 : A F_words_TakeBig32 = some c_words_TakeBig32 := by kernel_rfl

noncomputable def c_words_Big64 : AFn := AFn.mk 31 [.tmp 2]
  (.seq (.region
      [⟨some 2, .mv (.k (.c (.snil))), none⟩])
  (.seq (.region
      [⟨some 7, .mv (.t 0), none⟩,
        ⟨some 8, .len false (.t 7), none⟩,
        ⟨some 9, .bin .mul (.k (.c (.int .i64 8))) (.t 8), none⟩,
        ⟨some 10, .makeSlice ([.int .u8 0]) 1 (.k (.c (.int .i64 0))) (.t 9), none⟩,
        ⟨some 3, .mv (.t 10), none⟩])
  (.seq (.seq (.region
        [⟨some 11, .mv (.t 0), none⟩,
          ⟨some 12, .len false (.t 11), none⟩,
          ⟨some 13, .mv (.k (.c (.int .i64 0))), none⟩])
    (.block 0
      (.loop
        (.seq (.region
            [⟨some 14, .bin .lss (.t 13) (.t 12), none⟩])
        (.seq (.cond (.t 14)
            (.skip)
            (.exit 0))
        (.seq (.block 1
            (.seq (.region
                [⟨some 15, .idxSlc 1 (.t 11) (.t 13), none⟩,
                  ⟨some 16, .load1 (.t 15), none⟩,
                  ⟨some 5, .mv (.t 16), none⟩])
            (.seq (.region
                [⟨some 6, .mv (.k (.c (.int .i64 7))), none⟩])
            (.block 2
              (.loop
                (.seq (.seq (.region
                      [⟨some 17, .mv (.t 6), none⟩,
                        ⟨some 18, .bin .geq (.t 17) (.k (.c (.int .i64 0))), none⟩])
                  (.cond (.t 18)
                    (.skip)
                    (.exit 2)))
                (.seq (.block 3
                    (.region
                      [⟨some 21, .mv (.t 3), none⟩,
                        ⟨some 22, .mv (.t 5), none⟩,
                        ⟨some 23, .mv (.t 6), none⟩,
                        ⟨some 24, .bin .mul (.k (.c (.int .i64 8))) (.t 23), none⟩,
                        ⟨some 25, .bin .shr (.t 22) (.t 24), none⟩,
                        ⟨some 26, .convInt .u8 (.t 25), none⟩,
                        ⟨some 27, .buildSlice ([.int .u8 0]) 1 1 [(0, 1, .t 26)], none⟩,
                        ⟨some 28, .append ([.int .u8 0]) 1 (.t 21) (.t 27), none⟩,
                        ⟨some 3, .mv (.t 28), none⟩]))
                (.region
                  [⟨some 19, .mv (.t 6), none⟩,
                    ⟨some 20, .bin .sub (.t 19) (.k (.c (.int .i64 1))), none⟩,
                    ⟨some 6, .mv (.t 20), none⟩]))))))))
        (.region
          [⟨some 29, .bin .add (.t 13) (.k (.c (.int .i64 1))), none⟩,
            ⟨some 13, .mv (.t 29), none⟩])))))))
  (.seq (.region
      [⟨some 30, .mv (.t 3), none⟩,
        ⟨some 2, .mv (.t 30), none⟩])
  (.ret)))))
theorem t_words_Big64 : A F_words_Big64 = some c_words_Big64 := by kernel_rfl

noncomputable def c_words_highest : AFn := AFn.mk 5 [.tmp 2]
  (.seq (.region
      [⟨some 2, .mv (.k (.c (.int .i64 0))), none⟩])
  (.seq (.region
      [⟨some 3, .mv (.t 0), none⟩,
        ⟨some 4, .bin .sub (.k (.c (.int .i64 3))) (.t 3), none⟩,
        ⟨some 2, .mv (.t 4), none⟩])
  (.ret)))
theorem t_words_highest : A F_words_highest = some c_words_highest := by kernel_rfl
end PK

/- Package pestleref01 as code of the abstract machine. -/
namespace PK
open Go PAbs

end PK

/- Package words: turned words, walked; and the document's. -/
namespace PK
open Go PAbs
set_option linter.unusedSimpArgs false
set_option linter.unusedVariables false
set_option maxRecDepth 100000

theorem shl_of {k : IntKind} (hs : k.signed = false) {x p : Nat} (hp : p ≤ k.bits) : shlA k (x : Int) (p : Int) = ((x * 2 ^ p % 2 ^ k.bits : Nat) : Int) := by
  simp only [shlA, IntKind.wrap, hs, Bool.false_and, Bool.false_eq_true, if_false, Int.toNat_natCast, Nat.min_eq_left hp]
  simp
theorem shr_of {k : IntKind} {x p : Nat} (hp : p ≤ k.bits) : shrA k (x : Int) (p : Int) = ((x / 2 ^ p : Nat) : Int) := by
  simp only [shrA, Int.toNat_natCast, Nat.min_eq_left hp]
  rw [Int.fdiv_eq_ediv_of_nonneg _ (by exact_mod_cast Nat.zero_le _)]
  simp
theorem or_of {k : IntKind} (hs : k.signed = false) {a b : Nat} (ha : a < 2 ^ k.bits) (hb : b < 2 ^ k.bits) : bitsA .or k (a : Int) (b : Int) = ((a ||| b : Nat) : Int) := by
  have hab : a ||| b < 2 ^ k.bits := Nat.or_lt_two_pow ha hb
  simp only [bitsA, IntKind.wrap, hs, Bool.false_and, Bool.false_eq_true, if_false, BitVec.ofInt_natCast, BitVec.toNat_or, BitVec.toNat_ofNat, Nat.mod_eq_of_lt ha, Nat.mod_eq_of_lt hb]
  exact Int.emod_eq_of_lt (Int.natCast_nonneg _) (by exact_mod_cast hab)

def places (W : Nat) (n : Int) : Nat := (n % (W : Int)).toNat

theorem places_lt {W : Nat} (hW : 0 < W) (n : Int) : places W n < W := by
  have h1 := Int.emod_lt_of_pos n (show (0 : Int) < W by omega)
  have h2 := Int.emod_nonneg n (show (W : Int) ≠ 0 by omega)
  simp only [places]; omega

theorem AC_Left32 (fl : Nat) (H : AHeap) (x : Nat) (n : Int) (hx : x < 4294967296) : AC A fl F_words_Left32 [.c (.int .u32 x), .c (.int .i64 n)] H (fun v H' => v = .c (.int .u32 (rl 32 (places 32 n) x)) ∧ H' = H) := by
  have hk := places_lt (W := 32) (by omega) n
  have e1 : Int.tmod (IntKind.u64.wrap n) 32 = (places 32 n : Int) := by
    rw [wrap_u64]; simp only [places]
    rw [Int.tmod_eq_emod_of_nonneg (by omega)]; omega
  have e2 : IntKind.u64.wrap (32 - (places 32 n : Int)) = ((32 - places 32 n : Nat) : Int) := by rw [wrap_u64]; omega
  have h1 : x * 2 ^ (places 32 n) % 2 ^ 32 < 2 ^ 32 := Nat.mod_lt _ (by omega)
  have h2 : x / 2 ^ (32 - places 32 n) < 2 ^ 32 := Nat.lt_of_le_of_lt (Nat.div_le_self _ _) hx
  have e3 := rl_or (W := 32) (k := places 32 n) (Nat.le_of_lt hk) hx
  have n1 : ¬ ((places 32 n : Int) < 0) := by omega
  have n2 : ¬ (((32 - places 32 n : Nat) : Int) < 0) := by omega
  have a1 : shlA .u32 (x : Int) (places 32 n : Int) = _ := shl_of rfl (Nat.le_of_lt hk)
  have a2 : shrA .u32 (x : Int) ((32 - places 32 n : Nat) : Int) = _ := shr_of (Nat.sub_le _ _)
  have a3 : bitsA .or .u32 ((x * 2 ^ (places 32 n) % 2 ^ 32 : Nat) : Int) ((x / 2 ^ (32 - places 32 n) : Nat) : Int) = _ := or_of rfl h1 h2
  have z : ¬ ((32 : Int) = 0) := by omega
  refine AC_enter t_words_Left32 ?_
  simp only [c_words_Left32, enterA, List.replicate, List.length, Nat.reduceAdd, Nat.reduceSub, List.cons_append, List.nil_append]
  refine AW_seq (AW_run (by simp only [List.take_succ_cons, List.take_zero, List.drop_succ_cons, List.drop_zero, bne_self_eq_false, List.map_cons, List.map_nil, Bool.true_beq, Bool.false_beq, run_nil, run_cons, run_gate, cont_some, gate_true, gate_false, hrun_nil, hrun_cons, hrun_gate, hcont_some, hgate_true, hgate_false, put_some, put_none, ev_t, ev_k, wantedA, execA, stepA, List.set_cons_succ, List.set_cons_zero, List.getD_cons_succ, List.getD_cons_zero, List.getElem?_cons_zero, List.getElem?_cons_succ, if_true, if_false, binA, binInt, unA, eqA, Option.map, eq_self, true_or, or_true, true_and, and_true, and_self, beq_self_eq_true, Bool.not_true, Bool.not_false, reduceCtorEq, Bool.false_eq_true, ite_true, ite_false]; rfl) ?_)
  refine AW_seq (AW_run (by simp only [List.take_succ_cons, List.take_zero, List.drop_succ_cons, List.drop_zero, bne_self_eq_false, List.map_cons, List.map_nil, Bool.true_beq, Bool.false_beq, run_nil, run_cons, run_gate, cont_some, gate_true, gate_false, hrun_nil, hrun_cons, hrun_gate, hcont_some, hgate_true, hgate_false, put_some, put_none, ev_t, ev_k, wantedA, execA, stepA, List.set_cons_succ, List.set_cons_zero, List.getD_cons_succ, List.getD_cons_zero, List.getElem?_cons_zero, List.getElem?_cons_succ, if_true, if_false, binA, binInt, unA, eqA, Option.map, eq_self, true_or, or_true, true_and, and_true, and_self, beq_self_eq_true, Bool.not_true, Bool.not_false, reduceCtorEq, Bool.false_eq_true, ite_true, ite_false, e1, z]; rfl) ?_)
  refine AW_seq (AW_run (by simp only [List.take_succ_cons, List.take_zero, List.drop_succ_cons, List.drop_zero, bne_self_eq_false, List.map_cons, List.map_nil, Bool.true_beq, Bool.false_beq, run_nil, run_cons, run_gate, cont_some, gate_true, gate_false, hrun_nil, hrun_cons, hrun_gate, hcont_some, hgate_true, hgate_false, put_some, put_none, ev_t, ev_k, wantedA, execA, stepA, List.set_cons_succ, List.set_cons_zero, List.getD_cons_succ, List.getD_cons_zero, List.getElem?_cons_zero, List.getElem?_cons_succ, if_true, if_false, binA, binInt, unA, eqA, Option.map, eq_self, true_or, or_true, true_and, and_true, and_self, beq_self_eq_true, Bool.not_true, Bool.not_false, reduceCtorEq, Bool.false_eq_true, ite_true, ite_false, e2, n1, n2, a1, a2]; rfl) ?_)
  refine AW_ret ⟨_, rfl, ?_⟩
  refine ⟨?_, rfl⟩
  have a4 : (2 : Nat) ^ IntKind.u32.bits = 2 ^ 32 := rfl
  simp only [List.getD_cons_succ, List.getD_cons_zero, a4, a3, e3]

theorem AC_Right32 (fl : Nat) (H : AHeap) (x : Nat) (n : Int) (hx : x < 4294967296) : AC A fl F_words_Right32 [.c (.int .u32 x), .c (.int .i64 n)] H (fun v H' => v = .c (.int .u32 (rr 32 (places 32 n) x)) ∧ H' = H) := by
  have hk := places_lt (W := 32) (by omega) n
  have e1 : Int.tmod (IntKind.u64.wrap n) 32 = (places 32 n : Int) := by
    rw [wrap_u64]; simp only [places]
    rw [Int.tmod_eq_emod_of_nonneg (by omega)]; omega
  have e2 : IntKind.u64.wrap (32 - (places 32 n : Int)) = ((32 - places 32 n : Nat) : Int) := by rw [wrap_u64]; omega
  have h1 : x * 2 ^ (32 - places 32 n) % 2 ^ 32 < 2 ^ 32 := Nat.mod_lt _ (by omega)
  have h2 : x / 2 ^ (places 32 n) < 2 ^ 32 := Nat.lt_of_le_of_lt (Nat.div_le_self _ _) hx
  have e3 := rr_or (W := 32) (k := places 32 n) (Nat.le_of_lt hk) hx
  have n1 : ¬ ((places 32 n : Int) < 0) := by omega
  have n2 : ¬ (((32 - places 32 n : Nat) : Int) < 0) := by omega
  have a1 : shrA .u32 (x : Int) (places 32 n : Int) = _ := shr_of (Nat.le_of_lt hk)
  have a2 : shlA .u32 (x : Int) ((32 - places 32 n : Nat) : Int) = _ := shl_of rfl (Nat.sub_le _ _)
  have a3 : bitsA .or .u32 ((x / 2 ^ (places 32 n) : Nat) : Int) ((x * 2 ^ (32 - places 32 n) % 2 ^ 32 : Nat) : Int) = _ := or_of rfl h2 h1
  have z : ¬ ((32 : Int) = 0) := by omega
  refine AC_enter t_words_Right32 ?_
  simp only [c_words_Right32, enterA, List.replicate, List.length, Nat.reduceAdd, Nat.reduceSub, List.cons_append, List.nil_append]
  refine AW_seq (AW_run (by simp only [List.take_succ_cons, List.take_zero, List.drop_succ_cons, List.drop_zero, bne_self_eq_false, List.map_cons, List.map_nil, Bool.true_beq, Bool.false_beq, run_nil, run_cons, run_gate, cont_some, gate_true, gate_false, hrun_nil, hrun_cons, hrun_gate, hcont_some, hgate_true, hgate_false, put_some, put_none, ev_t, ev_k, wantedA, execA, stepA, List.set_cons_succ, List.set_cons_zero, List.getD_cons_succ, List.getD_cons_zero, List.getElem?_cons_zero, List.getElem?_cons_succ, if_true, if_false, binA, binInt, unA, eqA, Option.map, eq_self, true_or, or_true, true_and, and_true, and_self, beq_self_eq_true, Bool.not_true, Bool.not_false, reduceCtorEq, Bool.false_eq_true, ite_true, ite_false]; rfl) ?_)
  refine AW_seq (AW_run (by simp only [List.take_succ_cons, List.take_zero, List.drop_succ_cons, List.drop_zero, bne_self_eq_false, List.map_cons, List.map_nil, Bool.true_beq, Bool.false_beq, run_nil, run_cons, run_gate, cont_some, gate_true, gate_false, hrun_nil, hrun_cons, hrun_gate, hcont_some, hgate_true, hgate_false, put_some, put_none, ev_t, ev_k, wantedA, execA, stepA, List.set_cons_succ, List.set_cons_zero, List.getD_cons_succ, List.getD_cons_zero, List.getElem?_cons_zero, List.getElem?_cons_succ, if_true, if_false, binA, binInt, unA, eqA, Option.map, eq_self, true_or, or_true, true_and, and_true, and_self, beq_self_eq_true, Bool.not_true, Bool.not_false, reduceCtorEq, Bool.false_eq_true, ite_true, ite_false, e1, z]; rfl) ?_)
  refine AW_seq (AW_run (by simp only [List.take_succ_cons, List.take_zero, List.drop_succ_cons, List.drop_zero, bne_self_eq_false, List.map_cons, List.map_nil, Bool.true_beq, Bool.false_beq, run_nil, run_cons, run_gate, cont_some, gate_true, gate_false, hrun_nil, hrun_cons, hrun_gate, hcont_some, hgate_true, hgate_false, put_some, put_none, ev_t, ev_k, wantedA, execA, stepA, List.set_cons_succ, List.set_cons_zero, List.getD_cons_succ, List.getD_cons_zero, List.getElem?_cons_zero, List.getElem?_cons_succ, if_true, if_false, binA, binInt, unA, eqA, Option.map, eq_self, true_or, or_true, true_and, and_true, and_self, beq_self_eq_true, Bool.not_true, Bool.not_false, reduceCtorEq, Bool.false_eq_true, ite_true, ite_false, e2, n1, n2, a1, a2]; rfl) ?_)
  refine AW_ret ⟨_, rfl, ?_⟩
  refine ⟨?_, rfl⟩
  have a4 : (2 : Nat) ^ IntKind.u32.bits = 2 ^ 32 := rfl
  simp only [List.getD_cons_succ, List.getD_cons_zero, a4, a3, e3]

theorem tmod_pos {n b : Int} (h : 0 ≤ n) : n.tmod b = n % b := Int.tmod_eq_emod_of_nonneg h
end PK

/- Package block as code of the abstract machine. -/
namespace PK
open Go PAbs

noncomputable def c_block_Half : AFn := AFn.mk 26 [.tmp 4]
  (.seq (.region
      [⟨some 4, .mv (.k (.c (.int .u32 0))), none⟩])
  (.seq (.seq (.region
        [⟨some 5, .mv (.t 0), none⟩,
          ⟨some 6, .eq false .ptr (.t 5) (.k (.c (.pnil))), none⟩,
          ⟨some 7, .mv (.t 6), none⟩,
          ⟨some 8, .mv (.t 1), some (7, false)⟩,
          ⟨some 9, .bin .lss (.t 8) (.k (.c (.int .i64 0))), some (7, false)⟩,
          ⟨some 10, .pick (.t 7) (.k (.c (.bool true))) (.t 9), none⟩,
          ⟨some 11, .mv (.t 10), none⟩,
          ⟨some 12, .mv (.t 1), some (11, false)⟩,
          ⟨some 13, .bin .geq (.t 12) (.k (.c (.int .i64 256))), some (11, false)⟩,
          ⟨some 14, .pick (.t 11) (.k (.c (.bool true))) (.t 13), none⟩])
    (.cond (.t 14)
      (.seq (.region
          [⟨some 4, .mv (.k (.c (.int .u32 0))), none⟩])
      (.ret))
      (.skip)))
  (.seq (.region
      [⟨some 15, .mv (.t 0), none⟩,
        ⟨some 16, .mv (.t 1), none⟩,
        ⟨some 17, .bin .quo (.t 16) (.k (.c (.int .i64 2))), none⟩,
        ⟨some 18, .nilCheck (.t 15), none⟩,
        ⟨some 19, .idxArr 128 1 (.t 18) (.t 17), none⟩,
        ⟨some 20, .load1 (.t 19), none⟩,
        ⟨some 21, .mv (.t 1), none⟩,
        ⟨some 22, .bin .rem (.t 21) (.k (.c (.int .i64 2))), none⟩,
        ⟨some 23, .bin .mul (.k (.c (.int .i64 32))) (.t 22), none⟩,
        ⟨some 24, .bin .shr (.t 20) (.t 23), none⟩,
        ⟨some 25, .convInt .u32 (.t 24), none⟩,
        ⟨some 4, .mv (.t 25), none⟩])
  (.ret))))
theorem t_block_Half : A F_block_Half = some c_block_Half := by kernel_rfl

noncomputable def c_block_SetHalf : AFn := AFn.mk 40 [.tmp 6]
  (.seq (.region
      [⟨some 6, .mv (.k (.c (.bool false))), none⟩])
  (.seq (.seq (.region
        [⟨some 8, .mv (.t 0), none⟩,
          ⟨some 9, .eq false .ptr (.t 8) (.k (.c (.pnil))), none⟩,
          ⟨some 10, .mv (.t 9), none⟩,
          ⟨some 11, .mv (.t 1), some (10, false)⟩,
          ⟨some 12, .bin .lss (.t 11) (.k (.c (.int .i64 0))), some (10, false)⟩,
          ⟨some 13, .pick (.t 10) (.k (.c (.bool true))) (.t 12), none⟩,
          ⟨some 14, .mv (.t 13), none⟩,
          ⟨some 15, .mv (.t 1), some (14, false)⟩,
          ⟨some 16, .bin .geq (.t 15) (.k (.c (.int .i64 256))), some (14, false)⟩,
          ⟨some 17, .pick (.t 14) (.k (.c (.bool true))) (.t 16), none⟩])
    (.cond (.t 17)
      (.seq (.region
          [⟨some 6, .mv (.k (.c (.bool false))), none⟩])
      (.ret))
      (.skip)))
  (.seq (.region
      [⟨some 18, .mv (.t 1), none⟩,
        ⟨some 19, .bin .rem (.t 18) (.k (.c (.int .i64 2))), none⟩,
        ⟨some 20, .bin .mul (.k (.c (.int .i64 32))) (.t 19), none⟩,
        ⟨some 7, .mv (.t 20), none⟩])
  (.seq (.draw
      [⟨some 21, .mv (.t 0), none⟩,
        ⟨some 22, .mv (.t 1), none⟩,
        ⟨some 23, .bin .quo (.t 22) (.k (.c (.int .i64 2))), none⟩,
        ⟨some 24, .mv (.t 0), none⟩,
        ⟨some 25, .mv (.t 1), none⟩,
        ⟨some 26, .bin .quo (.t 25) (.k (.c (.int .i64 2))), none⟩,
        ⟨some 27, .nilCheck (.t 24), none⟩,
        ⟨some 28, .idxArr 128 1 (.t 27) (.t 26), none⟩,
        ⟨some 29, .load1 (.t 28), none⟩,
        ⟨some 30, .mv (.t 7), none⟩,
        ⟨some 31, .bin .shl (.k (.c (.int .u64 4294967295))) (.t 30), none⟩,
        ⟨some 32, .bin .andNot (.t 29) (.t 31), none⟩,
        ⟨some 33, .mv (.t 2), none⟩,
        ⟨some 34, .convInt .u64 (.t 33), none⟩,
        ⟨some 35, .mv (.t 7), none⟩,
        ⟨some 36, .bin .shl (.t 34) (.t 35), none⟩,
        ⟨some 37, .bin .or (.t 32) (.t 36), none⟩,
        ⟨some 38, .nilCheck (.t 21), none⟩]
      [⟨some 39, .idxArr 128 1 (.t 38) (.t 23), none⟩,
        ⟨none, .store 1 (.t 39) (.t 37), none⟩])
  (.seq (.region
      [⟨some 6, .mv (.k (.c (.bool true))), none⟩])
  (.ret))))))
theorem t_block_SetHalf : A F_block_SetHalf = some c_block_SetHalf := by kernel_rfl
end PK

/- Package block: halves of words, walked. -/

namespace PK
open Go PAbs
set_option linter.unusedSimpArgs false
set_option linter.unusedVariables false
set_option maxRecDepth 100000

def W64 (xs : List Nat) : List Cell := xs.map fun (n : Nat) => Cell.int .u64 (n : Int)
theorem W64_length {xs : List Nat} : (W64 xs).length = xs.length := by simp [W64]
theorem W64_get {xs : List Nat} {i : Nat} (h : i < xs.length) : (W64 xs)[i]? = some (.int .u64 ((xs.getD i 0 : Nat) : Int)) := by simp [W64, h]
def half (xs : List Nat) (i : Int) : Nat := if 0 ≤ i ∧ i < 256 then xs.getD (i.toNat / 2) 0 / 2 ^ (32 * (i.toNat % 2)) % 4294967296 else 0
def setw (w s x : Nat) : Nat := if s = 0 then w / 4294967296 * 4294967296 + x else x * 4294967296 + w % 4294967296
theorem and_low {w : Nat} (hw : w < 18446744073709551616) : bitsA .andNot .u64 (w : Int) 18446744069414584320 = ((w % 4294967296 : Nat) : Int) := by
  show IntKind.wrap .u64 (((BitVec.ofInt 64 (w : Int) &&& ~~~ BitVec.ofInt 64 18446744069414584320).toNat : Nat) : Int) = _
  have e : (~~~ BitVec.ofInt 64 18446744069414584320).toNat = 2 ^ 32 - 1 := by decide
  simp only [BitVec.toNat_and, e, BitVec.ofInt_natCast, BitVec.toNat_ofNat, wrap_u64, Nat.and_two_pow_sub_one_eq_mod]
  rw [Nat.mod_eq_of_lt (by omega : w < 2 ^ 64)]; omega
theorem and_high {w : Nat} (hw : w < 18446744073709551616) : bitsA .andNot .u64 (w : Int) 4294967295 = ((w / 4294967296 * 4294967296 : Nat) : Int) := by
  show IntKind.wrap .u64 (((BitVec.ofInt 64 (w : Int) &&& ~~~ BitVec.ofInt 64 4294967295).toNat : Nat) : Int) = _
  have e : (~~~ BitVec.ofInt 64 4294967295).toNat = (2 ^ 32 - 1) <<< 32 := by decide
  have e2 : w &&& ((2 ^ 32 - 1) <<< 32) = (w >>> 32) <<< 32 := by
    apply Nat.eq_of_testBit_eq
    intro i
    simp only [Nat.testBit_and, Nat.testBit_shiftLeft, Nat.testBit_two_pow_sub_one, Nat.testBit_shiftRight]
    by_cases h : 32 ≤ i
    · have e3 : 32 + (i - 32) = i := by omega
      simp only [h, decide_true, Bool.true_and, e3]
      by_cases h2 : i - 32 < 32
      · simp [h2]
      · have : w.testBit i = false := Nat.testBit_lt_two_pow (Nat.lt_of_lt_of_le hw (by rw [show (18446744073709551616 : Nat) = 2 ^ 64 from rfl]; exact Nat.pow_le_pow_right (by omega) (by omega)))
        simp [this]
    · simp [h]
  simp only [BitVec.toNat_and, e, BitVec.ofInt_natCast, BitVec.toNat_ofNat, wrap_u64]
  rw [Nat.mod_eq_of_lt (by omega : w < 2 ^ 64), e2, Nat.shiftLeft_eq, Nat.shiftRight_eq_div_pow]
  simp only [show (2 : Nat) ^ 32 = 4294967296 from rfl]
  omega

theorem half_parts {j : Nat} (h : j < 256) : ((j : Int).tdiv 2 = ((j / 2 : Nat) : Int)) ∧ ((j : Int).tmod 2 = ((j % 2 : Nat) : Int)) ∧ IntKind.i64.wrap ((j / 2 : Nat) : Int) = ((j / 2 : Nat) : Int) ∧ IntKind.i64.wrap (32 * ((j % 2 : Nat) : Int)) = ((32 * (j % 2) : Nat) : Int) ∧ j / 2 < 128 := by
  refine ⟨?_, ?_, ?_, ?_, by omega⟩
  · rw [Int.tdiv_eq_ediv_of_nonneg (by omega)]; omega
  · rw [tmod_pos (by omega)]; omega
  · rw [wrap_i64_of (by omega) (by omega)]
  · rw [wrap_i64_of (by omega) (by omega)]; omega

end PK

/- Package block: a half is set; the document's half. -/
namespace PK
open Go PAbs
set_option linter.unusedSimpArgs false
set_option linter.unusedVariables false
set_option maxRecDepth 100000

theorem setw_ops {w j x : Nat} (hw : w < 18446744073709551616) (hx : x < 4294967296) :
    ∃ m : Int, shlA .u64 4294967295 ((32 * (j % 2) : Nat) : Int) = m ∧ ∃ n : Int, bitsA .andNot .u64 (w : Int) m = n ∧ ∃ y : Int, shlA .u64 (x : Int) ((32 * (j % 2) : Nat) : Int) = y ∧ bitsA .or .u64 n y = ((setw w (j % 2) x : Nat) : Int) := by
  have ha : shlA .u64 4294967295 ((32 * (j % 2) : Nat) : Int) = ((4294967295 * 2 ^ (32 * (j % 2)) % 2 ^ 64 : Nat) : Int) := shl_of (k := .u64) (x := 4294967295) rfl (show 32 * (j % 2) ≤ 64 by omega)
  have hy : shlA .u64 (x : Int) ((32 * (j % 2) : Nat) : Int) = ((x * 2 ^ (32 * (j % 2)) % 2 ^ 64 : Nat) : Int) := shl_of (k := .u64) rfl (show 32 * (j % 2) ≤ 64 by omega)
  rcases (show j % 2 = 0 ∨ j % 2 = 1 by omega) with h | h
  · rw [h] at ha hy ⊢
    have ea : ((4294967295 * 2 ^ (32 * 0) % 2 ^ 64 : Nat) : Int) = 4294967295 := by decide
    have ey : x * 2 ^ (32 * 0) % 2 ^ 64 = x := by omega
    rw [ea] at ha; rw [ey] at hy
    refine ⟨_, ha, _, and_high hw, _, hy, ?_⟩
    rw [or_of (k := .u64) rfl (show _ < 2 ^ 64 by omega) (show _ < 2 ^ 64 by omega)]
    simp only [setw, if_true]
    have := Nat.shiftLeft_add_eq_or_of_lt (i := 32) (b := x) hx (w / 4294967296)
    rw [Nat.shiftLeft_eq] at this
    rw [← this]
  · rw [h] at ha hy ⊢
    have ea : ((4294967295 * 2 ^ (32 * 1) % 2 ^ 64 : Nat) : Int) = 18446744069414584320 := by decide
    have ey : x * 2 ^ (32 * 1) % 2 ^ 64 = x * 4294967296 := by omega
    rw [ea] at ha; rw [ey] at hy
    refine ⟨_, ha, _, and_low hw, _, hy, ?_⟩
    rw [or_of (k := .u64) rfl (show _ < 2 ^ 64 by omega) (show _ < 2 ^ 64 by omega)]
    simp only [setw, if_neg (show ¬ (1 : Nat) = 0 by omega)]
    have := Nat.shiftLeft_add_eq_or_of_lt (i := 32) (b := w % 4294967296) (by omega) x
    rw [Nat.shiftLeft_eq] at this
    rw [Nat.or_comm, ← this]

end PK

/- Package arena as code of the abstract machine. -/
namespace PK
open Go PAbs

noncomputable def c_arena_New : AFn := AFn.mk 13 [.tmp 2, .tmp 3]
  (.seq (.region
      [⟨some 2, .mv (.k (.c (.pnil))), none⟩,
        ⟨some 3, .mv (.k (.c (.int .i64 0))), none⟩])
  (.seq (.seq (.region
        [⟨some 4, .mv (.t 0), none⟩,
          ⟨some 5, .bin .lss (.t 4) (.k (.c (.int .i64 0))), none⟩,
          ⟨some 6, .mv (.t 5), none⟩,
          ⟨some 7, .mv (.t 0), some (6, false)⟩,
          ⟨some 8, .bin .gtr (.t 7) (.k (.c (.int .i64 4194304))), some (6, false)⟩,
          ⟨some 9, .pick (.t 6) (.k (.c (.bool true))) (.t 8), none⟩])
    (.cond (.t 9)
      (.seq (.region
          [⟨some 2, .mv (.k (.c (.pnil))), none⟩,
            ⟨some 3, .mv (.k (.c (.int .i64 1))), none⟩])
      (.ret))
      (.skip)))
  (.seq (.region
      [⟨some 10, .mv (.t 0), none⟩,
        ⟨some 11, .build (rep 4 (.int .i64 0)) [(0, 1, .t 10)], none⟩,
        ⟨some 12, .box (.t 11), none⟩,
        ⟨some 2, .mv (.t 12), none⟩,
        ⟨some 3, .mv (.k (.c (.int .i64 0))), none⟩])
  (.ret))))
theorem t_arena_New : A F_arena_New = some c_arena_New := by kernel_rfl

noncomputable def c_arena_Arena_Reserve : AFn := AFn.mk 56 [.tmp 4, .tmp 5]
  (.seq (.region
      [⟨some 4, .mv (.k (.c (.pnil))), none⟩,
        ⟨some 5, .mv (.k (.c (.int .i64 0))), none⟩])
  (.seq (.block 0
      (.seq (.region
          [⟨some 7, .mv (.t 0), none⟩,
            ⟨some 8, .eq false .ptr (.t 7) (.k (.c (.pnil))), none⟩,
            ⟨some 6, .mv (.t 8), none⟩])
      (.cond (.t 6)
        (.seq (.region
            [⟨some 4, .mv (.k (.c (.pnil))), none⟩,
              ⟨some 5, .mv (.k (.c (.int .i64 11))), none⟩])
        (.ret))
        (.seq (.region
            [⟨some 10, .mv (.t 1), none⟩,
              ⟨some 11, .bin .lss (.t 10) (.k (.c (.int .i64 0))), none⟩,
              ⟨some 9, .mv (.t 11), none⟩])
        (.cond (.t 9)
          (.seq (.region
              [⟨some 4, .mv (.k (.c (.pnil))), none⟩,
                ⟨some 5, .mv (.k (.c (.int .i64 1))), none⟩])
          (.ret))
          (.seq (.draw
              [⟨some 13, .mv (.t 1), none⟩,
                ⟨some 14, .mv (.t 0), none⟩,
                ⟨some 15, .nilCheck (.t 14), none⟩,
                ⟨some 16, .fieldAddr 0 (.t 15), none⟩,
                ⟨some 17, .load1 (.t 16), none⟩,
                ⟨some 18, .mv (.t 0), none⟩,
                ⟨some 19, .nilCheck (.t 18), none⟩,
                ⟨some 20, .fieldAddr 1 (.t 19), none⟩,
                ⟨some 21, .load1 (.t 20), none⟩,
                ⟨some 22, .bin .sub (.t 17) (.t 21), none⟩]
              [⟨some 23, .bin .gtr (.t 13) (.t 22), none⟩,
                ⟨some 12, .mv (.t 23), none⟩])
          (.cond (.t 12)
            (.seq (.region
                [⟨some 4, .mv (.k (.c (.pnil))), none⟩,
                  ⟨some 5, .mv (.k (.c (.int .i64 4))), none⟩])
            (.ret))
            (.skip))))))))
  (.seq (.region
      [⟨some 24, .mv (.t 0), none⟩,
        ⟨some 25, .nilCheck (.t 24), none⟩,
        ⟨some 26, .fieldAddr 1 (.t 25), none⟩,
        ⟨some 27, .load1 (.t 26), none⟩,
        ⟨some 28, .mv (.t 1), none⟩,
        ⟨some 29, .bin .add (.t 27) (.t 28), none⟩,
        ⟨some 30, .nilCheck (.t 24), none⟩,
        ⟨some 31, .fieldAddr 1 (.t 30), none⟩,
        ⟨none, .store 1 (.t 31) (.t 29), none⟩])
  (.seq (.draw
      [⟨some 32, .mv (.t 0), none⟩,
        ⟨some 33, .mv (.t 0), none⟩,
        ⟨some 34, .nilCheck (.t 33), none⟩,
        ⟨some 35, .fieldAddr 2 (.t 34), none⟩,
        ⟨some 36, .load1 (.t 35), none⟩,
        ⟨some 37, .mv (.t 0), none⟩,
        ⟨some 38, .nilCheck (.t 37), none⟩,
        ⟨some 39, .fieldAddr 1 (.t 38), none⟩,
        ⟨some 40, .load1 (.t 39), none⟩,
        ⟨some 41, .max [.t 36, .t 40], none⟩]
      [⟨some 42, .nilCheck (.t 32), none⟩,
        ⟨some 43, .fieldAddr 2 (.t 42), none⟩,
        ⟨none, .store 1 (.t 43) (.t 41), none⟩])
  (.seq (.region
      [⟨some 44, .mv (.t 0), none⟩,
        ⟨some 45, .nilCheck (.t 44), none⟩,
        ⟨some 46, .fieldAddr 3 (.t 45), none⟩,
        ⟨some 47, .load1 (.t 46), none⟩,
        ⟨some 48, .bin .add (.t 47) (.k (.c (.int .i64 1))), none⟩,
        ⟨some 49, .nilCheck (.t 44), none⟩,
        ⟨some 50, .fieldAddr 3 (.t 49), none⟩,
        ⟨none, .store 1 (.t 50) (.t 48), none⟩])
  (.seq (.region
      [⟨some 51, .mv (.t 0), none⟩,
        ⟨some 52, .mv (.t 1), none⟩,
        ⟨some 53, .makeSlice (rep 128 (.int .u64 0)) 1024 (.t 52) (.t 52), none⟩,
        ⟨some 54, .build ([.pnil, .snil, .bool false]) [(0, 1, .t 51), (1, 1, .t 53), (2, 1, .k (.c (.bool true)))], none⟩,
        ⟨some 55, .box (.t 54), none⟩,
        ⟨some 4, .mv (.t 55), none⟩,
        ⟨some 5, .mv (.k (.c (.int .i64 0))), none⟩])
  (.ret)))))))
theorem t_arena_Arena_Reserve : A F_arena_Arena_Reserve = some c_arena_Arena_Reserve := by kernel_rfl

noncomputable def c_arena_Arena_Release : AFn := AFn.mk 65 [.tmp 4]
  (.seq (.region
      [⟨some 4, .mv (.k (.c (.int .i64 0))), none⟩])
  (.seq (.block 0
      (.seq (.region
          [⟨some 7, .mv (.t 0), none⟩,
            ⟨some 8, .eq false .ptr (.t 7) (.k (.c (.pnil))), none⟩,
            ⟨some 9, .mv (.t 8), none⟩,
            ⟨some 10, .mv (.t 1), some (9, false)⟩,
            ⟨some 11, .eq false .ptr (.t 10) (.k (.c (.pnil))), some (9, false)⟩,
            ⟨some 12, .pick (.t 9) (.k (.c (.bool true))) (.t 11), none⟩,
            ⟨some 13, .mv (.t 12), none⟩,
            ⟨some 14, .mv (.t 1), some (13, false)⟩,
            ⟨some 15, .nilCheck (.t 14), some (13, false)⟩,
            ⟨some 16, .fieldAddr 0 (.t 15), some (13, false)⟩,
            ⟨some 17, .load1 (.t 16), some (13, false)⟩,
            ⟨some 18, .mv (.t 0), some (13, false)⟩,
            ⟨some 19, .eq true .ptr (.t 17) (.t 18), some (13, false)⟩,
            ⟨some 20, .pick (.t 13) (.k (.c (.bool true))) (.t 19), none⟩,
            ⟨some 6, .mv (.t 20), none⟩])
      (.cond (.t 6)
        (.seq (.region
            [⟨some 4, .mv (.k (.c (.int .i64 11))), none⟩])
        (.ret))
        (.seq (.region
            [⟨some 22, .mv (.t 1), none⟩,
              ⟨some 23, .nilCheck (.t 22), none⟩,
              ⟨some 24, .fieldAddr 2 (.t 23), none⟩,
              ⟨some 25, .load1 (.t 24), none⟩,
              ⟨some 26, .un .not (.t 25), none⟩,
              ⟨some 21, .mv (.t 26), none⟩])
        (.cond (.t 21)
          (.seq (.region
              [⟨some 4, .mv (.k (.c (.int .i64 12))), none⟩])
          (.ret))
          (.skip))))))
  (.seq (.seq (.region
        [⟨some 27, .mv (.t 1), none⟩,
          ⟨some 28, .nilCheck (.t 27), none⟩,
          ⟨some 29, .fieldAddr 1 (.t 28), none⟩,
          ⟨some 30, .load1 (.t 29), none⟩,
          ⟨some 31, .len false (.t 30), none⟩,
          ⟨some 32, .mv (.k (.c (.int .i64 0))), none⟩])
    (.block 1
      (.loop
        (.seq (.region
            [⟨some 33, .bin .lss (.t 32) (.t 31), none⟩])
        (.seq (.cond (.t 33)
            (.skip)
            (.exit 1))
        (.seq (.block 2
            (.seq (.region
                [⟨some 34, .mv (.t 32), none⟩,
                  ⟨some 5, .mv (.t 34), none⟩])
            (.region
              [⟨some 35, .mv (.t 1), none⟩,
                ⟨some 36, .nilCheck (.t 35), none⟩,
                ⟨some 37, .fieldAddr 1 (.t 36), none⟩,
                ⟨some 38, .load1 (.t 37), none⟩,
                ⟨some 39, .mv (.t 5), none⟩,
                ⟨some 40, .build (rep 128 (.int .u64 0)) [], none⟩,
                ⟨some 41, .idxSlc 128 (.t 38) (.t 39), none⟩,
                ⟨none, .store 128 (.t 41) (.t 40), none⟩])))
        (.region
          [⟨some 42, .bin .add (.t 32) (.k (.c (.int .i64 1))), none⟩,
            ⟨some 32, .mv (.t 42), none⟩])))))))
  (.seq (.region
      [⟨some 43, .mv (.t 1), none⟩,
        ⟨some 44, .nilCheck (.t 43), none⟩,
        ⟨some 45, .fieldAddr 2 (.t 44), none⟩,
        ⟨none, .store 1 (.t 45) (.k (.c (.bool false))), none⟩])
  (.seq (.draw
      [⟨some 46, .mv (.t 0), none⟩,
        ⟨some 47, .nilCheck (.t 46), none⟩,
        ⟨some 48, .fieldAddr 1 (.t 47), none⟩,
        ⟨some 49, .load1 (.t 48), none⟩,
        ⟨some 50, .mv (.t 1), none⟩,
        ⟨some 51, .nilCheck (.t 50), none⟩,
        ⟨some 52, .fieldAddr 1 (.t 51), none⟩,
        ⟨some 53, .load1 (.t 52), none⟩,
        ⟨some 54, .len false (.t 53), none⟩]
      [⟨some 55, .bin .sub (.t 49) (.t 54), none⟩,
        ⟨some 56, .nilCheck (.t 46), none⟩,
        ⟨some 57, .fieldAddr 1 (.t 56), none⟩,
        ⟨none, .store 1 (.t 57) (.t 55), none⟩])
  (.seq (.region
      [⟨some 58, .mv (.t 0), none⟩,
        ⟨some 59, .nilCheck (.t 58), none⟩,
        ⟨some 60, .fieldAddr 3 (.t 59), none⟩,
        ⟨some 61, .load1 (.t 60), none⟩,
        ⟨some 62, .bin .sub (.t 61) (.k (.c (.int .i64 1))), none⟩,
        ⟨some 63, .nilCheck (.t 58), none⟩,
        ⟨some 64, .fieldAddr 3 (.t 63), none⟩,
        ⟨none, .store 1 (.t 64) (.t 62), none⟩])
  (.seq (.region
      [⟨some 4, .mv (.k (.c (.int .i64 0))), none⟩])
  (.ret))))))))
theorem t_arena_Arena_Release : A F_arena_Arena_Release = some c_arena_Arena_Release := by kernel_rfl

noncomputable def c_arena_Arena_Used : AFn := AFn.mk 9 [.tmp 2]
  (.seq (.region
      [⟨some 2, .mv (.k (.c (.int .i64 0))), none⟩])
  (.seq (.seq (.region
        [⟨some 3, .mv (.t 0), none⟩,
          ⟨some 4, .eq false .ptr (.t 3) (.k (.c (.pnil))), none⟩])
    (.cond (.t 4)
      (.seq (.region
          [⟨some 2, .mv (.k (.c (.int .i64 0))), none⟩])
      (.ret))
      (.skip)))
  (.seq (.region
      [⟨some 5, .mv (.t 0), none⟩,
        ⟨some 6, .nilCheck (.t 5), none⟩,
        ⟨some 7, .fieldAddr 1 (.t 6), none⟩,
        ⟨some 8, .load1 (.t 7), none⟩,
        ⟨some 2, .mv (.t 8), none⟩])
  (.ret))))
theorem t_arena_Arena_Used : A F_arena_Arena_Used = some c_arena_Arena_Used := by kernel_rfl

noncomputable def c_arena_Piece_At : AFn := AFn.mk 33 [.tmp 4]
  (.seq (.region
      [⟨some 4, .mv (.k (.c (.pnil))), none⟩])
  (.seq (.seq (.region
        [⟨some 5, .mv (.t 0), none⟩,
          ⟨some 6, .eq false .ptr (.t 5) (.k (.c (.pnil))), none⟩,
          ⟨some 7, .mv (.t 6), none⟩,
          ⟨some 8, .mv (.t 0), some (7, false)⟩,
          ⟨some 9, .nilCheck (.t 8), some (7, false)⟩,
          ⟨some 10, .fieldAddr 2 (.t 9), some (7, false)⟩,
          ⟨some 11, .load1 (.t 10), some (7, false)⟩,
          ⟨some 12, .un .not (.t 11), some (7, false)⟩,
          ⟨some 13, .pick (.t 7) (.k (.c (.bool true))) (.t 12), none⟩,
          ⟨some 14, .mv (.t 13), none⟩,
          ⟨some 15, .mv (.t 1), some (14, false)⟩,
          ⟨some 16, .bin .lss (.t 15) (.k (.c (.int .i64 0))), some (14, false)⟩,
          ⟨some 17, .pick (.t 14) (.k (.c (.bool true))) (.t 16), none⟩,
          ⟨some 18, .mv (.t 17), none⟩,
          ⟨some 19, .mv (.t 1), some (18, false)⟩,
          ⟨some 20, .mv (.t 0), some (18, false)⟩,
          ⟨some 21, .nilCheck (.t 20), some (18, false)⟩,
          ⟨some 22, .fieldAddr 1 (.t 21), some (18, false)⟩,
          ⟨some 23, .load1 (.t 22), some (18, false)⟩,
          ⟨some 24, .len false (.t 23), some (18, false)⟩,
          ⟨some 25, .bin .geq (.t 19) (.t 24), some (18, false)⟩,
          ⟨some 26, .pick (.t 18) (.k (.c (.bool true))) (.t 25), none⟩])
    (.cond (.t 26)
      (.seq (.region
          [⟨some 4, .mv (.k (.c (.pnil))), none⟩])
      (.ret))
      (.skip)))
  (.seq (.region
      [⟨some 27, .mv (.t 0), none⟩,
        ⟨some 28, .nilCheck (.t 27), none⟩,
        ⟨some 29, .fieldAddr 1 (.t 28), none⟩,
        ⟨some 30, .load1 (.t 29), none⟩,
        ⟨some 31, .mv (.t 1), none⟩,
        ⟨some 32, .idxSlc 128 (.t 30) (.t 31), none⟩,
        ⟨some 4, .mv (.t 32), none⟩])
  (.ret))))
theorem t_arena_Piece_At : A F_arena_Piece_At = some c_arena_Piece_At := by kernel_rfl

noncomputable def c_arena_Piece_Len : AFn := AFn.mk 10 [.tmp 2]
  (.seq (.region
      [⟨some 2, .mv (.k (.c (.int .i64 0))), none⟩])
  (.seq (.seq (.region
        [⟨some 3, .mv (.t 0), none⟩,
          ⟨some 4, .eq false .ptr (.t 3) (.k (.c (.pnil))), none⟩])
    (.cond (.t 4)
      (.seq (.region
          [⟨some 2, .mv (.k (.c (.int .i64 0))), none⟩])
      (.ret))
      (.skip)))
  (.seq (.region
      [⟨some 5, .mv (.t 0), none⟩,
        ⟨some 6, .nilCheck (.t 5), none⟩,
        ⟨some 7, .fieldAddr 1 (.t 6), none⟩,
        ⟨some 8, .load1 (.t 7), none⟩,
        ⟨some 9, .len false (.t 8), none⟩,
        ⟨some 2, .mv (.t 9), none⟩])
  (.ret))))
theorem t_arena_Piece_Len : A F_arena_Piece_Len = some c_arena_Piece_Len := by kernel_rfl
end PK

/- Package arena: what it lends, and takes back. -/
namespace PK
open Go PAbs
set_option linter.unusedSimpArgs false
set_option linter.unusedVariables false
set_option maxRecDepth 100000
set_option maxHeartbeats 4000000

def arC (b u h l : Nat) : List Cell := [.int .i64 (b : Int), .int .i64 (u : Int), .int .i64 (h : Int), .int .i64 (l : Int)]
def zB (n : Nat) : List Cell := List.replicate (n * 128) (.int .u64 0)
theorem zB_length (n : Nat) : (zB n).length = n * 128 := by simp [zB]
theorem zB_flat : ∀ n : Nat, (List.replicate n (rep 128 (Cell.int .u64 0))).flatten = zB n
  | 0 => rfl
  | n + 1 => by
    rw [List.replicate_succ, List.flatten_cons, zB_flat n]
    simp only [zB, rep]
    rw [List.replicate_append_replicate]; congr 1; omega
structure PieceAt (H : AHeap) (p a q n : Nat) (live : Bool) (cs : List Cell) : Prop where
  own : hown H p = some [.ptr a 0, .slc q 0 n 128, .bool live]
  blk : hown H q = some cs
  len : cs.length = n * 128
  pq : p ≠ q
  pa : p ≠ a
  qa : q ≠ a
theorem PieceAt.chg {S : Nat → Prop} {H H' : AHeap} {p a q n : Nat} {live : Bool} {cs : List Cell} (h : PieceAt H p a q n live cs) (hc : Chg S H H') (hp : ¬ S p) (hq : ¬ S q) : PieceAt H' p a q n live cs :=
  ⟨hc.hown hp h.own, hc.hown hq h.blk, h.len, h.pq, h.pa, h.qa⟩
theorem PieceAt.kept {H H' : AHeap} {p a q n : Nat} {live : Bool} {cs : List Cell} (h : PieceAt H p a q n live cs) (k : Kept H.length H H') : PieceAt H' p a q n live cs := h.chg (Chg.of_kept k) (fun h => h) (fun h => h)

section
variable (fl : Nat) (H : AHeap)
theorem AC_arNew (n : Nat) (h : n ≤ 4194304) : AC A fl F_arena_New [.c (.int .i64 (n : Int))] H (fun v H' => v = .tup [.c (.ptr H.length 0), .c (.int .i64 0)] ∧ H' = H ++ [.own (arC n 0 0 0)]) := by
  refine AC_enter t_arena_New ?_; simp only [c_arena_New, enterA, List.replicate, List.length_cons, List.length_nil, Nat.reduceAdd, Nat.reduceSub, List.cons_append, List.nil_append]
  (repeat (first | refine GOS ?_ | (with_reducible (first | apply AO_any | apply AHd_any | apply AP_go | apply AHP_go); focus (simp only [Sm, wantedA, execA, stepA, List.getElem?_cons_zero, List.getElem?_cons_succ, if_true, if_false, binA, binInt, unA, eqA, Option.map, eq_self, reduceCtorEq, ite_true, ite_false, cellsAV, fitsAll, CK.fits, fillA, AV.cells, writeN, sliceCells, appendA, lenA, i64, loA, hiA, Nat.reduceAdd, Nat.reduceMul, Nat.reduceDiv, Nat.reduceSub, Nat.reduceLeDiff, Nat.reduceLT, Int.reduceLE, Int.reduceLT, foldA, maxA, minA, Int.reduceBEq, Int.reduceBNe, Int.reduceGT, Int.reduceGE, Int.reduceEq, Int.reduceNe, Int.reduceToNat, AOp.stops, ↓want_eq, ↓exec_lenX, ↓exec_storeX, ↓exec_storeN, storeN_one, ↓exec_bsX, ↓exec_sliceX, ↓exec_copyX, ↓exec_appNil, ↓exec_carryX, Nat.sub_zero, rep_len, decide_eq_false (show ¬ ((n : Nat) : Int) < 0 by omega), decide_eq_false (show ¬ ((n : Nat) : Int) > 4194304 by omega), rep, List.replicate]; with_reducible first | exact EqP.at_ | exact EqP.cont | exact EqP.hcont | exact EqP.gate | exact EqP.hgate))))
  exact AW_ret ⟨_, rfl, rfl, rfl⟩
theorem AC_arUsed (a b u h l : Nat) (ho : hown H a = some (arC b u h l)) : AC A fl F_arena_Arena_Used [.c (.ptr a 0)] H (fun v H' => v = .c (.int .i64 (u : Int)) ∧ H = H') := by
  have hc := hcells_own ho
  rw [arC] at hc
  refine AC_enter t_arena_Arena_Used ?_; simp only [c_arena_Arena_Used, enterA, List.replicate, List.length_cons, List.length_nil, Nat.reduceAdd, Nat.reduceSub, List.cons_append, List.nil_append]
  (repeat (first | refine GOS ?_ | (with_reducible (first | apply AO_any | apply AHd_any | apply AP_go | apply AHP_go); focus (simp only [Sm, wantedA, execA, stepA, List.getElem?_cons_zero, List.getElem?_cons_succ, if_true, if_false, binA, binInt, unA, eqA, Option.map, eq_self, reduceCtorEq, ite_true, ite_false, cellsAV, fitsAll, CK.fits, fillA, AV.cells, writeN, sliceCells, appendA, lenA, i64, loA, hiA, Nat.reduceAdd, Nat.reduceMul, Nat.reduceDiv, Nat.reduceSub, Nat.reduceLeDiff, Nat.reduceLT, Int.reduceLE, Int.reduceLT, foldA, maxA, minA, Int.reduceBEq, Int.reduceBNe, Int.reduceGT, Int.reduceGE, Int.reduceEq, Int.reduceNe, Int.reduceToNat, AOp.stops, ↓want_eq, ↓exec_lenX, ↓exec_storeX, ↓exec_storeN, storeN_one, ↓exec_bsX, ↓exec_sliceX, ↓exec_copyX, ↓exec_appNil, ↓exec_carryX, Nat.sub_zero, rep_len, hc]; with_reducible first | exact EqP.at_ | exact EqP.cont | exact EqP.hcont | exact EqP.gate | exact EqP.hgate))))
  exact AW_ret ⟨_, rfl, rfl, rfl⟩
theorem AC_pcLen (p a q n : Nat) (live : Bool) (cs : List Cell) (hp : PieceAt H p a q n live cs) : AC A fl F_arena_Piece_Len [.c (.ptr p 0)] H (fun v H' => v = .c (.int .i64 (n : Int)) ∧ H = H') := by
  have hc := hcells_own hp.own
  have hq := hcells_own hp.blk
  refine AC_enter t_arena_Piece_Len ?_; simp only [c_arena_Piece_Len, enterA, List.replicate, List.length_cons, List.length_nil, Nat.reduceAdd, Nat.reduceSub, List.cons_append, List.nil_append]
  (repeat (first | refine GOS ?_ | (with_reducible (first | apply AO_any | apply AHd_any | apply AP_go | apply AHP_go); focus (simp only [Sm, wantedA, execA, stepA, List.getElem?_cons_zero, List.getElem?_cons_succ, if_true, if_false, binA, binInt, unA, eqA, Option.map, eq_self, reduceCtorEq, ite_true, ite_false, cellsAV, fitsAll, CK.fits, fillA, AV.cells, writeN, sliceCells, appendA, lenA, i64, loA, hiA, Nat.reduceAdd, Nat.reduceMul, Nat.reduceDiv, Nat.reduceSub, Nat.reduceLeDiff, Nat.reduceLT, Int.reduceLE, Int.reduceLT, foldA, maxA, minA, Int.reduceBEq, Int.reduceBNe, Int.reduceGT, Int.reduceGE, Int.reduceEq, Int.reduceNe, Int.reduceToNat, AOp.stops, ↓want_eq, ↓exec_lenX, ↓exec_storeX, ↓exec_storeN, storeN_one, ↓exec_bsX, ↓exec_sliceX, ↓exec_copyX, ↓exec_appNil, ↓exec_carryX, Nat.sub_zero, rep_len, hc, hq]; with_reducible first | exact EqP.at_ | exact EqP.cont | exact EqP.hcont | exact EqP.gate | exact EqP.hgate))))
  exact AW_ret ⟨_, rfl, rfl, rfl⟩
theorem AC_pcAt_bad (p a q n : Nat) (live : Bool) (cs : List Cell) (i : Int) (hp : PieceAt H p a q n live cs) (hb : live = false ∨ i < 0 ∨ (n : Int) ≤ i) : AC A fl F_arena_Piece_At [.c (.ptr p 0), .c (.int .i64 i)] H (fun v H' => v = .c .pnil ∧ H = H') := by
  have hc := hcells_own hp.own
  have hq := hcells_own hp.blk
  refine AC_enter t_arena_Piece_At ?_; simp only [c_arena_Piece_At, enterA, List.replicate, List.length_cons, List.length_nil, Nat.reduceAdd, Nat.reduceSub, List.cons_append, List.nil_append]
  cases live with
  | false =>
    (repeat (first | refine GOS ?_ | (with_reducible (first | apply AO_any | apply AHd_any | apply AP_go | apply AHP_go); focus (simp only [Sm, wantedA, execA, stepA, List.getElem?_cons_zero, List.getElem?_cons_succ, if_true, if_false, binA, binInt, unA, eqA, Option.map, eq_self, reduceCtorEq, ite_true, ite_false, cellsAV, fitsAll, CK.fits, fillA, AV.cells, writeN, sliceCells, appendA, lenA, i64, loA, hiA, Nat.reduceAdd, Nat.reduceMul, Nat.reduceDiv, Nat.reduceSub, Nat.reduceLeDiff, Nat.reduceLT, Int.reduceLE, Int.reduceLT, foldA, maxA, minA, Int.reduceBEq, Int.reduceBNe, Int.reduceGT, Int.reduceGE, Int.reduceEq, Int.reduceNe, Int.reduceToNat, AOp.stops, ↓want_eq, ↓exec_lenX, ↓exec_storeX, ↓exec_storeN, storeN_one, ↓exec_bsX, ↓exec_sliceX, ↓exec_copyX, ↓exec_appNil, ↓exec_carryX, Nat.sub_zero, rep_len, hc, hq]; with_reducible first | exact EqP.at_ | exact EqP.cont | exact EqP.hcont | exact EqP.gate | exact EqP.hgate))))
    exact AW_ret ⟨_, rfl, rfl, rfl⟩
  | true =>
    by_cases h1 : i < 0
    · (repeat (first | refine GOS ?_ | (with_reducible (first | apply AO_any | apply AHd_any | apply AP_go | apply AHP_go); focus (simp only [Sm, wantedA, execA, stepA, List.getElem?_cons_zero, List.getElem?_cons_succ, if_true, if_false, binA, binInt, unA, eqA, Option.map, eq_self, reduceCtorEq, ite_true, ite_false, cellsAV, fitsAll, CK.fits, fillA, AV.cells, writeN, sliceCells, appendA, lenA, i64, loA, hiA, Nat.reduceAdd, Nat.reduceMul, Nat.reduceDiv, Nat.reduceSub, Nat.reduceLeDiff, Nat.reduceLT, Int.reduceLE, Int.reduceLT, foldA, maxA, minA, Int.reduceBEq, Int.reduceBNe, Int.reduceGT, Int.reduceGE, Int.reduceEq, Int.reduceNe, Int.reduceToNat, AOp.stops, ↓want_eq, ↓exec_lenX, ↓exec_storeX, ↓exec_storeN, storeN_one, ↓exec_bsX, ↓exec_sliceX, ↓exec_copyX, ↓exec_appNil, ↓exec_carryX, Nat.sub_zero, rep_len, hc, hq, decide_eq_true h1]; with_reducible first | exact EqP.at_ | exact EqP.cont | exact EqP.hcont | exact EqP.gate | exact EqP.hgate))))
      exact AW_ret ⟨_, rfl, rfl, rfl⟩
    · have h2 : i ≥ (n : Int) := by rcases hb with h | h | h; cases h; exact absurd h h1; exact h
      (repeat (first | refine GOS ?_ | (with_reducible (first | apply AO_any | apply AHd_any | apply AP_go | apply AHP_go); focus (simp only [Sm, wantedA, execA, stepA, List.getElem?_cons_zero, List.getElem?_cons_succ, if_true, if_false, binA, binInt, unA, eqA, Option.map, eq_self, reduceCtorEq, ite_true, ite_false, cellsAV, fitsAll, CK.fits, fillA, AV.cells, writeN, sliceCells, appendA, lenA, i64, loA, hiA, Nat.reduceAdd, Nat.reduceMul, Nat.reduceDiv, Nat.reduceSub, Nat.reduceLeDiff, Nat.reduceLT, Int.reduceLE, Int.reduceLT, foldA, maxA, minA, Int.reduceBEq, Int.reduceBNe, Int.reduceGT, Int.reduceGE, Int.reduceEq, Int.reduceNe, Int.reduceToNat, AOp.stops, ↓want_eq, ↓exec_lenX, ↓exec_storeX, ↓exec_storeN, storeN_one, ↓exec_bsX, ↓exec_sliceX, ↓exec_copyX, ↓exec_appNil, ↓exec_carryX, Nat.sub_zero, rep_len, hc, hq, decide_eq_false h1, decide_eq_true h2]; with_reducible first | exact EqP.at_ | exact EqP.cont | exact EqP.hcont | exact EqP.gate | exact EqP.hgate))))
      exact AW_ret ⟨_, rfl, rfl, rfl⟩
theorem AC_pcAt (p a q n i : Nat) (cs : List Cell) (hp : PieceAt H p a q n true cs) (hi : i < n) : AC A fl F_arena_Piece_At [.c (.ptr p 0), .c (.int .i64 (i : Int))] H (fun v H' => v = .c (.ptr q (i * 128)) ∧ H = H') := by
  have hc := hcells_own hp.own
  have hq := hcells_own hp.blk
  have h1 : (i : Int) < (n : Int) := by omega
  refine AC_enter t_arena_Piece_At ?_; simp only [c_arena_Piece_At, enterA, List.replicate, List.length_cons, List.length_nil, Nat.reduceAdd, Nat.reduceSub, List.cons_append, List.nil_append]
  (repeat (first | refine GOS ?_ | (with_reducible (first | apply AO_any | apply AHd_any | apply AP_go | apply AHP_go); focus (simp only [Sm, wantedA, execA, stepA, List.getElem?_cons_zero, List.getElem?_cons_succ, if_true, if_false, binA, binInt, unA, eqA, Option.map, eq_self, reduceCtorEq, ite_true, ite_false, cellsAV, fitsAll, CK.fits, fillA, AV.cells, writeN, sliceCells, appendA, lenA, i64, loA, hiA, Nat.reduceAdd, Nat.reduceMul, Nat.reduceDiv, Nat.reduceSub, Nat.reduceLeDiff, Nat.reduceLT, Int.reduceLE, Int.reduceLT, foldA, maxA, minA, Int.reduceBEq, Int.reduceBNe, Int.reduceGT, Int.reduceGE, Int.reduceEq, Int.reduceNe, Int.reduceToNat, AOp.stops, ↓want_eq, ↓exec_lenX, ↓exec_storeX, ↓exec_storeN, storeN_one, ↓exec_bsX, ↓exec_sliceX, ↓exec_copyX, ↓exec_appNil, ↓exec_carryX, Nat.sub_zero, rep_len, hc, hq, decide_eq_false (show ¬ ((i : Nat) : Int) < 0 by omega), decide_eq_false (show ¬ ((i : Nat) : Int) ≥ (n : Int) by omega), h1]; with_reducible first | exact EqP.at_ | exact EqP.cont | exact EqP.hcont | exact EqP.gate | exact EqP.hgate))))
  exact AW_ret ⟨_, rfl, rfl, rfl⟩
theorem AC_arReserve_nil (z : Int) : AC A fl F_arena_Arena_Reserve [.c .pnil, .c (.int .i64 z)] H (fun v H' => v = .tup [.c .pnil, .c (.int .i64 11)] ∧ H = H') := by
  refine AC_enter t_arena_Arena_Reserve ?_; simp only [c_arena_Arena_Reserve, enterA, List.replicate, List.length_cons, List.length_nil, Nat.reduceAdd, Nat.reduceSub, List.cons_append, List.nil_append]
  refine GO ?_
  exact AW_ret ⟨_, rfl, rfl, rfl⟩
theorem AC_arReserve (a b u h l n : Nat) (ho : hown H a = some (arC b u h l)) (hf : fl ≤ a) (hfH : fl ≤ H.length) (hb : b ≤ 4194304) (hu : u ≤ b) (hh : h ≤ 4194304) (hl : l ≤ 1000000) (hn : n ≤ b - u) :
    AC A fl F_arena_Arena_Reserve [.c (.ptr a 0), .c (.int .i64 (n : Int))] H (fun v H' => v = .tup [.c (.ptr (H.length + 1) 0), .c (.int .i64 0)] ∧ PieceAt H' (H.length + 1) a H.length n true (zB n) ∧ hown H' a = some (arC b (u + n) (max h (u + n)) (l + 1)) ∧ Chg (· = a) H H' ∧ H'.length = H.length + 2) := by
  have hc := hcells_own ho
  rw [arC] at hc ho
  have hal := hown_lt ho
  have e1 : IntKind.i64.wrap ((b : Int) - (u : Int)) = ((b - u : Nat) : Int) := by rw [i64_of (by omega) (by omega)]; omega
  have e2 : IntKind.i64.wrap ((u : Int) + (n : Int)) = ((u + n : Nat) : Int) := i64_add (by omega)
  have e3 : IntKind.i64.wrap ((l : Int) + 1) = ((l + 1 : Nat) : Int) := i64_succ (by omega)
  obtain ⟨H1, s1, o1, c1, l1⟩ := storeX_ex (o := 1) ho hf (by simp) (.int .i64 ((u + n : Nat) : Int))
  simp only [List.set_cons_succ, List.set_cons_zero] at o1
  have hc1 := hcells_own o1
  have em : (if ((u + n : Nat) : Int) > (h : Int) then ((u + n : Nat) : Int) else (h : Int)) = ((max h (u + n) : Nat) : Int) := by
    split
    · rw [Nat.max_eq_right (by omega)]
    · rw [Nat.max_eq_left (by omega)]
  obtain ⟨H2, s2, o2, c2, l2⟩ := storeX_ex (o := 2) o1 hf (by simp) (.int .i64 ((max h (u + n) : Nat) : Int))
  simp only [List.set_cons_succ, List.set_cons_zero] at o2
  have hc2 := hcells_own o2
  obtain ⟨H3, s3, o3, c3, l3⟩ := storeX_ex (o := 3) o2 hf (by simp) (.int .i64 ((l + 1 : Nat) : Int))
  simp only [List.set_cons_succ, List.set_cons_zero] at o3
  have b1 : (0 : Int) ≤ ((n : Nat) : Int) := by omega
  have b2 : ((n : Nat) : Int) * (1024 : Nat) ≤ 140737488355328 := by omega
  have b2' : ((n : Nat) : Int) * 1024 ≤ 140737488355328 := by omega
  have hz := zB_flat n
  refine AC_enter t_arena_Arena_Reserve ?_; simp only [c_arena_Arena_Reserve, enterA, List.replicate, List.length_cons, List.length_nil, Nat.reduceAdd, Nat.reduceSub, List.cons_append, List.nil_append]
  (repeat (first | refine GOS ?_ | (with_reducible (first | apply AO_any | apply AHd_any | apply AP_go | apply AHP_go); focus (simp only [Sm, wantedA, execA, stepA, List.getElem?_cons_zero, List.getElem?_cons_succ, if_true, if_false, binA, binInt, unA, eqA, Option.map, eq_self, reduceCtorEq, ite_true, ite_false, cellsAV, fitsAll, CK.fits, fillA, AV.cells, writeN, sliceCells, appendA, lenA, i64, loA, hiA, Nat.reduceAdd, Nat.reduceMul, Nat.reduceDiv, Nat.reduceSub, Nat.reduceLeDiff, Nat.reduceLT, Int.reduceLE, Int.reduceLT, foldA, maxA, minA, Int.reduceBEq, Int.reduceBNe, Int.reduceGT, Int.reduceGE, Int.reduceEq, Int.reduceNe, Int.reduceToNat, AOp.stops, ↓want_eq, ↓exec_lenX, ↓exec_storeX, ↓exec_storeN, storeN_one, ↓exec_bsX, ↓exec_sliceX, ↓exec_copyX, ↓exec_appNil, ↓exec_carryX, Nat.sub_zero, rep_len, hc, decide_eq_false (show ¬ ((n : Nat) : Int) < 0 by omega), e1, e2, decide_eq_false (show ¬ ((n : Nat) : Int) > ((b - u : Nat) : Int) by omega), s1, hc1, em, s2, hc2, e3, s3, b1, b2, b2', hz, Int.le_refl, Int.toNat_natCast]; with_reducible first | exact EqP.at_ | exact EqP.cont | exact EqP.hcont | exact EqP.gate | exact EqP.hgate))))
  have c13 : Chg (· = a) H H3 := (c1.trans c2 fun _ _ h => h).trans c3 fun _ _ h => h
  have l03 : H3.length = H.length := by omega
  refine AW_ret ⟨_, rfl, ?_⟩
  rw [l03]
  refine ⟨rfl, ⟨?_, ?_, zB_length n, by omega, by omega, by omega⟩, ?_, (c13.trans (Chg.push (· = a) _ _) fun _ _ h => h).trans (Chg.push (· = a) _ _) fun _ _ h => h, by simp [l03]⟩
  · have := hown_last (H := H3 ++ [Blk.own (zB n)]) (cs := [.ptr a 0, .slc H.length 0 n 128, .bool true])
    simpa [l03] using this
  · have := hown_app (l := [Blk.own [Cell.ptr a 0, .slc H.length 0 n 128, .bool true]]) (hown_last (H := H3) (cs := zB n))
    simpa [l03] using this
  · exact hown_app (hown_app o3)
end
end PK

/- Package arena: Release. -/
namespace PK
open Go PAbs
set_option linter.unusedSimpArgs false
set_option linter.unusedVariables false
set_option maxRecDepth 100000
set_option maxHeartbeats 4000000

theorem storeN_at {n fl q o : Nat} {H : AHeap} {cs vs : List Cell} (hb : hown H q = some cs) (hf : fl ≤ q) (hv : vs.length = n) (ho : o + n ≤ cs.length) :
    storeN n fl H (.c (.ptr q o)) (.agg vs) = some (aundef, H.set q (.own (putL cs o vs))) := by
  simp only [storeN, AV.cells, writeN, hb, hv, if_true]
  rw [if_pos ⟨hf, ho⟩]; simp [putL, hv]
theorem storeN_at_ex {n fl q o : Nat} {H : AHeap} {cs vs : List Cell} (hb : hown H q = some cs) (hf : fl ≤ q) (hv : vs.length = n) (ho : o + n ≤ cs.length) :
    ∃ H', storeN n fl H (.c (.ptr q o)) (.agg vs) = some (aundef, H') ∧ hown H' q = some (putL cs o vs) ∧ Chg (· = q) H H' ∧ H'.length = H.length :=
  ⟨_, storeN_at hb hf hv ho, hown_set (hown_lt hb), Chg.set rfl, by simp⟩
theorem putL_mid {α : Type} {a b m : List α} {o : Nat} (h : a.length = o) : putL (a ++ b) o m = a ++ m ++ b.drop m.length := by
  subst h
  simp only [putL, List.take_left, List.drop_append]
  rw [List.drop_eq_nil_of_le (by omega)]
  simp
theorem zB_succ (n : Nat) : zB n ++ rep 128 (.int .u64 0) = zB (n + 1) := by
  simp only [zB, rep, List.replicate_append_replicate]; congr 1; omega
def clrB (cs : List Cell) (i : Nat) : List Cell := zB i ++ cs.drop (i * 128)
theorem clrB_length {cs : List Cell} {n i : Nat} (h : cs.length = n * 128) (hi : i ≤ n) : (clrB cs i).length = n * 128 := by
  have : i * 128 ≤ n * 128 := Nat.mul_le_mul_right _ hi
  simp only [clrB, List.length_append, zB_length, List.length_drop]; omega
theorem clrB_succ (cs : List Cell) (i : Nat) : putL (clrB cs i) (i * 128) (rep 128 (.int .u64 0)) = clrB cs (i + 1) := by
  rw [clrB, putL_mid (zB_length i), zB_succ, clrB, rep_len, List.drop_drop]
  congr 2; omega
theorem clrB_all {cs : List Cell} {n : Nat} (h : cs.length = n * 128) : clrB cs n = zB n := by
  rw [clrB, List.drop_eq_nil_of_le (by omega), List.append_nil]

section
variable (fl : Nat) (H : AHeap)
def rlI (a p q n : Nat) (cs : List Cell) (H0 : AHeap) (i : Nat) (fr : AFrame) (H : AHeap) : Prop := Chg (· = q) H0 H ∧ hown H q = some (clrB cs i) ∧ (∃ s : Nat → AV, fr = [.c (.ptr a 0), .c (.ptr p 0), s 2, s 3, s 4, s 5, s 6, s 7, s 8, s 9, s 10, s 11, s 12, s 13, s 14, s 15, s 16, s 17, s 18, s 19, s 20, s 21, s 22, s 23, s 24, s 25, s 26, s 27, s 28, s 29, s 30, .c (.int .i64 (n : Int)), .c (.int .i64 (i : Int)), s 33, s 34, s 35, s 36, s 37, s 38, s 39, s 40, s 41, s 42, s 43, s 44, s 45, s 46, s 47, s 48, s 49, s 50, s 51, s 52, s 53, s 54, s 55, s 56, s 57, s 58, s 59, s 60, s 61, s 62, s 63, s 64])
theorem AC_arRelease (a b u h l p q n : Nat) (cs : List Cell) (ho : hown H a = some (arC b u h l)) (hp : PieceAt H p a q n true cs) (hfa : fl ≤ a) (hfp : fl ≤ p) (hfq : fl ≤ q) (hu : u ≤ 4194304) (hn : n ≤ u) (hl : 1 ≤ l) (hl2 : l ≤ 1000000) :
    AC A fl F_arena_Arena_Release [.c (.ptr a 0), .c (.ptr p 0)] H (fun v H' => v = .c (.int .i64 0) ∧ hown H' a = some (arC b (u - n) h (l - 1)) ∧ PieceAt H' p a q n false (zB n) ∧ Chg (fun b => b = a ∨ b = p ∨ b = q) H H') := by
  have hc := hcells_own ho
  have hcp := hcells_own hp.own
  have hcq := hcells_own hp.blk
  have hpq := hp.pq; have hpa := hp.pa; have hqa := hp.qa
  refine AC_enter t_arena_Arena_Release ?_; simp only [c_arena_Arena_Release, enterA, List.replicate, List.length_cons, List.length_nil, Nat.reduceAdd, Nat.reduceSub, List.cons_append, List.nil_append]
  (repeat (first | refine GOS ?_ | (with_reducible (first | apply AO_any | apply AHd_any | apply AP_go | apply AHP_go); focus (simp only [Sm, wantedA, execA, stepA, List.getElem?_cons_zero, List.getElem?_cons_succ, if_true, if_false, binA, binInt, unA, eqA, Option.map, eq_self, reduceCtorEq, ite_true, ite_false, cellsAV, fitsAll, CK.fits, fillA, AV.cells, writeN, sliceCells, appendA, lenA, i64, loA, hiA, Nat.reduceAdd, Nat.reduceMul, Nat.reduceDiv, Nat.reduceSub, Nat.reduceLeDiff, Nat.reduceLT, Int.reduceLE, Int.reduceLT, foldA, maxA, minA, Int.reduceBEq, Int.reduceBNe, Int.reduceGT, Int.reduceGE, Int.reduceEq, Int.reduceNe, Int.reduceToNat, AOp.stops, ↓want_eq, ↓exec_lenX, ↓exec_storeX, ↓exec_storeN, storeN_one, ↓exec_bsX, ↓exec_sliceX, ↓exec_copyX, ↓exec_appNil, ↓exec_carryX, Nat.sub_zero, rep_len, hc, hcp, hcq]; with_reducible first | exact EqP.at_ | exact EqP.cont | exact EqP.hcont | exact EqP.gate | exact EqP.hgate))))
  refine AW_mid (fun e fr H' => e = .normal ∧ rlI a p q n cs H n fr H') ?_ ?_
  · refine AW_block (AW_up (rlI a p q n cs H) n ⟨Chg.refl _ _, by simpa [clrB, zB] using hp.blk, stale _ _ rfl⟩ ?_)
    rintro i fr H1 hi ⟨c1, o1, st, rfl⟩
    refine GO ?_
    refine AW_cond rfl ?_ ?_ <;> intro ht
    · have ht : (i : Int) < (n : Int) := of_decide_eq_true ht
      have hi2 : i < n := by omega
      have hcp1 := hcells_own (c1.hown hpq hp.own)
      have hcq1 := hcells_own o1
      have him : (i + 1) * 128 ≤ n * 128 := Nat.mul_le_mul_right _ hi2
      obtain ⟨H2, s2, o2, c2, l2⟩ := storeN_at_ex (n := 128) (o := i * 128) (vs := rep 128 (.int .u64 0)) o1 hfq rep_len (by rw [clrB_length hp.len hi]; omega)
      rw [clrB_succ] at o2
      have esc := i64_succ (show i < 9223372036854775807 by have := hn; omega)
      (repeat (first | refine GOS ?_ | (with_reducible (first | apply AO_any | apply AHd_any | apply AP_go | apply AHP_go); focus (simp only [Sm, wantedA, execA, stepA, List.getElem?_cons_zero, List.getElem?_cons_succ, if_true, if_false, binA, binInt, unA, eqA, Option.map, eq_self, reduceCtorEq, ite_true, ite_false, cellsAV, fitsAll, CK.fits, fillA, AV.cells, writeN, sliceCells, appendA, lenA, i64, loA, hiA, Nat.reduceAdd, Nat.reduceMul, Nat.reduceDiv, Nat.reduceSub, Nat.reduceLeDiff, Nat.reduceLT, Int.reduceLE, Int.reduceLT, foldA, maxA, minA, Int.reduceBEq, Int.reduceBNe, Int.reduceGT, Int.reduceGE, Int.reduceEq, Int.reduceNe, Int.reduceToNat, AOp.stops, ↓want_eq, ↓exec_lenX, ↓exec_storeX, ↓exec_storeN, storeN_one, ↓exec_bsX, ↓exec_sliceX, ↓exec_copyX, ↓exec_appNil, ↓exec_carryX, Nat.sub_zero, rep_len, hcp1, hcq1, ht, Nat.zero_add, s2, esc]; with_reducible first | exact EqP.at_ | exact EqP.cont | exact EqP.hcont | exact EqP.gate | exact EqP.hgate))))
      exact ⟨hi2, c1.trans c2 (fun _ _ h => h), o2, stale _ _ rfl⟩
    · obtain rfl : i = n := by have : ¬ (i : Int) < (n : Int) := of_decide_eq_false ht; omega
      exact AW_exit ⟨rfl, c1, o1, stale _ _ rfl⟩
  rintro e fr H1 ⟨rfl, c1, o1, st, rfl⟩
  rw [clrB_all hp.len] at o1
  have op1 := c1.hown hpq hp.own
  have oa1 := c1.hown (fun h => hqa h.symm) ho
  rw [arC] at oa1
  have hcp1 := hcells_own op1
  have hca1 := hcells_own oa1
  obtain ⟨H2, s2, op2, c2, l2⟩ := storeX_ex (o := 2) op1 hfp (by simp) (.bool false)
  simp only [List.set_cons_succ, List.set_cons_zero] at op2
  have hcp2 := hcells_own op2
  have oa2 := c2.hown (fun h => hpa h.symm) oa1
  have oq2 := c2.hown (fun h => hpq h.symm) o1
  have hca2 := hcells_own oa2
  have hcq2 := hcells_own oq2
  have e1 : IntKind.i64.wrap ((u : Int) - (n : Int)) = ((u - n : Nat) : Int) := by rw [i64_of (by omega) (by omega)]; omega
  have e2 : IntKind.i64.wrap ((l : Int) - 1) = ((l - 1 : Nat) : Int) := by rw [i64_of (by omega) (by omega)]; omega
  obtain ⟨H3, s3, oa3, c3, l3⟩ := storeX_ex (o := 1) oa2 hfa (by simp) (.int .i64 ((u - n : Nat) : Int))
  simp only [List.set_cons_succ, List.set_cons_zero] at oa3
  have hca3 := hcells_own oa3
  obtain ⟨H4, s4, oa4, c4, l4⟩ := storeX_ex (o := 3) oa3 hfa (by simp) (.int .i64 ((l - 1 : Nat) : Int))
  simp only [List.set_cons_succ, List.set_cons_zero] at oa4
  (repeat (first | refine GOS ?_ | (with_reducible (first | apply AO_any | apply AHd_any | apply AP_go | apply AHP_go); focus (simp only [Sm, wantedA, execA, stepA, List.getElem?_cons_zero, List.getElem?_cons_succ, if_true, if_false, binA, binInt, unA, eqA, Option.map, eq_self, reduceCtorEq, ite_true, ite_false, cellsAV, fitsAll, CK.fits, fillA, AV.cells, writeN, sliceCells, appendA, lenA, i64, loA, hiA, Nat.reduceAdd, Nat.reduceMul, Nat.reduceDiv, Nat.reduceSub, Nat.reduceLeDiff, Nat.reduceLT, Int.reduceLE, Int.reduceLT, foldA, maxA, minA, Int.reduceBEq, Int.reduceBNe, Int.reduceGT, Int.reduceGE, Int.reduceEq, Int.reduceNe, Int.reduceToNat, AOp.stops, ↓want_eq, ↓exec_lenX, ↓exec_storeX, ↓exec_storeN, storeN_one, ↓exec_bsX, ↓exec_sliceX, ↓exec_copyX, ↓exec_appNil, ↓exec_carryX, Nat.sub_zero, rep_len, hcp1, hca1, s2, hcp2, hca2, hcq2, e1, s3, hca3, e2, s4]; with_reducible first | exact EqP.at_ | exact EqP.cont | exact EqP.hcont | exact EqP.gate | exact EqP.hgate))))
  have c34 : Chg (· = a) H2 H4 := c3.trans c4 fun _ _ h => h
  refine AW_ret ⟨_, rfl, rfl, oa4, ⟨c34.hown hpa op2, c34.hown hqa oq2, zB_length n, hpq, hpa, hqa⟩, ?_⟩
  refine ⟨by have := c1.1; omega, fun x hx hxs => ?_⟩
  have x1 : ¬ x = q := fun e => hxs (.inr (.inr e))
  have x2 : ¬ x = p := fun e => hxs (.inr (.inl e))
  have x3 : ¬ x = a := fun e => hxs (.inl e)
  rw [c34.2 x (by have := c1.1; omega) x3, c2.2 x (by have := c1.1; omega) x2, c1.2 x hx x1]
end
end PK

/- Package salsa as code of the abstract machine. -/
namespace PK
open Go PAbs

noncomputable def c_salsa_Eight : AFn := AFn.mk 11 [.cellN 2 16]
  (.seq (.region
      [⟨some 1, .box (.t 0), none⟩,
        ⟨some 2, .alloc (rep 16 (.int .u32 0)), none⟩])
  (.seq (.region
      [⟨some 6, .loadN 16 (.t 1), none⟩,
        ⟨some 7, .call F_salsa_Core [.t 6, .k (.c (.int .i64 4))], none⟩,
        ⟨some 5, .mv (.t 7), none⟩,
        ⟨some 8, .extract (.t 5) 0, none⟩,
        ⟨some 9, .extract (.t 5) 1, none⟩,
        ⟨some 3, .alloc (rep 16 (.int .u32 0)), none⟩,
        ⟨none, .store 16 (.t 3) (.t 8), none⟩,
        ⟨some 4, .mv (.t 9), none⟩])
  (.seq (.region
      [⟨some 10, .loadN 16 (.t 3), none⟩,
        ⟨none, .store 16 (.t 2) (.t 10), none⟩])
  (.ret))))
theorem t_salsa_Eight : A F_salsa_Eight = some c_salsa_Eight := by kernel_rfl

noncomputable def c_salsa_Core : AFn := AFn.mk 35 [.cellN 4 16, .tmp 5]
  (.seq (.region
      [⟨some 2, .box (.t 0), none⟩,
        ⟨some 4, .alloc (rep 16 (.int .u32 0)), none⟩,
        ⟨some 5, .mv (.k (.c (.int .i64 0))), none⟩])
  (.seq (.seq (.region
        [⟨some 8, .mv (.t 1), none⟩,
          ⟨some 9, .bin .lss (.t 8) (.k (.c (.int .i64 0))), none⟩,
          ⟨some 10, .mv (.t 9), none⟩,
          ⟨some 11, .mv (.t 1), some (10, false)⟩,
          ⟨some 12, .bin .gtr (.t 11) (.k (.c (.int .i64 100))), some (10, false)⟩,
          ⟨some 13, .pick (.t 10) (.k (.c (.bool true))) (.t 12), none⟩])
    (.cond (.t 13)
      (.seq (.region
          [⟨some 14, .build (rep 16 (.int .u32 0)) [], none⟩,
            ⟨none, .store 16 (.t 4) (.t 14), none⟩,
            ⟨some 5, .mv (.k (.c (.int .i64 1))), none⟩])
      (.ret))
      (.skip)))
  (.seq (.region
      [⟨some 15, .loadN 16 (.t 2), none⟩,
        ⟨some 6, .alloc (rep 16 (.int .u32 0)), none⟩,
        ⟨none, .store 16 (.t 6) (.t 15), none⟩])
  (.seq (.seq (.region
        [⟨some 16, .mv (.t 1), none⟩,
          ⟨some 17, .mv (.k (.c (.int .i64 0))), none⟩])
    (.block 0
      (.loop
        (.seq (.region
            [⟨some 18, .bin .lss (.t 17) (.t 16), none⟩])
        (.seq (.cond (.t 18)
            (.skip)
            (.exit 0))
        (.seq (.block 1
            (.region
              [⟨some 19, .loadN 16 (.t 6), none⟩,
                ⟨some 20, .call F_salsa_Double [.t 19], none⟩,
                ⟨none, .store 16 (.t 6) (.t 20), none⟩]))
        (.region
          [⟨some 21, .bin .add (.t 17) (.k (.c (.int .i64 1))), none⟩,
            ⟨some 17, .mv (.t 21), none⟩])))))))
  (.seq (.seq (.region
        [⟨some 22, .mv (.k (.c (.int .i64 0))), none⟩])
    (.block 2
      (.loop
        (.seq (.region
            [⟨some 23, .bin .lss (.t 22) (.k (.c (.int .i64 16))), none⟩])
        (.seq (.cond (.t 23)
            (.skip)
            (.exit 2))
        (.seq (.block 3
            (.seq (.region
                [⟨some 24, .mv (.t 22), none⟩,
                  ⟨some 7, .mv (.t 24), none⟩])
            (.draw
              [⟨some 25, .mv (.t 7), none⟩,
                ⟨some 26, .idxArr 16 1 (.t 6) (.t 25), none⟩,
                ⟨some 27, .load1 (.t 26), none⟩,
                ⟨some 28, .mv (.t 7), none⟩,
                ⟨some 29, .idxArr 16 1 (.t 2) (.t 28), none⟩,
                ⟨some 30, .load1 (.t 29), none⟩]
              [⟨some 31, .bin .add (.t 27) (.t 30), none⟩,
                ⟨some 32, .idxArr 16 1 (.t 6) (.t 25), none⟩,
                ⟨none, .store 1 (.t 32) (.t 31), none⟩])))
        (.region
          [⟨some 33, .bin .add (.t 22) (.k (.c (.int .i64 1))), none⟩,
            ⟨some 22, .mv (.t 33), none⟩])))))))
  (.seq (.region
      [⟨some 34, .loadN 16 (.t 6), none⟩,
        ⟨none, .store 16 (.t 4) (.t 34), none⟩,
        ⟨some 5, .mv (.k (.c (.int .i64 0))), none⟩])
  (.ret)))))))
theorem t_salsa_Core : A F_salsa_Core = some c_salsa_Core := by kernel_rfl

noncomputable def c_salsa_Double : AFn := AFn.mk 49 [.cellN 2 16]
  (.seq (.region
      [⟨some 1, .box (.t 0), none⟩,
        ⟨some 2, .alloc (rep 16 (.int .u32 0)), none⟩])
  (.seq (.seq (.region
        [⟨some 9, .call F_salsa_lines [], none⟩,
          ⟨some 10, .mv (.k (.c (.int .i64 0))), none⟩])
    (.block 0
      (.loop
        (.seq (.region
            [⟨some 11, .bin .lss (.t 10) (.k (.c (.int .i64 8))), none⟩])
        (.seq (.cond (.t 11)
            (.skip)
            (.exit 0))
        (.seq (.block 1
            (.seq (.region
                [⟨some 12, .elemN 8 4 (.t 9) (.t 10), none⟩,
                  ⟨some 4, .alloc (rep 4 (.int .i64 0)), none⟩,
                  ⟨none, .store 4 (.t 4) (.t 12), none⟩])
            (.seq (.draw
                [⟨some 13, .idxArr 4 1 (.t 4) (.k (.c (.int .i64 0))), none⟩,
                  ⟨some 14, .load1 (.t 13), none⟩,
                  ⟨some 15, .idxArr 4 1 (.t 4) (.k (.c (.int .i64 1))), none⟩,
                  ⟨some 16, .load1 (.t 15), none⟩,
                  ⟨some 17, .idxArr 4 1 (.t 4) (.k (.c (.int .i64 2))), none⟩,
                  ⟨some 18, .load1 (.t 17), none⟩,
                  ⟨some 19, .idxArr 4 1 (.t 4) (.k (.c (.int .i64 3))), none⟩,
                  ⟨some 20, .load1 (.t 19), none⟩,
                  ⟨some 5, .mv (.t 14), none⟩,
                  ⟨some 6, .mv (.t 16), none⟩,
                  ⟨some 7, .mv (.t 18), none⟩]
                [⟨some 8, .mv (.t 20), none⟩])
            (.draw
              [⟨some 22, .mv (.t 5), none⟩,
                ⟨some 23, .mv (.t 6), none⟩,
                ⟨some 24, .mv (.t 7), none⟩,
                ⟨some 25, .mv (.t 8), none⟩,
                ⟨some 26, .mv (.t 5), none⟩,
                ⟨some 27, .idxArr 16 1 (.t 1) (.t 26), none⟩,
                ⟨some 28, .load1 (.t 27), none⟩,
                ⟨some 29, .mv (.t 6), none⟩,
                ⟨some 30, .idxArr 16 1 (.t 1) (.t 29), none⟩,
                ⟨some 31, .load1 (.t 30), none⟩,
                ⟨some 32, .mv (.t 7), none⟩,
                ⟨some 33, .idxArr 16 1 (.t 1) (.t 32), none⟩,
                ⟨some 34, .load1 (.t 33), none⟩,
                ⟨some 35, .mv (.t 8), none⟩,
                ⟨some 36, .idxArr 16 1 (.t 1) (.t 35), none⟩,
                ⟨some 37, .load1 (.t 36), none⟩,
                ⟨some 38, .call F_salsa_Quarter [.t 28, .t 31, .t 34, .t 37], none⟩]
              [⟨some 21, .mv (.t 38), none⟩,
                ⟨some 39, .extract (.t 21) 0, none⟩,
                ⟨some 40, .extract (.t 21) 1, none⟩,
                ⟨some 41, .extract (.t 21) 2, none⟩,
                ⟨some 42, .extract (.t 21) 3, none⟩,
                ⟨some 43, .idxArr 16 1 (.t 1) (.t 22), none⟩,
                ⟨none, .store 1 (.t 43) (.t 39), none⟩,
                ⟨some 44, .idxArr 16 1 (.t 1) (.t 23), none⟩,
                ⟨none, .store 1 (.t 44) (.t 40), none⟩,
                ⟨some 45, .idxArr 16 1 (.t 1) (.t 24), none⟩,
                ⟨none, .store 1 (.t 45) (.t 41), none⟩,
                ⟨some 46, .idxArr 16 1 (.t 1) (.t 25), none⟩,
                ⟨none, .store 1 (.t 46) (.t 42), none⟩]))))
        (.region
          [⟨some 47, .bin .add (.t 10) (.k (.c (.int .i64 1))), none⟩,
            ⟨some 10, .mv (.t 47), none⟩])))))))
  (.seq (.region
      [⟨some 48, .loadN 16 (.t 1), none⟩,
        ⟨none, .store 16 (.t 2) (.t 48), none⟩])
  (.ret))))
theorem t_salsa_Double : A F_salsa_Double = some c_salsa_Double := by kernel_rfl

noncomputable def c_salsa_lines : AFn := AFn.mk 10 [.cellN 0 32]
  (.seq (.region
      [⟨some 0, .alloc (rep 32 (.int .i64 0)), none⟩])
  (.seq (.region
      [⟨some 1, .build (rep 4 (.int .i64 0)) [(0, 1, .k (.c (.int .i64 0))), (1, 1, .k (.c (.int .i64 4))), (2, 1, .k (.c (.int .i64 8))), (3, 1, .k (.c (.int .i64 12)))], none⟩,
        ⟨some 2, .build (rep 4 (.int .i64 0)) [(0, 1, .k (.c (.int .i64 5))), (1, 1, .k (.c (.int .i64 9))), (2, 1, .k (.c (.int .i64 13))), (3, 1, .k (.c (.int .i64 1)))], none⟩,
        ⟨some 3, .build (rep 4 (.int .i64 0)) [(0, 1, .k (.c (.int .i64 10))), (1, 1, .k (.c (.int .i64 14))), (2, 1, .k (.c (.int .i64 2))), (3, 1, .k (.c (.int .i64 6)))], none⟩,
        ⟨some 4, .build (rep 4 (.int .i64 0)) [(0, 1, .k (.c (.int .i64 15))), (1, 1, .k (.c (.int .i64 3))), (2, 1, .k (.c (.int .i64 7))), (3, 1, .k (.c (.int .i64 11)))], none⟩,
        ⟨some 5, .build (rep 4 (.int .i64 0)) [(0, 1, .k (.c (.int .i64 0))), (1, 1, .k (.c (.int .i64 1))), (2, 1, .k (.c (.int .i64 2))), (3, 1, .k (.c (.int .i64 3)))], none⟩,
        ⟨some 6, .build (rep 4 (.int .i64 0)) [(0, 1, .k (.c (.int .i64 5))), (1, 1, .k (.c (.int .i64 6))), (2, 1, .k (.c (.int .i64 7))), (3, 1, .k (.c (.int .i64 4)))], none⟩,
        ⟨some 7, .build (rep 4 (.int .i64 0)) [(0, 1, .k (.c (.int .i64 10))), (1, 1, .k (.c (.int .i64 11))), (2, 1, .k (.c (.int .i64 8))), (3, 1, .k (.c (.int .i64 9)))], none⟩,
        ⟨some 8, .build (rep 4 (.int .i64 0)) [(0, 1, .k (.c (.int .i64 15))), (1, 1, .k (.c (.int .i64 12))), (2, 1, .k (.c (.int .i64 13))), (3, 1, .k (.c (.int .i64 14)))], none⟩,
        ⟨some 9, .build (rep 32 (.int .i64 0)) [(0, 4, .t 1), (4, 4, .t 2), (8, 4, .t 3), (12, 4, .t 4), (16, 4, .t 5), (20, 4, .t 6), (24, 4, .t 7), (28, 4, .t 8)], none⟩,
        ⟨none, .store 32 (.t 0) (.t 9), none⟩])
  (.ret)))
theorem t_salsa_lines : A F_salsa_lines = some c_salsa_lines := by kernel_rfl

noncomputable def c_salsa_Quarter : AFn := AFn.mk 40 [.tmp 8, .tmp 9, .tmp 10, .tmp 11]
  (.seq (.region
      [⟨some 8, .mv (.k (.c (.int .u32 0))), none⟩,
        ⟨some 9, .mv (.k (.c (.int .u32 0))), none⟩,
        ⟨some 10, .mv (.k (.c (.int .u32 0))), none⟩,
        ⟨some 11, .mv (.k (.c (.int .u32 0))), none⟩])
  (.seq (.region
      [⟨some 12, .mv (.t 1), none⟩,
        ⟨some 13, .mv (.t 0), none⟩,
        ⟨some 14, .mv (.t 3), none⟩,
        ⟨some 15, .bin .add (.t 13) (.t 14), none⟩,
        ⟨some 16, .call F_words_Left32 [.t 15, .k (.c (.int .i64 7))], none⟩,
        ⟨some 17, .bin .xor (.t 12) (.t 16), none⟩,
        ⟨some 1, .mv (.t 17), none⟩])
  (.seq (.region
      [⟨some 18, .mv (.t 2), none⟩,
        ⟨some 19, .mv (.t 1), none⟩,
        ⟨some 20, .mv (.t 0), none⟩,
        ⟨some 21, .bin .add (.t 19) (.t 20), none⟩,
        ⟨some 22, .call F_words_Left32 [.t 21, .k (.c (.int .i64 9))], none⟩,
        ⟨some 23, .bin .xor (.t 18) (.t 22), none⟩,
        ⟨some 2, .mv (.t 23), none⟩])
  (.seq (.region
      [⟨some 24, .mv (.t 3), none⟩,
        ⟨some 25, .mv (.t 2), none⟩,
        ⟨some 26, .mv (.t 1), none⟩,
        ⟨some 27, .bin .add (.t 25) (.t 26), none⟩,
        ⟨some 28, .call F_words_Left32 [.t 27, .k (.c (.int .i64 13))], none⟩,
        ⟨some 29, .bin .xor (.t 24) (.t 28), none⟩,
        ⟨some 3, .mv (.t 29), none⟩])
  (.seq (.region
      [⟨some 30, .mv (.t 0), none⟩,
        ⟨some 31, .mv (.t 3), none⟩,
        ⟨some 32, .mv (.t 2), none⟩,
        ⟨some 33, .bin .add (.t 31) (.t 32), none⟩,
        ⟨some 34, .call F_words_Left32 [.t 33, .k (.c (.int .i64 18))], none⟩,
        ⟨some 35, .bin .xor (.t 30) (.t 34), none⟩,
        ⟨some 0, .mv (.t 35), none⟩])
  (.seq (.region
      [⟨some 36, .mv (.t 0), none⟩,
        ⟨some 37, .mv (.t 1), none⟩,
        ⟨some 38, .mv (.t 2), none⟩,
        ⟨some 39, .mv (.t 3), none⟩,
        ⟨some 8, .mv (.t 36), none⟩,
        ⟨some 9, .mv (.t 37), none⟩,
        ⟨some 10, .mv (.t 38), none⟩,
        ⟨some 11, .mv (.t 39), none⟩])
  (.ret)))))))
theorem t_salsa_Quarter : A F_salsa_Quarter = some c_salsa_Quarter := by kernel_rfl
end PK

/- Package pestleref12 as code of the abstract machine. -/
namespace PK
open Go PAbs

end PK
