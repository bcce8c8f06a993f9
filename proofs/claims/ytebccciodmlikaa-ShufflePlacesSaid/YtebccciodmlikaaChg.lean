/- What a call changed: all but some blocks stand as they stood. -/
import Derived.Test.YtebccciodmlikaaBase
namespace PAbs
open Go
set_option linter.unusedSimpArgs false
set_option linter.unusedVariables false

def Chg (S : Nat → Prop) (H H' : AHeap) : Prop := H.length ≤ H'.length ∧ ∀ b, b < H.length → ¬ S b → H'[b]? = H[b]?
def none_ : Nat → Prop := fun _ => False
/-- the block of a slice -/
def inX (x : Cell) (b : Nat) : Prop := ∃ o n z, x = .slc b o n z

section
variable {S T : Nat → Prop} {H H1 H2 H' l : AHeap} {b : Nat} {cs : List Cell} {x : Cell} {sz : Nat}
theorem Chg.refl (S : Nat → Prop) (H : AHeap) : Chg S H H := ⟨Nat.le_refl _, fun _ _ _ => rfl⟩
theorem Chg.trans (h : Chg S H H1) (h2 : Chg T H1 H2) (ht : ∀ b, b < H.length → T b → S b) : Chg S H H2 :=
  ⟨Nat.le_trans h.1 h2.1, fun b hb hs => by rw [h2.2 b (Nat.lt_of_lt_of_le hb h.1) (fun t => hs (ht b hb t)), h.2 b hb hs]⟩
theorem Chg.mono (h : Chg S H H') (hs : ∀ b, b < H.length → S b → T b) : Chg T H H' := ⟨h.1, fun b hb ht => h.2 b hb fun s => ht (hs b hb s)⟩
theorem Chg.push (S : Nat → Prop) (H l : AHeap) : Chg S H (H ++ l) := ⟨by simp, fun b h _ => by simp [List.getElem?_append, h]⟩
theorem Chg.set {y : Blk} (hs : S b) : Chg S H (H.set b y) := ⟨by simp, fun c h hc => by
  rw [List.getElem?_set, if_neg (fun e => hc (by rw [← e]; exact hs))]⟩
theorem Chg.hown (h : Chg S H H') (hs : ¬ S b) (ho : PAbs.hown H b = some cs) : PAbs.hown H' b = some cs := by
  have hb := hown_lt ho
  simp only [PAbs.hown, h.2 b hb hs] at ho ⊢; exact ho
theorem Chg.hcells (h : Chg S H H') (hs : ¬ S b) (ho : PAbs.hcells H b = some cs) : PAbs.hcells H' b = some cs := by
  have hb := hcells_lt ho
  simp only [PAbs.hcells, h.2 b hb hs] at ho ⊢; exact ho
theorem Chg.of_kept (h : Kept H.length H H') : Chg none_ H H' := ⟨h.1, fun b hb _ => h.2 b hb hb⟩
theorem Chg.kept (h : Chg none_ H H') : Kept H.length H H' := ⟨h.1, fun b hb _ => h.2 b hb (fun f => f)⟩
theorem Rd.chg (h : Rd H x sz cs) (hc : Chg S H H') (hs : ∀ b, inX x b → ¬ S b) : Rd H' x sz cs := by
  rcases h with h | ⟨s, o, n, h1, h2, h3⟩
  · exact .inl h
  · refine .inr ⟨s, o, n, h1, h2, ?_⟩
    simp only [readN] at h3 ⊢
    cases hl : PAbs.hcells H s with
    | none => rw [hl] at h3; cases h3
    | some l => rw [hc.hcells (hs s ⟨o, n, sz, h1⟩) hl]; rw [hl] at h3; exact h3
theorem Own.chg {f : Nat} (h : Own f H x sz cs) (hc : Chg S H H') (hs : ∀ b, inX x b → ¬ S b) : Own f H' x sz cs := by
  rcases h with h | ⟨s, n, h1, h2, h3, h4⟩
  · exact .inl h
  · exact .inr ⟨s, n, h1, h2, h3, hc.hown (hs s ⟨_, _, _, h1⟩) h4⟩
theorem Own.le {f : Nat} (h : Own f H x sz cs) (hi : inX x b) : f ≤ b := by
  obtain ⟨o, n, z, rfl⟩ := hi
  rcases h with ⟨h, _⟩ | ⟨s, n, h1, h2, h3, h4⟩
  · cases h
  · cases h1; exact h3
theorem Own.lt' {f : Nat} (h : Own f H x sz cs) (hi : inX x b) : b < H.length := by
  obtain ⟨o, n, z, rfl⟩ := hi; exact h.lt
theorem Rd.lt (h : Rd H x sz cs) (hi : inX x b) : b < H.length := by
  obtain ⟨o, n, z, rfl⟩ := hi
  rcases h with ⟨h, _⟩ | ⟨s, o', n', h1, h2, h3⟩
  · cases h
  · cases h1
    simp only [readN] at h3
    cases hl : PAbs.hcells H b with
    | none => rw [hl] at h3; cases h3
    | some l => exact hcells_lt hl
end

/-- a slice that ends where its block ends, which is one's own -/
def OwnT (f : Nat) (H : AHeap) (x : Cell) (sz : Nat) (cs : List Cell) : Prop := (x = .snil ∧ cs = []) ∨ ∃ s o n full, x = .slc s o n sz ∧ cs.length = n * sz ∧ f ≤ s ∧ hown H s = some full ∧ o + n * sz = full.length ∧ cs = full.drop o
theorem Own.t {f : Nat} {H : AHeap} {x : Cell} {sz : Nat} {cs : List Cell} (h : Own f H x sz cs) : OwnT f H x sz cs := by
  rcases h with h | ⟨s, n, h1, h2, h3, h4⟩
  · exact .inl h
  · exact .inr ⟨s, 0, n, cs, h1, h2, h3, h4, by omega, rfl⟩
theorem OwnT.rd {f : Nat} {H : AHeap} {x : Cell} {sz : Nat} {cs : List Cell} (h : OwnT f H x sz cs) : Rd H x sz cs := by
  rcases h with h | ⟨s, o, n, full, rfl, h2, h3, h4, h5, h6⟩
  · exact .inl h
  · refine Rd.of_full (hcells_own h4) (by omega) ?_
    rw [List.take_of_length_le (by rw [List.length_drop]; omega)]; exact h6
theorem OwnT.chg {S : Nat → Prop} {H H' : AHeap} {f sz : Nat} {x : Cell} {cs : List Cell} (h : OwnT f H x sz cs) (hc : Chg S H H') (hs : ∀ b, inX x b → ¬ S b) : OwnT f H' x sz cs := by
  rcases h with h | ⟨s, o, n, full, h1, h2, h3, h4, h5, h6⟩
  · exact .inl h
  · exact .inr ⟨s, o, n, full, h1, h2, h3, hc.hown (hs s ⟨_, _, _, h1⟩) h4, h5, h6⟩

theorem exec_appendT {call : ACall} {fl f sz bytes : Nat} {fr : AFrame} {H : AHeap} {x : Cell} {y : AV} {cs news zero : List Cell} {o1 o2 : AOpd} (hx : OwnT f H x sz cs) (hy : sliceCells H sz y = some news) (hz : zero.length = sz) (hsz : 0 < sz) (hn : news.length % sz = 0) (hf : fl ≤ f) (hfH : f ≤ H.length)
    (hb : (cs.length + news.length) * bytes ≤ 140737488355328) (h1 : o1.ev fr = .c x) (h2 : o2.ev fr = y) :
    ∃ x' H', execA call fl fr H (.append zero bytes o1 o2) = some (.c x', H') ∧ Own f H' x' sz (cs ++ news) ∧ Chg (inX x) H H' ∧ ∃ n', x' = .slc H.length 0 n' sz := by
  have hdiv : news.length = news.length / sz * sz := by
    have := Nat.div_add_mod news.length sz; rw [hn, Nat.add_zero, Nat.mul_comm] at this; exact this.symm
  rcases hx with ⟨rfl, rfl⟩ | ⟨s, o, n, full, rfl, hl, hs, ho, hof, rfl⟩
  · have hb' : news.length * bytes ≤ 140737488355328 := by simpa using hb
    refine ⟨.slc H.length 0 (news.length / sz) sz, H ++ [.own news], ?_, .inr ⟨H.length, news.length / sz, rfl, by simpa using hdiv, hfH, hown_last⟩, Chg.push _ _ _, _, rfl⟩
    simp only [execA, stepA, h1, h2, appendA, hz, hy, hb', if_true]
  · have ls := hown_lt ho
    have hb' : (n * sz + news.length) * bytes ≤ 140737488355328 := by rw [← hl]; exact hb
    refine ⟨.slc H.length 0 (n + news.length / sz) sz, H.set s .dead ++ [.own (full.drop o ++ news)], ?_, .inr ⟨H.length, _, rfl, ?_, hfH, ?_⟩, ⟨by simp, fun b hb1 hb2 => ?_⟩, _, rfl⟩
    · simp only [execA, stepA, h1, h2, appendA, hz, hy, ho]
      rw [if_pos ⟨by omega, by first | rfl | trivial, by omega, hb'⟩]
    · simp only [List.length_append, Nat.add_mul, ← hdiv, hl]
    · have := hown_last (H := H.set s .dead) (cs := full.drop o ++ news)
      simpa using this
    · have hne : s ≠ b := fun e => hb2 ⟨o, n, sz, by rw [e]⟩
      rw [List.getElem?_append, if_pos (by simpa using hb1), List.getElem?_set, if_neg hne]
/-- append to a slice that ends where its block ends; the new one lies in the newest block -/
theorem AO_appendT {A : Nat → Option AFn} {fl f sz bytes : Nat} {fr : AFrame} {H : AHeap} {x : Cell} {y : AV} {cs news zero : List Cell} {o1 o2 : AOpd} {d : Option Nat} {rest : List AOper} {Q : AFrame → AHeap → Prop} (hx : OwnT f H x sz cs) (hy : sliceCells H sz y = some news) (hz : zero.length = sz) (hsz : 0 < sz) (hn : news.length % sz = 0) (hf : fl ≤ f) (hfH : f ≤ H.length)
    (hb : (cs.length + news.length) * bytes ≤ 140737488355328) (h1 : o1.ev fr = .c x) (h2 : o2.ev fr = y)
    (h : ∀ q n' H', q = H.length → Own f H' (.slc q 0 n' sz) sz (cs ++ news) → Chg (inX x) H H' → AO A fl rest (putA fr d (.c (.slc q 0 n' sz))) H' Q) : AO A fl (⟨d, .append zero bytes o1 o2, none⟩ :: rest) fr H Q := by
  obtain ⟨x', H', e, h3, h4, n', rfl⟩ := exec_appendT (call := noCall) hx hy hz hsz hn hf hfH hb h1 h2
  exact AO_step rfl e (h _ n' H' rfl h3 h4)

theorem OwnT.floor {f g : Nat} {H : AHeap} {x : Cell} {sz : Nat} {cs : List Cell} (h : OwnT f H x sz cs) (hg : ∀ b, inX x b → g ≤ b) : OwnT g H x sz cs := by
  rcases h with h | ⟨s, o, n, full, h1, h2, h3, h4, h5, h6⟩
  · exact .inl h
  · exact .inr ⟨s, o, n, full, h1, h2, hg s ⟨_, _, _, h1⟩, h4, h5, h6⟩
theorem OwnT.le {f b : Nat} {H : AHeap} {x : Cell} {sz : Nat} {cs : List Cell} (h : OwnT f H x sz cs) (hi : inX x b) : f ≤ b := by
  obtain ⟨o, n, z, rfl⟩ := hi
  rcases h with ⟨h, _⟩ | ⟨s, o', n', full, h1, h2, h3, h4, h5, h6⟩
  · cases h
  · cases h1; exact h3
theorem OwnT.lt {f b : Nat} {H : AHeap} {x : Cell} {sz : Nat} {cs : List Cell} (h : OwnT f H x sz cs) (hi : inX x b) : b < H.length := h.rd.lt hi
theorem OwnT.nil {f : Nat} {H : AHeap} {sz : Nat} : OwnT f H .snil sz [] := .inl ⟨rfl, rfl⟩
theorem OwnT.last {f n sz : Nat} {H : AHeap} {cs : List Cell} (hf : f ≤ H.length) (hn : cs.length = n * sz) : OwnT f (H ++ [.own cs]) (.slc H.length 0 n sz) sz cs := .inr ⟨_, 0, n, cs, rfl, hn, hf, hown_last, by omega, rfl⟩
/-- what is left behind the first places -/
theorem OwnT.drop {f s o n : Nat} {H : AHeap} {cs : List Cell} (h : OwnT f H (.slc s o n 1) 1 cs) {k : Nat} (hk : k ≤ n) : OwnT f H (.slc s (o + k) (n - k) 1) 1 (cs.drop k) := by
  rcases h with ⟨h, _⟩ | ⟨s', o', n', full, h1, h2, h3, h4, h5, h6⟩
  · cases h
  · cases h1
    refine .inr ⟨_, _, _, full, rfl, ?_, h3, h4, by omega, ?_⟩
    · rw [List.length_drop]; omega
    · rw [h6, List.drop_drop]
theorem OwnT.slc {f : Nat} {H : AHeap} {x : Cell} {cs : List Cell} (h : OwnT f H x 1 cs) (h0 : 0 < cs.length) : ∃ s o full, x = .slc s o cs.length 1 ∧ hown H s = some full ∧ o + cs.length = full.length ∧ cs = full.drop o := by
  rcases h with ⟨_, h⟩ | ⟨s, o, n, full, h1, h2, h3, h4, h5, h6⟩
  · rw [h] at h0; simp at h0
  · obtain rfl : n = cs.length := by omega
    exact ⟨s, o, full, h1, h4, by omega, h6⟩
theorem inX_slc {s o n z b : Nat} : inX (.slc s o n z) b ↔ b = s := ⟨fun ⟨_, _, _, h⟩ => by cases h; rfl, fun h => ⟨o, n, z, by rw [h]⟩⟩
theorem inX_snil {b : Nat} : ¬ inX .snil b := fun ⟨_, _, _, h⟩ => by cases h

/-- a slice of slices of bytes, all one's own -/
def BB (n : Nat) (H : AHeap) (y : Cell) (zs : List Cell) (bs : List (List UInt8)) : Prop := OwnT n H y 1 zs ∧ zs.length = bs.length ∧ ∀ (i : Nat) (z : Cell) (b : List UInt8), zs[i]? = some z → bs[i]? = some b → OwnT n H z 1 (B8 b)
def inB (y : Cell) (zs : List Cell) (b : Nat) : Prop := inX y b ∨ ∃ z ∈ zs, inX z b
theorem BB.nil {n : Nat} {H : AHeap} : BB n H .snil [] [] := ⟨OwnT.nil, rfl, fun i z b h => by simp at h⟩
theorem BB.chg {S : Nat → Prop} {n : Nat} {H H' : AHeap} {y : Cell} {zs : List Cell} {bs : List (List UInt8)} (h : BB n H y zs bs) (hc : Chg S H H') (hs : ∀ b, inB y zs b → ¬ S b) : BB n H' y zs bs :=
  ⟨h.1.chg hc fun b hb => hs b (.inl hb), h.2.1, fun i z b h1 h2 => (h.2.2 i z b h1 h2).chg hc fun c hc' => hs c (.inr ⟨z, List.mem_of_getElem? h1, hc'⟩)⟩
theorem BB.lt {n b : Nat} {H : AHeap} {y : Cell} {zs : List Cell} {bs : List (List UInt8)} (h : BB n H y zs bs) (hb : inB y zs b) : b < H.length := by
  rcases hb with hb | ⟨z, hz, hb⟩
  · exact h.1.lt hb
  · obtain ⟨i, hi, rfl⟩ := List.mem_iff_getElem.mp hz
    have hi' : i < bs.length := by rw [← h.2.1]; exact hi
    exact (h.2.2 i _ _ (List.getElem?_eq_getElem hi) (List.getElem?_eq_getElem hi')).lt hb
theorem BB.le {n b : Nat} {H : AHeap} {y : Cell} {zs : List Cell} {bs : List (List UInt8)} (h : BB n H y zs bs) (hb : inB y zs b) : n ≤ b := by
  rcases hb with hb | ⟨z, hz, hb⟩
  · exact h.1.le hb
  · obtain ⟨i, hi, rfl⟩ := List.mem_iff_getElem.mp hz
    have hi' : i < bs.length := by rw [← h.2.1]; exact hi
    exact (h.2.2 i _ _ (List.getElem?_eq_getElem hi) (List.getElem?_eq_getElem hi')).le hb
/-- one more behind -/
theorem BB.snoc {n : Nat} {H : AHeap} {y' z : Cell} {zs : List Cell} {bs : List (List UInt8)} {b : List UInt8} (h : ∀ (i : Nat) (z : Cell) (b : List UInt8), zs[i]? = some z → bs[i]? = some b → OwnT n H z 1 (B8 b)) (hl : zs.length = bs.length) (hy : OwnT n H y' 1 (zs ++ [z])) (hz : OwnT n H z 1 (B8 b)) : BB n H y' (zs ++ [z]) (bs ++ [b]) := by
  refine ⟨hy, by simp [hl], fun i w c h1 h2 => ?_⟩
  rw [List.getElem?_append] at h1 h2
  by_cases hi : i < zs.length
  · rw [if_pos hi] at h1; rw [if_pos (by omega)] at h2; exact h i w c h1 h2
  · rw [if_neg hi] at h1; rw [if_neg (by omega)] at h2
    have h0 : i - zs.length = 0 := by have := (List.getElem?_eq_some_iff.mp h1).1; simp at this; omega
    have h0' : i - bs.length = 0 := by omega
    rw [h0] at h1; rw [h0'] at h2
    simp at h1 h2
    subst h1 h2; exact hz

/-- a part of a slice -/
def sliceX (sz' : Nat) (H : AHeap) (x : AV) (lo hi : Option AV) : Option (AV × AHeap) :=
  match x with
  | .c (.slc b o n sz) =>
    match hiA hi n, loA lo with
    | some h, some l => if sz = sz' ∧ l ≤ h then (hcells H b).map fun _ => (.c (.slc b (o + l * sz) (h - l) sz), H) else none
    | _, _ => none
  | .c .snil =>
    match hiA hi 0, loA lo with
    | some _, some l => if l ≤ 0 then some (.c .snil, H) else none
    | _, _ => none
  | _ => none
theorem exec_sliceX {call : ACall} {fl sz : Nat} {fr : AFrame} {H : AHeap} {x : AOpd} {lo hi : Option AOpd} : execA call fl fr H (.sliceS sz x lo hi) = sliceX sz H (x.ev fr) (lo.map (·.ev fr)) (hi.map (·.ev fr)) := by
  simp only [execA, stepA, sliceX]; rfl
/-- from a place on -/
theorem Rd.slice_from {H : AHeap} {x : Cell} {cs : List Cell} (h : Rd H x 1 cs) {k : Nat} (hk : k ≤ cs.length) : ∃ x', sliceX 1 H (.c x) (some (.c (.int .i64 (k : Int)))) none = some (.c x', H) ∧ Rd H x' 1 (cs.drop k) ∧ (∀ b, inX x' b → inX x b) := by
  have h3 : (0 : Int) ≤ (k : Int) := by omega
  rcases h with ⟨rfl, rfl⟩ | ⟨s, o, n, rfl, hn, hr⟩
  · obtain rfl : k = 0 := by simpa using hk
    exact ⟨.snil, rfl, .inl ⟨rfl, rfl⟩, fun _ h => h⟩
  · have hR : Rd H (.slc s o n 1) 1 cs := .inr ⟨s, o, n, rfl, hn, hr⟩
    obtain ⟨full, hc, _, _, _⟩ := hR.full
    refine ⟨.slc s (o + k * 1) (n - k) 1, ?_, ?_, fun b hb => by rw [inX_slc] at hb ⊢; exact hb⟩
    · simp only [sliceX, hiA, loA, h3, if_true, Int.toNat_natCast, hc]
      rw [if_pos ⟨trivial, by omega⟩]; rfl
    · have := hR.sub (i := k) (j := n) (by omega) (Nat.le_refl _)
      rw [Nat.mul_one, Nat.mul_one, List.take_of_length_le (by rw [List.length_drop]; omega)] at this
      rw [Nat.mul_one]; exact this

/-! a block that is changed over and over: the heap is 'H.set p ..' -/
theorem set_id {H : AHeap} {p : Nat} {cs : List Cell} (h : hown H p = some cs) : H = H.set p (.own cs) := by
  have hp := hown_lt h
  apply List.ext_getElem?
  intro i
  rw [List.getElem?_set]
  by_cases e : p = i
  · subst e
    rw [if_pos rfl, if_pos hp]
    simp only [hown] at h
    split at h
    · rename_i hb; rw [hb]; cases h; rfl
    · cases h
  · rw [if_neg e]
theorem hcells_setS {H : AHeap} {p : Nat} {cs : List Cell} (hp : p < H.length) : hcells (H.set p (.own cs)) p = some cs := hcells_set hp
theorem storeX_setS {fl : Nat} {H : AHeap} {p o : Nat} {cs : List Cell} {v : Cell} (hp : p < H.length) (hf : fl ≤ p) (ho : o < cs.length) : storeX fl (H.set p (.own cs)) (.c (.ptr p o)) (.c v) = some (aundef, H.set p (.own (cs.set o v))) := by
  rw [storeX_own (hown_set hp) hf ho, List.set_set]

theorem set_last {H : AHeap} {x y : Blk} : (H ++ [x]).set H.length y = H ++ [y] := by
  rw [List.set_append_right _ _ (Nat.le_refl _), Nat.sub_self]; rfl
theorem storeN_last {n fl : Nat} {H : AHeap} {cs vs : List Cell} (hf : fl ≤ H.length) (hc : cs.length = n) (hv : vs.length = n) : storeN n fl (H ++ [.own cs]) (.c (.ptr H.length 0)) (.agg vs) = some (aundef, H ++ [.own vs]) := by
  rw [storeN_all hown_last hf hc hv, set_last]
theorem rep_len {α : Type} {n : Nat} {x : α} : (rep n x).length = n := by simp [rep]
theorem rep_4 {α : Type} {x : α} : rep 4 x = [x, x, x, x] := rfl
end PAbs
