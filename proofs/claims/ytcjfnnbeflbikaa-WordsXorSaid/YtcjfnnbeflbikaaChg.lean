/- What a call changed: all but some blocks stand as they stood. -/
import Derived.Test.YtcjfnnbeflbikaaBase
namespace PAbs
open Go
set_option linter.unusedSimpArgs false
set_option linter.unusedVariables false

def Chg (S : Nat → Prop) (H H' : AHeap) : Prop := H.length ≤ H'.length ∧ ∀ b, b < H.length → ¬ S b → H'[b]? = H[b]?
def none_ : Nat → Prop := fun _ => False
/-- the block of a slice -/
def inX (x : Cell) (b : Nat) : Prop := ∃ o n z, x = .slc b o n z

section
variable {S T : Nat → Prop} {H H1 H2 H' l : AHeap} {b : Nat} {cs : List Cell} {x : Cell} {sz : Nat}
theorem Chg.refl (S : Nat → Prop) (H : AHeap) : Chg S H H := ⟨Nat.le_refl _, fun _ _ _ => rfl⟩
theorem Chg.trans (h : Chg S H H1) (h2 : Chg T H1 H2) (ht : ∀ b, b < H.length → T b → S b) : Chg S H H2 :=
  ⟨Nat.le_trans h.1 h2.1, fun b hb hs => by rw [h2.2 b (Nat.lt_of_lt_of_le hb h.1) (fun t => hs (ht b hb t)), h.2 b hb hs]⟩
theorem Chg.mono (h : Chg S H H') (hs : ∀ b, b < H.length → S b → T b) : Chg T H H' := ⟨h.1, fun b hb ht => h.2 b hb fun s => ht (hs b hb s)⟩
theorem Chg.push (S : Nat → Prop) (H l : AHeap) : Chg S H (H ++ l) := ⟨by simp, fun b h _ => by simp [List.getElem?_append, h]⟩
theorem Chg.set {y : Blk} (hs : S b) : Chg S H (H.set b y) := ⟨by simp, fun c h hc => by
  rw [List.getElem?_set, if_neg (fun e => hc (by rw [← e]; exact hs))]⟩
theorem Chg.hown (h : Chg S H H') (hs : ¬ S b) (ho : PAbs.hown H b = some cs) : PAbs.hown H' b = some cs := by
  have hb := hown_lt ho
  simp only [PAbs.hown, h.2 b hb hs] at ho ⊢; exact ho
theorem Chg.hcells (h : Chg S H H') (hs : ¬ S b) (ho : PAbs.hcells H b = some cs) : PAbs.hcells H' b = some cs := by
  have hb := hcells_lt ho
  simp only [PAbs.hcells, h.2 b hb hs] at ho ⊢; exact ho
theorem Chg.of_kept (h : Kept H.length H H') : Chg none_ H H' := ⟨h.1, fun b hb _ => h.2 b hb hb⟩
theorem Chg.kept (h : Chg none_ H H') : Kept H.length H H' := ⟨h.1, fun b hb _ => h.2 b hb (fun f => f)⟩
theorem Rd.chg (h : Rd H x sz cs) (hc : Chg S H H') (hs : ∀ b, inX x b → ¬ S b) : Rd H' x sz cs := by
  rcases h with h | ⟨s, o, n, h1, h2, h3⟩
  · exact .inl h
  · refine .inr ⟨s, o, n, h1, h2, ?_⟩
    simp only [readN] at h3 ⊢
    cases hl : PAbs.hcells H s with
    | none => rw [hl] at h3; cases h3
    | some l => rw [hc.hcells (hs s ⟨o, n, sz, h1⟩) hl]; rw [hl] at h3; exact h3
theorem Own.chg {f : Nat} (h : Own f H x sz cs) (hc : Chg S H H') (hs : ∀ b, inX x b → ¬ S b) : Own f H' x sz cs := by
  rcases h with h | ⟨s, n, h1, h2, h3, h4⟩
  · exact .inl h
  · exact .inr ⟨s, n, h1, h2, h3, hc.hown (hs s ⟨_, _, _, h1⟩) h4⟩
theorem Own.le {f : Nat} (h : Own f H x sz cs) (hi : inX x b) : f ≤ b := by
  obtain ⟨o, n, z, rfl⟩ := hi
  rcases h with ⟨h, _⟩ | ⟨s, n, h1, h2, h3, h4⟩
  · cases h
  · cases h1; exact h3
theorem Own.lt' {f : Nat} (h : Own f H x sz cs) (hi : inX x b) : b < H.length := by
  obtain ⟨o, n, z, rfl⟩ := hi; exact h.lt
theorem Rd.lt (h : Rd H x sz cs) (hi : inX x b) : b < H.length := by
  obtain ⟨o, n, z, rfl⟩ := hi
  rcases h with ⟨h, _⟩ | ⟨s, o', n', h1, h2, h3⟩
  · cases h
  · cases h1
    simp only [readN] at h3
    cases hl : PAbs.hcells H b with
    | none => rw [hl] at h3; cases h3
    | some l => exact hcells_lt hl
end

/-- a slice that ends where its block ends, which is one's own -/
def OwnT (f : Nat) (H : AHeap) (x : Cell) (sz : Nat) (cs : List Cell) : Prop := (x = .snil ∧ cs = []) ∨ ∃ s o n full, x = .slc s o n sz ∧ cs.length = n * sz ∧ f ≤ s ∧ hown H s = some full ∧ o + n * sz = full.length ∧ cs = full.drop o
theorem Own.t {f : Nat} {H : AHeap} {x : Cell} {sz : Nat} {cs : List Cell} (h : Own f H x sz cs) : OwnT f H x sz cs := by
  rcases h with h | ⟨s, n, h1, h2, h3, h4⟩
  · exact .inl h
  · exact .inr ⟨s, 0, n, cs, h1, h2, h3, h4, by omega, rfl⟩
theorem OwnT.rd {f : Nat} {H : AHeap} {x : Cell} {sz : Nat} {cs : List Cell} (h : OwnT f H x sz cs) : Rd H x sz cs := by
  rcases h with h | ⟨s, o, n, full, rfl, h2, h3, h4, h5, h6⟩
  · exact .inl h
  · refine Rd.of_full (hcells_own h4) (by omega) ?_
    rw [List.take_of_length_le (by rw [List.length_drop]; omega)]; exact h6
theorem OwnT.chg {S : Nat → Prop} {H H' : AHeap} {f sz : Nat} {x : Cell} {cs : List Cell} (h : OwnT f H x sz cs) (hc : Chg S H H') (hs : ∀ b, inX x b → ¬ S b) : OwnT f H' x sz cs := by
  rcases h with h | ⟨s, o, n, full, h1, h2, h3, h4, h5, h6⟩
  · exact .inl h
  · exact .inr ⟨s, o, n, full, h1, h2, h3, hc.hown (hs s ⟨_, _, _, h1⟩) h4, h5, h6⟩

theorem exec_appendT {call : ACall} {fl f sz bytes : Nat} {fr : AFrame} {H : AHeap} {x : Cell} {y : AV} {cs news zero : List Cell} {o1 o2 : AOpd} (hx : OwnT f H x sz cs) (hy : sliceCells H sz y = some news) (hz : zero.length = sz) (hsz : 0 < sz) (hn : news.length % sz = 0) (hf : fl ≤ f) (hfH : f ≤ H.length)
    (hb : (cs.length + news.length) * bytes ≤ 140737488355328) (h1 : o1.ev fr = .c x) (h2 : o2.ev fr = y) :
    ∃ x' H', execA call fl fr H (.append zero bytes o1 o2) = some (.c x', H') ∧ Own f H' x' sz (cs ++ news) ∧ Chg (inX x) H H' ∧ ∃ n', x' = .slc H.length 0 n' sz := by
  have hdiv : news.length = news.length / sz * sz := by
    have := Nat.div_add_mod news.length sz; rw [hn, Nat.add_zero, Nat.mul_comm] at this; exact this.symm
  rcases hx with ⟨rfl, rfl⟩ | ⟨s, o, n, full, rfl, hl, hs, ho, hof, rfl⟩
  · have hb' : news.length * bytes ≤ 140737488355328 := by simpa using hb
    refine ⟨.slc H.length 0 (news.length / sz) sz, H ++ [.own news], ?_, .inr ⟨H.length, news.length / sz, rfl, by simpa using hdiv, hfH, hown_last⟩, Chg.push _ _ _, _, rfl⟩
    simp only [execA, stepA, h1, h2, appendA, hz, hy, hb', if_true]
  · have ls := hown_lt ho
    have hb' : (n * sz + news.length) * bytes ≤ 140737488355328 := by rw [← hl]; exact hb
    refine ⟨.slc H.length 0 (n + news.length / sz) sz, H.set s .dead ++ [.own (full.drop o ++ news)], ?_, .inr ⟨H.length, _, rfl, ?_, hfH, ?_⟩, ⟨by simp, fun b hb1 hb2 => ?_⟩, _, rfl⟩
    · simp only [execA, stepA, h1, h2, appendA, hz, hy, ho]
      rw [if_pos ⟨by omega, by first | rfl | trivial, by omega, hb'⟩]
    · simp only [List.length_append, Nat.add_mul, ← hdiv, hl]
    · have := hown_last (H := H.set s .dead) (cs := full.drop o ++ news)
      simpa using this
    · have hne : s ≠ b := fun e => hb2 ⟨o, n, sz, by rw [e]⟩
      rw [List.getElem?_append, if_pos (by simpa using hb1), List.getElem?_set, if_neg hne]
/-- append to a slice that ends where its block ends; the new one lies in the newest block -/
theorem AO_appendT {A : Nat → Option AFn} {fl f sz bytes : Nat} {fr : AFrame} {H : AHeap} {x : Cell} {y : AV} {cs news zero : List Cell} {o1 o2 : AOpd} {d : Option Nat} {rest : List AOper} {Q : AFrame → AHeap → Prop} (hx : OwnT f H x sz cs) (hy : sliceCells H sz y = some news) (hz : zero.length = sz) (hsz : 0 < sz) (hn : news.length % sz = 0) (hf : fl ≤ f) (hfH : f ≤ H.length)
    (hb : (cs.length + news.length) * bytes ≤ 140737488355328) (h1 : o1.ev fr = .c x) (h2 : o2.ev fr = y)
    (h : ∀ n' H', Own f H' (.slc H.length 0 n' sz) sz (cs ++ news) → Chg (inX x) H H' → AO A fl rest (putA fr d (.c (.slc H.length 0 n' sz))) H' Q) : AO A fl (⟨d, .append zero bytes o1 o2, none⟩ :: rest) fr H Q := by
  obtain ⟨x', H', e, h3, h4, n', rfl⟩ := exec_appendT (call := noCall) hx hy hz hsz hn hf hfH hb h1 h2
  exact AO_step rfl e (h n' H' h3 h4)
end PAbs
