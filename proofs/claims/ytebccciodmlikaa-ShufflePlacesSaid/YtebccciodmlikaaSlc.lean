/- Slices in the abstract heap: such as may be read, such as are one's own; append. -/
import Derived.Test.YtebccciodmlikaaHeap
import Derived.Test.YtebccciodmlikaaArgs
namespace PAbs
open Go
set_option linter.unusedSimpArgs false
set_option linter.unusedVariables false

/-- a slice that may be read: these cells -/
def Rd (H : AHeap) (x : Cell) (sz : Nat) (cs : List Cell) : Prop := (x = .snil ∧ cs = []) ∨ ∃ s o n, x = .slc s o n sz ∧ cs.length = n * sz ∧ readN H s o (n * sz) = some cs
/-- a slice that is one's own, the whole of its block, which is not below f -/
def Own (f : Nat) (H : AHeap) (x : Cell) (sz : Nat) (cs : List Cell) : Prop := (x = .snil ∧ cs = []) ∨ ∃ s n, x = .slc s 0 n sz ∧ cs.length = n * sz ∧ f ≤ s ∧ hown H s = some cs
/-- of no common block -/
def Apart (x y : Cell) : Prop := ∀ s o n z s' o' n' z', x = .slc s o n z → y = .slc s' o' n' z' → s ≠ s'

theorem readN_all {H : AHeap} {s : Nat} {cs : List Cell} (h : hcells H s = some cs) : readN H s 0 cs.length = some cs := by simp [readN, h]

theorem Own.rd {f : Nat} {H : AHeap} {x : Cell} {sz : Nat} {cs : List Cell} (h : Own f H x sz cs) : Rd H x sz cs := by
  rcases h with h | ⟨s, n, h1, h2, _, h4⟩
  · exact .inl h
  · exact .inr ⟨s, 0, n, h1, h2, by rw [← h2]; exact readN_all (hcells_own h4)⟩
theorem Own.mono {f g : Nat} {H : AHeap} {x : Cell} {sz : Nat} {cs : List Cell} (h : Own f H x sz cs) (hg : g ≤ f) : Own g H x sz cs := by
  rcases h with h | ⟨s, n, h1, h2, h3, h4⟩
  · exact .inl h
  · exact .inr ⟨s, n, h1, h2, by omega, h4⟩
theorem Own.nil {f : Nat} {H : AHeap} {sz : Nat} : Own f H .snil sz [] := .inl ⟨rfl, rfl⟩
theorem Own.app {f : Nat} {H l : AHeap} {x : Cell} {sz : Nat} {cs : List Cell} (h : Own f H x sz cs) : Own f (H ++ l) x sz cs := by
  rcases h with h | ⟨s, n, h1, h2, h3, h4⟩
  · exact .inl h
  · exact .inr ⟨s, n, h1, h2, h3, hown_app h4⟩
theorem Own.kept {f : Nat} {H H' : AHeap} {x : Cell} {sz : Nat} {cs : List Cell} (h : Own f H x sz cs) (hk : Kept H.length H H') : Own f H' x sz cs := by
  rcases h with h | ⟨s, n, h1, h2, h3, h4⟩
  · exact .inl h
  · exact .inr ⟨s, n, h1, h2, h3, by rw [hk.hown (hown_lt h4) (hown_lt h4)]; exact h4⟩
theorem Own.lt {f : Nat} {H : AHeap} {sz s o n z : Nat} {cs : List Cell} (h : Own f H (.slc s o n z) sz cs) : s < H.length := by
  rcases h with ⟨h, _⟩ | ⟨s', n', h1, h2, h3, h4⟩
  · cases h
  · cases h1; exact hown_lt h4
theorem Own.one {f : Nat} {H : AHeap} {cs : List Cell} (hf : f ≤ H.length) : Own f (H ++ [.own cs]) (.slc H.length 0 cs.length 1) 1 cs := .inr ⟨_, _, rfl, by omega, hf, hown_last⟩
theorem readN_kept {H H' : AHeap} {s o n : Nat} {cs : List Cell} (h : readN H s o n = some cs) (hk : Kept H.length H H') : readN H' s o n = some cs := by
  simp only [readN] at h ⊢
  cases hc : hcells H s with
  | none => rw [hc] at h; cases h
  | some l => rw [hk.hcells (hcells_lt hc) (hcells_lt hc), hc]; rw [hc] at h; exact h
theorem Rd.kept {H H' : AHeap} {x : Cell} {sz : Nat} {cs : List Cell} (h : Rd H x sz cs) (hk : Kept H.length H H') : Rd H' x sz cs := by
  rcases h with h | ⟨s, o, n, h1, h2, h3⟩
  · exact .inl h
  · exact .inr ⟨s, o, n, h1, h2, readN_kept h3 hk⟩
theorem Rd.of_arg {H : AHeap} {b : Nat} {x : Cell} {cs : List Cell} (h : SlA b x cs.length) (hc : hcells H b = some cs) : Rd H x 1 cs := by
  rcases h with ⟨h1, h2⟩ | h
  · exact .inl ⟨h1, List.length_eq_zero_iff.mp h2⟩
  · exact .inr ⟨b, 0, cs.length, h, by omega, by rw [Nat.mul_one]; exact readN_all hc⟩
theorem Kept.more (f : Nat) (H l : AHeap) : Kept f H (H ++ l) := ⟨by simp, fun b _ h => by simp [List.getElem?_append, h]⟩

/-- what stands at place i -/
theorem Rd.get {H : AHeap} {x : Cell} {cs : List Cell} (h : Rd H x 1 cs) {i : Nat} (hi : i < cs.length) : ∃ s o full, x = .slc s o cs.length 1 ∧ hcells H s = some full ∧ full[o + i]? = cs[i]? := by
  rcases h with ⟨_, h⟩ | ⟨s, o, n, h1, h2, h3⟩
  · rw [h] at hi; simp at hi
  · obtain rfl : n = cs.length := by omega
    simp only [readN] at h3
    cases hc : hcells H s with
    | none => rw [hc] at h3; cases h3
    | some l =>
      rw [hc] at h3
      simp only at h3
      split at h3
      · have h3 := Option.some.inj h3
        refine ⟨s, o, l, h1, hc, ?_⟩
        conv => rhs; rw [← h3]
        rw [List.getElem?_take, if_pos (by omega), List.getElem?_drop]
      · cases h3
theorem Rd.cells {H : AHeap} {x : Cell} {sz : Nat} {cs : List Cell} (h : Rd H x sz cs) : sliceCells H sz (.c x) = some cs := by
  rcases h with ⟨rfl, rfl⟩ | ⟨s, o, n, rfl, h2, h3⟩
  · rfl
  · simp only [sliceCells, if_true]; exact h3

theorem exec_len {call : ACall} {fl : Nat} {fr : AFrame} {H : AHeap} {x : Cell} {cs : List Cell} {o : AOpd} (h : Rd H x 1 cs) (ho : o.ev fr = .c x) : execA call fl fr H (.len false o) = some (.c (.int .i64 (cs.length : Int)), H) := by
  rcases h with ⟨rfl, rfl⟩ | ⟨s, b, n, rfl, h2, h3⟩
  · simp only [execA, stepA, ho, i64]; rfl
  · obtain rfl : n = cs.length := by omega
    simp only [readN] at h3
    cases hc : hcells H s with
    | none => rw [hc] at h3; cases h3
    | some l => simp only [execA, stepA, ho, i64, hc]; rfl

theorem exec_lenN {call : ACall} {fl n : Nat} {fr : AFrame} {H : AHeap} {x : Cell} {cs : List Cell} {o : AOpd} (h : Rd H x 1 cs) (hn : cs.length = n) (ho : o.ev fr = .c x) : execA call fl fr H (.len false o) = some (.c (.int .i64 (n : Int)), H) := by
  subst hn; exact exec_len h ho

theorem exec_append {call : ACall} {fl f sz bytes : Nat} {fr : AFrame} {H : AHeap} {x : Cell} {y : AV} {cs news zero : List Cell} {o1 o2 : AOpd} (hx : Own f H x sz cs) (hy : sliceCells H sz y = some news) (hz : zero.length = sz) (hsz : 0 < sz) (hn : news.length % sz = 0) (hf : fl ≤ f) (hfH : f ≤ H.length)
    (hb : (cs.length + news.length) * bytes ≤ 140737488355328) (h1 : o1.ev fr = .c x) (h2 : o2.ev fr = y) :
    ∃ x' H', execA call fl fr H (.append zero bytes o1 o2) = some (.c x', H') ∧ Own f H' x' sz (cs ++ news) ∧ Kept f H H' ∧ ∀ z ds k, Own f H z k ds → Apart x z → Own f H' z k ds ∧ Apart x' z := by
  have hdiv : news.length = news.length / sz * sz := by
    have := Nat.div_add_mod news.length sz; rw [hn, Nat.add_zero, Nat.mul_comm] at this; exact this.symm
  rcases hx with ⟨rfl, rfl⟩ | ⟨s, n, rfl, hl, hs, ho⟩
  · have hb' : news.length * bytes ≤ 140737488355328 := by simpa using hb
    refine ⟨.slc H.length 0 (news.length / sz) sz, H ++ [.own news], ?_, .inr ⟨H.length, news.length / sz, rfl, by simpa using hdiv, hfH, hown_last⟩, Kept.more _ _ _, fun z ds k hz' ha => ⟨hz'.app, ?_⟩⟩
    · simp only [execA, stepA, h1, h2, appendA, hz, hy, hb', if_true]
    · intro s o n z s' o' n' z' e1 e2
      cases e1; subst e2
      have := hz'.lt; omega
  · have ls := hown_lt ho
    have hb' : (n * sz + news.length) * bytes ≤ 140737488355328 := by rw [← hl]; exact hb
    refine ⟨.slc H.length 0 (n + news.length / sz) sz, H.set s .dead ++ [.own (cs ++ news)], ?_, .inr ⟨H.length, _, rfl, ?_, hfH, ?_⟩, ⟨by simp, fun b hb1 hb2 => ?_⟩, fun z ds k hz' ha => ⟨?_, ?_⟩⟩
    · simp only [execA, stepA, h1, h2, appendA, hz, hy, ho]
      rw [if_pos ⟨by omega, by first | rfl | trivial, by omega, hb'⟩]; simp
    · simp only [List.length_append, Nat.add_mul, ← hdiv, hl]
    · have := hown_last (H := H.set s .dead) (cs := cs ++ news)
      simpa using this
    · rw [List.getElem?_append, if_pos (by simpa using hb2), List.getElem?_set, if_neg (by omega)]
    · rcases hz' with h | ⟨s', n', rfl, h4, h5, h6⟩
      · exact .inl h
      · exact .inr ⟨s', n', rfl, h4, h5, by
          refine hown_app ?_
          rw [hown_set_ne (ha _ _ _ _ _ _ _ _ rfl rfl)]; exact h6⟩
    · intro s o n z s' o' n' z' e1 e2
      cases e1; subst e2
      have := hz'.lt; omega

theorem Apart.symm {x y : Cell} (h : Apart x y) : Apart y x := fun s o n z s' o' n' z' e1 e2 e => h _ _ _ _ _ _ _ _ e2 e1 e.symm
theorem Apart.nil {y : Cell} : Apart .snil y := fun s o n z s' o' n' z' e1 => by cases e1

/-- append, in a statement -/
theorem AO_append {A : Nat → Option AFn} {fl f sz bytes : Nat} {fr : AFrame} {H : AHeap} {x : Cell} {y : AV} {cs news zero : List Cell} {o1 o2 : AOpd} {d : Option Nat} {rest : List AOper} {Q : AFrame → AHeap → Prop} (hx : Own f H x sz cs) (hy : sliceCells H sz y = some news) (hz : zero.length = sz) (hsz : 0 < sz) (hn : news.length % sz = 0) (hf : fl ≤ f) (hfH : f ≤ H.length)
    (hb : (cs.length + news.length) * bytes ≤ 140737488355328) (h1 : o1.ev fr = .c x) (h2 : o2.ev fr = y)
    (h : ∀ x' H', Own f H' x' sz (cs ++ news) → Kept f H H' → (∀ z ds k, Own f H z k ds → Apart x z → Own f H' z k ds ∧ Apart x' z) → AO A fl rest (putA fr d (.c x')) H' Q) : AO A fl (⟨d, .append zero bytes o1 o2, none⟩ :: rest) fr H Q := by
  obtain ⟨x', H', e, h3, h4, h5⟩ := exec_append (call := noCall) hx hy hz hsz hn hf hfH hb h1 h2
  exact AO_step rfl e (h x' H' h3 h4 h5)
theorem cells_last {H : AHeap} {cs : List Cell} {n : Nat} (h : cs.length = n) : sliceCells (H ++ [.own cs]) 1 (.c (.slc H.length 0 n 1)) = some cs := by
  subst h
  simp only [sliceCells, if_true, Nat.mul_one]; exact readN_all hcells_last
end PAbs
