/- Texts of this claim, put together: Draw Draw2 Draw3 Draw4 Wp Run. -/
import Derived.Test.YtkmclhpnakphfaaG5
import Derived.Orders
/- Statements whose order is open: whatever the order, the abstract machine's own is met. -/
namespace PAbs
open Go Go.RowKit
set_option linter.unusedSimpArgs false
set_option linter.unusedVariables false

/-! ### what an operation looks at -/
theorem stepA_congr {fl : Nat} {H : AHeap} {e1 e2 : AOpd → AV} (p : AOp) (h : ∀ x ∈ p.opds, e1 x = e2 x) : stepA fl H e1 p = stepA fl H e2 p := by
  have parts : ∀ ps : List (Nat × Nat × AOpd), (∀ x ∈ ps.map (·.2.2), e1 x = e2 x) → (ps.map fun (o, n, x) => (o, n, e1 x)) = ps.map fun (o, n, x) => (o, n, e2 x) := fun ps hp =>
    List.map_congr_left fun q hq => by
      obtain ⟨o, n, x⟩ := q
      simp only [hp x (List.mem_map.2 ⟨(o, n, x), hq, rfl⟩)]
  have opt : ∀ x : Option AOpd, (∀ y ∈ x.toList, e1 y = e2 y) → x.map e1 = x.map e2 := fun x hx => by cases x <;> simp_all
  cases p <;> simp only [AOp.opds] at h <;> simp only [stepA]
  case build z ps => rw [parts ps h]
  case buildSlice z sz len ps => rw [parts ps h]
  case sliceS sz x lo hi =>
    rw [h x (by simp), opt lo fun y hy => h y (by simp at hy; simp [hy]), opt hi fun y hy => h y (by simp at hy; simp [hy])]
  case sliceStr x lo hi =>
    rw [h x (by simp), opt lo fun y hy => h y (by simp at hy; simp [hy]), opt hi fun y hy => h y (by simp at hy; simp [hy])]
  case sliceArr n sz x lo hi =>
    rw [h x (by simp), opt lo fun y hy => h y (by simp at hy; simp [hy]), opt hi fun y hy => h y (by simp at hy; simp [hy])]
  case max xs => rw [List.map_congr_left h]
  case mkClo f xs => rw [List.map_congr_left h]
  case min xs => rw [List.map_congr_left h]
  all_goals (try (simp only [List.mem_cons, List.not_mem_nil, or_false, forall_eq_or_imp, forall_eq] at h)) <;> (try simp only [h])

theorem execA_congr {call : ACall} {fl : Nat} {H : AHeap} {f1 f2 : AFrame} (p : AOp) (h : ∀ x ∈ p.opds, x.ev f1 = x.ev f2) : execA call fl f1 H p = execA call fl f2 H p := by
  cases p <;> simp only [execA]
  case call f as => rw [List.map_congr_left (f := (·.ev f1)) (g := (·.ev f2)) fun x hx => h x (by simpa [AOp.opds] using hx)]
  case callV f as =>
    rw [h f (by simp [AOp.opds]), List.map_congr_left (f := (·.ev f1)) (g := (·.ev f2)) fun x hx => h x (by simp [AOp.opds, hx])]
  all_goals exact stepA_congr _ h

/-! ### what is kept -/
def Kept (fl : Nat) (H H' : AHeap) : Prop := H.length ≤ H'.length ∧ ∀ b, b < fl → b < H.length → H'[b]? = H[b]?

theorem Kept.refl (fl : Nat) (H : AHeap) : Kept fl H H := ⟨Nat.le_refl _, fun _ _ _ => rfl⟩
theorem Kept.trans {fl : Nat} {A B C : AHeap} (h : Kept fl A B) (k : Kept fl B C) : Kept fl A C :=
  ⟨Nat.le_trans h.1 k.1, fun b h1 h2 => (k.2 b h1 (Nat.lt_of_lt_of_le h2 h.1)).trans (h.2 b h1 h2)⟩
theorem Kept.mono {fl fl' : Nat} {A B : AHeap} (h : Kept fl A B) (hf : fl' ≤ fl) : Kept fl' A B := ⟨h.1, fun b h1 h2 => h.2 b (by omega) h2⟩
theorem Kept.all {A B : AHeap} (h : Kept A.length A B) (fl : Nat) : Kept fl A B := ⟨h.1, fun b _ h2 => h.2 b h2 h2⟩
theorem Kept.push (fl : Nat) (H l : AHeap) : Kept fl H (H ++ l) := ⟨by simp, fun b _ h => by rw [List.getElem?_append, if_pos h]⟩
theorem Kept.set {fl : Nat} {H : AHeap} {b : Nat} {x : Blk} (h : fl ≤ b) : Kept fl H (H.set b x) := ⟨by simp, fun i h1 _ => by rw [List.getElem?_set, if_neg (by omega)]⟩

theorem writeN_kept {fl : Nat} {H H' : AHeap} {b o : Nat} {vs : List Cell} (h : writeN fl H b o vs = some H') : Kept fl H H' := by
  simp only [writeN] at h
  split at h
  · split at h
    · rename_i hc
      simp only [Option.some.injEq] at h; subst h
      exact Kept.set hc.1
    · cases h
  · cases h

theorem appendA_kept {fl : Nat} {H H' : AHeap} {z : List Cell} {bytes : Nat} {s x v : AV} (h : appendA fl H z bytes s x = some (v, H')) : Kept fl H H' := by
  simp only [appendA] at h
  split at h
  · cases h
  · split at h
    · split at h
      · simp at h; obtain ⟨_, rfl⟩ := h; exact Kept.push _ _ _
      · cases h
    · split at h
      · split at h
        · rename_i hc
          simp at h; obtain ⟨_, rfl⟩ := h
          exact (Kept.set hc.1).trans (Kept.push _ _ _)
        · cases h
      · cases h
    · cases h

theorem stepA_kept {fl : Nat} {H H' : AHeap} {ev : AOpd → AV} {p : AOp} {v : AV} (h : stepA fl H ev p = some (v, H')) : Kept fl H H' := by
  cases p <;> simp only [stepA] at h
  case append z b s x => exact appendA_kept h
  case store n a x =>
    split at h
    · split at h
      · obtain ⟨H1, h1, e⟩ := map_some h; simp at e; obtain ⟨_, rfl⟩ := e; exact writeN_kept h1
      · cases h
    · cases h
  case copy sz d s =>
    split at h
    · split at h
      · obtain ⟨H1, h1, e⟩ := map_some h; simp at e; obtain ⟨_, rfl⟩ := e; exact writeN_kept h1
      · cases h
    · cases h
  all_goals
    repeat' first
      | (cases h; done)
      | (obtain ⟨_, _, e⟩ := map_some h; simp only [Prod.mk.injEq] at e; obtain ⟨_, rfl⟩ := e; exact Kept.refl _ _)
      | (simp only [Option.some.injEq, Prod.mk.injEq] at h; obtain ⟨_, rfl⟩ := h; first | exact Kept.refl _ _ | exact Kept.push _ _ _)
      | split at h

def KeptSpec (call : ACall) : Prop := ∀ fl f args H v H', call fl f args H = some (v, H') → Kept fl H H'

section
variable {call : ACall} (hk : KeptSpec call)
include hk
theorem execA_kept {fl : Nat} {fr : AFrame} {H H' : AHeap} {p : AOp} {v : AV} (h : execA call fl fr H p = some (v, H')) : Kept fl H H' := by
  cases p <;> simp only [execA] at h
  case call f as => exact hk _ _ _ _ _ _ h
  case callV f as =>
    split at h
    · exact hk _ _ _ _ _ _ h
    · exact hk _ _ _ _ _ _ h
    · cases h
  all_goals exact stepA_kept h
theorem evalOps_kept {fl : Nat} : ∀ {l : List AOper} {fr fr' : AFrame} {H H' : AHeap}, evalOps call fl l fr H = some (fr', H') → Kept fl H H'
  | [], fr, fr', H, H', h => by simp [evalOps] at h; obtain ⟨_, rfl⟩ := h; exact Kept.refl _ _
  | o :: l, fr, fr', H, H', h => by
    simp only [evalOps] at h
    split at h
    · split at h
      · rename_i hx; exact (execA_kept hk hx).trans (evalOps_kept h)
      · cases h
    · exact evalOps_kept h
theorem evalHead_kept {fl : Nat} : ∀ {l : List AOper} {fr fr' : AFrame} {H H' : AHeap}, evalHead call l fr H = some (fr', H') → Kept fl H H'
  | [], fr, fr', H, H', h => by simp [evalHead] at h; obtain ⟨_, rfl⟩ := h; exact Kept.refl _ _
  | o :: l, fr, fr', H, H', h => by
    simp only [evalHead] at h
    split at h
    · split at h
      · rename_i hx; exact ((execA_kept hk hx).all fl).trans (evalHead_kept h)
      · cases h
    · exact evalHead_kept h
theorem evalCode_kept {fl n : Nat} : ∀ {c : ACode} {fr fr' : AFrame} {H H' : AHeap} {e : AExit}, evalCode call fl n c fr H = some (e, fr', H') → Kept fl H H' := by
  intro c
  induction c with
  | skip => intro fr fr' H H' e h; simp [evalCode] at h; obtain ⟨_, _, rfl⟩ := h; exact Kept.refl _ _
  | ret => intro fr fr' H H' e h; simp [evalCode] at h; obtain ⟨_, _, rfl⟩ := h; exact Kept.refl _ _
  | exit id => intro fr fr' H H' e h; simp [evalCode] at h; obtain ⟨_, _, rfl⟩ := h; exact Kept.refl _ _
  | region ops =>
    intro fr fr' H H' e h
    simp only [evalCode] at h
    split at h
    · rename_i hx; simp at h; obtain ⟨_, _, rfl⟩ := h; exact evalOps_kept hk hx
    · cases h
  | draw hd tl =>
    intro fr fr' H H' e h
    simp only [evalCode] at h
    split at h
    · rename_i hx
      split at h
      · rename_i hy; simp at h; obtain ⟨_, _, rfl⟩ := h; exact (evalHead_kept hk hx).trans (evalOps_kept hk hy)
      · cases h
    · cases h
  | drawA z q d ops m =>
    intro fr fr' H H' e h
    simp only [evalCode] at h
    split at h
    · rename_i hx
      split at h
      · rename_i hy; simp at h; obtain ⟨_, _, rfl⟩ := h; exact (Kept.push _ _ _).trans ((evalHead_kept hk hx).trans (evalOps_kept hk hy))
      · cases h
    · cases h
  | draw3 hd tl =>
    intro fr fr' H H' e h
    simp only [evalCode] at h
    split at h
    · rename_i hx
      split at h
      · rename_i hy; simp at h; obtain ⟨_, _, rfl⟩ := h; exact ((evalOps_kept hk hx).all fl).trans (evalOps_kept hk hy)
      · cases h
    · cases h
  | defers ops f args rest ih =>
    intro fr fr' H H' e h
    simp only [evalCode] at h
    split at h
    · rename_i hx
      split at h
      · rename_i hy
        split at h
        · rename_i hz; simp at h; obtain ⟨_, _, rfl⟩ := h; exact ((evalOps_kept hk hx).trans (ih hy)).trans (hk _ _ _ _ _ _ hz)
        · cases h
      · cases h
    · cases h
  | seq a b iha ihb =>
    intro fr fr' H H' e h
    simp only [evalCode] at h
    split at h
    · rename_i hx; exact (iha hx).trans (ihb h)
    · exact iha h
  | cond c a b iha ihb =>
    intro fr fr' H H' e h
    simp only [evalCode] at h
    split at h
    · exact iha h
    · exact ihb h
    · cases h
  | block id c ih =>
    intro fr fr' H H' e h
    simp only [evalCode] at h
    split at h
    · rename_i hx
      split at h <;> (simp at h; obtain ⟨_, _, rfl⟩ := h; exact ih hx)
    · exact ih h
  | loop c ih =>
    intro fr fr' H H' e h
    simp only [evalCode] at h
    have key : ∀ (m : Nat) {fr fr' : AFrame} {H H' : AHeap}, iterA (evalCode call fl n c) m fr H = some (e, fr', H') → Kept fl H H' := by
      intro m
      induction m with
      | zero => intro fr fr' H H' h; simp [iterA] at h
      | succ m ihm =>
        intro fr fr' H H' h
        simp only [iterA] at h
        split at h
        · rename_i hx; exact (ih hx).trans (ihm h)
        · exact ih h
    exact key n h
end

theorem callFn_kept (A : Nat → Option AFn) : ∀ k, KeptSpec (callFn A k)
  | 0 => fun fl f args H v H' h => by simp [callFn] at h
  | k + 1 => fun fl f args H v H' h => by
    simp only [callFn] at h
    split at h
    · cases h
    · split at h
      · rename_i hx; obtain ⟨_, _, e⟩ := map_some h; simp at e; obtain ⟨_, rfl⟩ := e; exact evalCode_kept (callFn_kept A k) hx
      · rename_i hx; obtain ⟨_, _, e⟩ := map_some h; simp at e; obtain ⟨_, rfl⟩ := e; exact evalCode_kept (callFn_kept A k) hx
      · cases h

/-! ### an operation that only looks, in another heap -/
def AV.blks : AV → List Nat
  | .c (.ptr b _) => [b]
  | .c (.slc b _ _ _) => [b]
  | _ => []

theorem readN_sub {H H2 : AHeap} {b o n : Nat} {cs : List Cell} (hs : ∀ cs, hcells H b = some cs → hcells H2 b = some cs) (h : readN H b o n = some cs) : readN H2 b o n = some cs := by
  simp only [readN] at h ⊢
  split at h
  · rename_i q hq; rw [hs _ hq]; exact h
  · cases h

theorem sliceCells_sub {H H2 : AHeap} {x : AV} {n : Nat} {cs : List Cell} (hs : ∀ b ∈ x.blks, ∀ cs, hcells H b = some cs → hcells H2 b = some cs) (h : sliceCells H n x = some cs) : sliceCells H2 n x = some cs := by
  unfold sliceCells at h ⊢
  split at h
  · exact h
  · split at h
    · rename_i hz; rw [if_pos hz]; exact readN_sub (hs _ (by simp [AV.blks])) h
    · cases h
  · exact h
  · cases h

theorem eqA_sub {H H2 : AHeap} {t : EqT} {x y : AV} {r : Bool} (hx : ∀ b ∈ x.blks, ∀ cs, hcells H b = some cs → hcells H2 b = some cs) (hy : ∀ b ∈ y.blks, ∀ cs, hcells H b = some cs → hcells H2 b = some cs) (h : eqA H t x y = some r) : eqA H2 t x y = some r := by
  unfold eqA at h ⊢
  split at h
  · exact h
  · exact h
  · obtain ⟨cs, h1, rfl⟩ := map_some h; rw [hx _ (by simp [AV.blks]) _ h1]; rfl
  · obtain ⟨cs, h1, rfl⟩ := map_some h; rw [hy _ (by simp [AV.blks]) _ h1]; rfl
  · split at h
    · rename_i hn; rw [if_pos hn]; obtain ⟨cs, h1, rfl⟩ := map_some h; rw [hx _ (by simp [AV.blks]) _ h1]; rfl
    · cases h
  · exact h
  · split at h
    · cases h
    · rename_i hn; rw [if_neg hn]; obtain ⟨cs, h1, rfl⟩ := map_some h; rw [hx _ (by simp [AV.blks]) _ h1]; rfl
  · exact h
  · cases h

/-- it gives the same where the blocks that it looks at are the same -/
theorem look_sub {fl fl' : Nat} {H H2 H' : AHeap} {ev : AOpd → AV} {p : AOp} {v : AV} (hm : p.makes = false) (hs : ∀ x ∈ p.opds, ∀ b ∈ (ev x).blks, ∀ cs, hcells H b = some cs → hcells H2 b = some cs)
    (h : stepA fl H ev p = some (v, H')) : H' = H ∧ stepA fl' H2 ev p = some (v, H2) := by
  cases p <;> simp [AOp.makes] at hm <;> simp only [AOp.opds, List.mem_cons, List.not_mem_nil, or_false, forall_eq_or_imp, forall_eq] at hs <;> simp only [stepA] at h ⊢
  case load1 a =>
    split at h
    · rename_i b o e
      rw [e] at hs
      split at h
      · rename_i cs hc
        rw [hs b (by simp [AV.blks]) _ hc]
        obtain ⟨x, hx, e'⟩ := map_some h
        simp at e'; obtain ⟨rfl, rfl⟩ := e'
        exact ⟨rfl, by simp [hx]⟩
      · cases h
    · cases h
  case loadN n a =>
    split at h
    · rename_i b o e
      rw [e] at hs
      obtain ⟨x, hx, e'⟩ := map_some h
      simp at e'; obtain ⟨rfl, rfl⟩ := e'
      exact ⟨rfl, by rw [readN_sub (hs b (by simp [AV.blks])) hx]; rfl⟩
    · cases h
  case nilCheck x =>
    split at h
    · rename_i b o e
      rw [e] at hs
      obtain ⟨cs, hc, e'⟩ := map_some h
      simp at e'; obtain ⟨rfl, rfl⟩ := e'
      exact ⟨rfl, by rw [hs b (by simp [AV.blks]) _ hc]; rfl⟩
    · cases h
  case eq neg t x y =>
    obtain ⟨r, hr, e'⟩ := map_some h
    simp only [Prod.mk.injEq] at e'; obtain ⟨rfl, rfl⟩ := e'
    exact ⟨rfl, by rw [eqA_sub hs.1 hs.2 hr]; rfl⟩
  case bytesStr x =>
    split at h
    · cases h
    · split at h
      · rename_i cs hc
        rw [sliceCells_sub hs hc]
        obtain ⟨l, hl, e'⟩ := map_some h
        simp at e'; obtain ⟨rfl, rfl⟩ := e'
        exact ⟨rfl, by simp [hl]⟩
      · cases h
  case arrPtr n x =>
    split at h
    · rename_i b o m sz e
      rw [e] at hs
      split at h
      · rename_i hc
        rw [if_pos hc]
        obtain ⟨cs, hc, e'⟩ := map_some h
        simp at e'; obtain ⟨rfl, rfl⟩ := e'
        exact ⟨rfl, by rw [hs b (by simp [AV.blks]) _ hc]; rfl⟩
      · cases h
    · cases h
  case sliceS sz x lo hi =>
    have hs := hs.1
    split at h
    · rename_i b o n sz' e
      rw [e] at hs
      split at h
      · split at h
        · rename_i hc
          rw [if_pos hc]
          obtain ⟨cs, hc, e'⟩ := map_some h
          simp at e'; obtain ⟨rfl, rfl⟩ := e'
          exact ⟨rfl, by rw [hs b (by simp [AV.blks]) _ hc]; rfl⟩
        · cases h
      · cases h
    · split at h
      · split at h
        · rename_i hc
          rw [if_pos hc]
          simp at h; obtain ⟨rfl, rfl⟩ := h
          exact ⟨rfl, rfl⟩
        · cases h
      · cases h
    · cases h
  case sliceArr n sz x lo hi =>
    have hs := hs.1
    split at h
    · rename_i b o e
      rw [e] at hs
      split at h
      · rename_i hh l cs h1 h2 hc
        rw [hs b (by simp [AV.blks]) _ hc]
        split at h
        · rename_i hc'
          simp only [h1, h2]
          rw [if_pos hc']
          simp at h; obtain ⟨rfl, rfl⟩ := h
          exact ⟨rfl, rfl⟩
        · cases h
      · cases h
    · cases h
  case fieldAddr off x =>
    split at h
    · rename_i b o e
      rw [e] at hs
      obtain ⟨cs, hc, e'⟩ := map_some h
      simp at e'; obtain ⟨rfl, rfl⟩ := e'
      exact ⟨rfl, by rw [hs b (by simp [AV.blks]) _ hc]; rfl⟩
    · cases h
  case idxSlc sz x i =>
    split at h
    · rename_i b o n sz' k j e1 e2
      rw [e1] at hs
      split at h
      · rename_i hc
        rw [if_pos hc]
        obtain ⟨cs, hc, e'⟩ := map_some h
        simp at e'; obtain ⟨rfl, rfl⟩ := e'
        exact ⟨rfl, by rw [hs.1 b (by simp [AV.blks]) _ hc]; rfl⟩
      · cases h
    · cases h
  case idxArr n sz x i =>
    split at h
    · rename_i b o k j e1 e2
      rw [e1] at hs
      split at h
      · rename_i hc
        rw [if_pos hc]
        obtain ⟨cs, hc, e'⟩ := map_some h
        simp at e'; obtain ⟨rfl, rfl⟩ := e'
        exact ⟨rfl, by rw [hs.1 b (by simp [AV.blks]) _ hc]; rfl⟩
      · cases h
    · cases h
  case len st x =>
    split at h
    · simp at h; obtain ⟨rfl, rfl⟩ := h; exact ⟨rfl, rfl⟩
    · simp at h; obtain ⟨rfl, rfl⟩ := h; exact ⟨rfl, rfl⟩
    · rename_i b o n sz e
      rw [e] at hs
      obtain ⟨cs, hc, e'⟩ := map_some h
      simp at e'; obtain ⟨rfl, rfl⟩ := e'
      exact ⟨rfl, by rw [hs b (by simp [AV.blks]) _ hc]; rfl⟩
    · cases h
  all_goals
    clear hs
    repeat' first
      | (cases h; done)
      | (obtain ⟨q, hq, e'⟩ := map_some h; simp only [Prod.mk.injEq] at e'; obtain ⟨rfl, rfl⟩ := e'; exact ⟨rfl, by simp_all⟩)
      | (simp only [Option.some.injEq, Prod.mk.injEq] at h; obtain ⟨rfl, rfl⟩ := h; exact ⟨rfl, by simp_all⟩)
      | split at h
end PAbs

/- Statements whose order is open: whatever the order, the abstract machine's own is met: the theorem. -/
namespace PAbs
open Go Go.RowKit
set_option linter.unusedSimpArgs false
set_option linter.unusedVariables false

/-! ### what stands ahead -/
theorem force_eq {α : Type} (n : Nat) (f : Nat → α) : force n f = f n := by cases n <;> rfl

theorem fold_bit {acc : Nat → Nat} {j : Nat} : ∀ (l : List Edge) (s : Nat), (l.foldl (fun s e => if Region.binds .any e then s ||| 2 ^ e.on ||| acc e.on else s) s).testBit j = true →
    s.testBit j = true ∨ ∃ e ∈ l, Region.binds .any e = true ∧ (j = e.on ∨ (acc e.on).testBit j = true)
  | [], s, h => .inl h
  | e :: l, s, h => by
    simp only [List.foldl_cons] at h
    rcases fold_bit l _ h with h | ⟨e', he, hb⟩
    · split at h
      · rename_i hbind
        simp only [Nat.testBit_or, Nat.testBit_two_pow, Bool.or_eq_true, decide_eq_true_eq] at h
        rcases h with (h | h) | h
        · exact .inl h
        · exact .inr ⟨e, by simp, hbind, .inl h.symm⟩
        · exact .inr ⟨e, by simp, hbind, .inr h⟩
      · exact .inl h
    · exact .inr ⟨e', by simp [he], hb⟩

theorem oneA_bit {acc : Nat → Nat} {o : Oper} {j : Nat} (h : (oneA acc o).testBit j = true) : ∃ e ∈ o.after.toList, Region.binds .any e = true ∧ (j = e.on ∨ (acc e.on).testBit j = true) := by
  rcases fold_bit _ _ h with h | h
  · simp at h
  · exact h

theorem aheadA_prefix : ∀ (l : List Oper) (acc : List Nat), ∃ r, aheadA l acc = acc ++ r
  | [], acc => ⟨[], by simp [aheadA]⟩
  | o :: l, acc => by
    simp only [aheadA, force_eq]
    obtain ⟨r, hr⟩ := aheadA_prefix l (acc ++ [oneA (fun k => acc.getD k 0) o])
    exact ⟨_ :: r, by rw [hr]; simp; rfl⟩

theorem aheadA_get : ∀ (l : List Oper) (acc : List Nat) (p : Nat) (o : Oper), l[p]? = some o →
    (aheadA l acc).getD (acc.length + p) 0 = oneA (fun k => if k < acc.length + p then (aheadA l acc).getD k 0 else 0) o
  | [], acc, p, o, h => by simp at h
  | x :: l, acc, p, o, h => by
    simp only [aheadA, force_eq]
    cases p with
    | zero =>
      simp at h; subst h
      obtain ⟨r, hr⟩ := aheadA_prefix l (acc ++ [oneA (fun k => acc.getD k 0) x])
      rw [hr]
      have e1 : (acc ++ [oneA (fun k => acc.getD k 0) x] ++ r).getD (acc.length + 0) 0 = oneA (fun k => acc.getD k 0) x := by
        simp [List.getD_eq_getElem?_getD]
      rw [e1]
      congr 1
      funext k
      by_cases hk : k < acc.length + 0
      · rw [if_pos hk]
        have hk' : k < acc.length := by omega
        simp only [List.getD_eq_getElem?_getD, List.append_assoc]
        rw [List.getElem?_append_left hk']
      · rw [if_neg hk]
        have hk' : acc.length ≤ k := by omega
        simp only [List.getD_eq_getElem?_getD]
        rw [List.getElem?_eq_none hk']; rfl
    | succ p =>
      have := aheadA_get l (acc ++ [oneA (fun k => acc.getD k 0) x]) p o (by simpa using h)
      simp only [List.length_append, List.length_cons, List.length_nil, Nat.zero_add] at this
      rw [show acc.length + (p + 1) = acc.length + 1 + p by omega]
      exact this

theorem ahead_closed {ops : List Oper} {S : Nat → Bool} (hS : ∀ i o, ops[i]? = some o → S i = true → ∀ e ∈ o.after.toList, Region.binds .any e = true → S e.on = true) :
    ∀ (i : Nat) (o : Oper), ops[i]? = some o → (∀ e ∈ o.after.toList, Region.binds .any e = true → S e.on = true) → ∀ j, ((aheadA ops []).getD i 0).testBit j = true → S j = true := by
  intro i
  induction i using Nat.strongRecOn with
  | _ i ih =>
    intro o ho he j hj
    have hg := aheadA_get ops [] i o ho
    simp only [List.length_nil, Nat.zero_add] at hg
    rw [hg] at hj
    obtain ⟨e, hin, hb, rfl | h⟩ := oneA_bit hj
    · exact he e hin hb
    · by_cases hlt : e.on < i
      · simp only [hlt, if_true] at h
        have hlt' : e.on < ops.length := Nat.lt_trans hlt (List.getElem?_eq_some_iff.1 ho).1
        exact ih e.on hlt ops[e.on] (List.getElem?_eq_getElem hlt') (hS e.on _ (List.getElem?_eq_getElem hlt') (he e hin hb)) j h
      · simp [hlt] at h

theorem tailFrom_spec (lt : Bool) (as : List AOper) (bs : List Nat) : ∀ (m i : Nat), tailFrom lt as bs m ≤ i → i < m → lightAt lt as i = true ∨ lastOne lt as bs i = true
  | 0, i, _, h => by omega
  | m + 1, i, h1, h2 => by
    simp only [tailFrom] at h1
    split at h1
    · rename_i hl
      rcases Nat.lt_or_ge i m with h | h
      · exact tailFrom_spec lt as bs m i h1 h
      · have : i = m := by omega
        subst this; simpa using hl
    · omega

theorem tailFrom_le (lt : Bool) (as : List AOper) (bs : List Nat) : ∀ m, tailFrom lt as bs m ≤ m
  | 0 => Nat.le_refl _
  | m + 1 => by
    simp only [tailFrom]
    split
    · have := tailFrom_le lt as bs m; omega
    · omega

/-! ### light operations: what they answer hangs on the cells of no block -/
theorem light_makes {p : AOp} (h : p.light = true) : p.makes = false := by cases p <;> simp [AOp.light, AOp.makes] at h ⊢
theorem alive_map {α : Type} {H H2 : AHeap} {b : Nat} {x : α} {y : α} (hs : (hcells H b).isSome = true → (hcells H2 b).isSome = true) (h : (hcells H b).map (fun _ => x) = some y) : x = y ∧ (hcells H2 b).isSome = true := by
  cases hc : hcells H b with
  | none => rw [hc] at h; cases h
  | some l => rw [hc] at h; exact ⟨by simpa using h, hs (by rw [hc]; rfl)⟩
theorem some_map {α : Type} {H2 : AHeap} {b : Nat} {x : α} (h : (hcells H2 b).isSome = true) : (hcells H2 b).map (fun _ => x) = some x := by
  cases hc : hcells H2 b with
  | none => rw [hc] at h; cases h
  | some l => rfl
theorem light_sub {fl fl' : Nat} {H H2 H' : AHeap} {ev : AOpd → AV} {p : AOp} {v : AV} (hm : p.light = true) (hs : ∀ x ∈ p.opds, ∀ b ∈ (ev x).blks, (hcells H b).isSome = true → (hcells H2 b).isSome = true)
    (h : stepA fl H ev p = some (v, H')) : H' = H ∧ stepA fl' H2 ev p = some (v, H2) := by
  cases p <;> simp [AOp.light] at hm <;> simp only [AOp.opds, List.mem_cons, List.not_mem_nil, or_false, forall_eq_or_imp, forall_eq] at hs <;> simp only [stepA] at h ⊢
  case nilCheck x =>
    split at h
    · rename_i b o e
      rw [e] at hs
      obtain ⟨e', hl⟩ := alive_map (hs b (by simp [AV.blks])) h
      simp only [Prod.mk.injEq] at e'; obtain ⟨rfl, rfl⟩ := e'
      exact ⟨rfl, some_map hl⟩
    · cases h
  case fieldAddr off x =>
    split at h
    · rename_i b o e
      rw [e] at hs
      obtain ⟨e', hl⟩ := alive_map (hs b (by simp [AV.blks])) h
      simp only [Prod.mk.injEq] at e'; obtain ⟨rfl, rfl⟩ := e'
      exact ⟨rfl, some_map hl⟩
    · cases h
  case idxSlc sz x i =>
    split at h
    · rename_i b o n sz' k i e1 e2
      rw [e1] at hs
      split at h
      · rename_i hc
        obtain ⟨e', hl⟩ := alive_map (hs.1 b (by simp [AV.blks])) h
        simp only [Prod.mk.injEq] at e'; obtain ⟨rfl, rfl⟩ := e'
        exact ⟨rfl, by rw [if_pos hc]; exact some_map hl⟩
      · cases h
    · cases h
  case idxArr n sz x i =>
    split at h
    · rename_i b o k i e1 e2
      rw [e1] at hs
      split at h
      · rename_i hc
        obtain ⟨e', hl⟩ := alive_map (hs.1 b (by simp [AV.blks])) h
        simp only [Prod.mk.injEq] at e'; obtain ⟨rfl, rfl⟩ := e'
        exact ⟨rfl, by rw [if_pos hc]; exact some_map hl⟩
      · cases h
    · cases h
  all_goals
    clear hs
    repeat' first
      | (cases h; done)
      | (obtain ⟨q, hq, e'⟩ := map_some h; simp only [Prod.mk.injEq] at e'; obtain ⟨rfl, rfl⟩ := e'; exact ⟨rfl, by simp_all⟩)
      | (simp only [Option.some.injEq, Prod.mk.injEq] at h; obtain ⟨rfl, rfl⟩ := h; exact ⟨rfl, by simp_all⟩)
      | split at h

/-- what kills no block leaves each where it is -/
theorem step_alive {fl : Nat} {H H' : AHeap} {ev : AOpd → AV} {p : AOp} {v : AV} (hk : p.kills = false) (h : stepA fl H ev p = some (v, H')) : H.length ≤ H'.length ∧ ∀ b, b < H.length → (hcells H' b).isSome = (hcells H b).isSome := by
  have push : ∀ l : AHeap, H.length ≤ (H ++ l).length ∧ ∀ b, b < H.length → (hcells (H ++ l) b).isSome = (hcells H b).isSome := fun l => ⟨by simp, fun b hb => by simp [hcells, List.getElem?_append, hb]⟩
  have write : ∀ {b o vs H'}, writeN fl H b o vs = some H' → H.length ≤ H'.length ∧ ∀ b, b < H.length → (hcells H' b).isSome = (hcells H b).isSome := fun {b o vs H'} hw => by
    simp only [writeN] at hw
    split at hw
    · rename_i cs hc
      split at hw
      · simp only [Option.some.injEq] at hw
        subst hw
        refine ⟨by simp, fun c hc' => ?_⟩
        simp only [hcells, List.getElem?_set]
        by_cases e : b = c
        · subst e
          rw [if_pos rfl, if_pos hc']
          simp only [hown] at hc
          split at hc
          · rename_i hb; rw [hb]; rfl
          · cases hc
        · rw [if_neg e]
      · cases hw
    · cases hw
  by_cases hm : p.makes = true
  · cases p <;> simp [AOp.makes] at hm <;> simp [AOp.kills] at hk <;> simp only [stepA] at h
    case alloc z => simp only [Option.some.injEq, Prod.mk.injEq] at h; obtain ⟨_, rfl⟩ := h; exact push _
    case box x =>
      split at h
      · simp only [Option.some.injEq, Prod.mk.injEq] at h; obtain ⟨_, rfl⟩ := h; exact push _
      · cases h
    case buildSlice z sz l ps =>
      split at h
      · simp only [Option.some.injEq, Prod.mk.injEq] at h; obtain ⟨_, rfl⟩ := h; exact push _
      · cases h
    case store n a x =>
      split at h
      · split at h
        · obtain ⟨H1, h1, e⟩ := map_some h
          simp only [Prod.mk.injEq] at e; obtain ⟨_, rfl⟩ := e
          exact write h1
        · cases h
      · cases h
    case strBytes x =>
      split at h
      · simp only [Option.some.injEq, Prod.mk.injEq] at h; obtain ⟨_, rfl⟩ := h; exact push _
      · cases h
    case makeSlice z by_ l c =>
      split at h
      · split at h
        · simp only [Option.some.injEq, Prod.mk.injEq] at h; obtain ⟨_, rfl⟩ := h; exact push _
        · cases h
      · cases h
    case copy sz d s =>
      split at h
      · split at h
        · obtain ⟨H1, h1, e⟩ := map_some h
          simp only [Prod.mk.injEq] at e; obtain ⟨_, rfl⟩ := e
          exact write h1
        · cases h
      · cases h
  · have hm : p.makes = false := by simpa using hm
    have := (look_sub (fl' := 0) (H2 := H) hm (fun _ _ _ _ _ h => h) h).1
    subst this
    exact ⟨Nat.le_refl _, fun _ _ => rfl⟩


/-! ### the order of the text -/
structure Trace (call : ACall) (fl : Nat) (as : List AOper) (n : Nat) (F : Nat → AFrame) (G : Nat → AHeap) (V : Nat → AV) : Prop where
  step : ∀ (i : Nat) (o : AOper), as[i]? = some o →
    ((wantedA (F i) o.guard = true ∧ execA call (if i < n then (G i).length else fl) (F i) (G i) o.op = some (V i, G (i + 1))) ∨ (wantedA (F i) o.guard = false ∧ V i = aundef ∧ G (i + 1) = G i)) ∧ F (i + 1) = putA (F i) o.dst (V i)

theorem trace_ex {call : ACall} {fl : Nat} : ∀ (as : List AOper) (n : Nat) (fr fr1 fr' : AFrame) (H H1 H' : AHeap), evalHead call (as.take n) fr H = some (fr1, H1) → evalOps call fl (as.drop n) fr1 H1 = some (fr', H') →
    ∃ F G V, Trace call fl as n F G V ∧ F 0 = fr ∧ G 0 = H ∧ F as.length = fr' ∧ G as.length = H'
  | [], n, fr, fr1, fr', H, H1, H', h1, h2 => by
    simp [evalHead] at h1
    simp [evalOps] at h2
    obtain ⟨rfl, rfl⟩ := h1
    obtain ⟨rfl, rfl⟩ := h2
    exact ⟨fun _ => fr, fun _ => H, fun _ => aundef, ⟨fun i o h => by simp at h⟩, rfl, rfl, rfl, rfl⟩
  | o :: as, n, fr, fr1, fr', H, H1, H', h1, h2 => by
    -- the first step, and what is left
    have key : ∃ v H2 m, ((wantedA fr o.guard = true ∧ execA call (if 0 < n then H.length else fl) fr H o.op = some (v, H2)) ∨ (wantedA fr o.guard = false ∧ v = aundef ∧ H2 = H)) ∧
        (∃ g1 K1, evalHead call (as.take m) (putA fr o.dst v) H2 = some (g1, K1) ∧ evalOps call fl (as.drop m) g1 K1 = some (fr', H')) ∧ m = n - 1 := by
      cases n with
      | zero =>
        simp [evalHead] at h1
        obtain ⟨rfl, rfl⟩ := h1
        simp only [List.drop_zero, evalOps] at h2
        split at h2
        · rename_i hw
          split at h2
          · rename_i v H2 hx
            exact ⟨v, H2, 0, .inl ⟨hw, by simpa using hx⟩, ⟨_, _, rfl, h2⟩, rfl⟩
          · cases h2
        · rename_i hw
          exact ⟨aundef, H, 0, .inr ⟨by simpa using hw, rfl, rfl⟩, ⟨_, _, rfl, h2⟩, rfl⟩
      | succ n =>
        simp only [List.take_succ_cons, evalHead] at h1
        simp only [List.drop_succ_cons] at h2
        split at h1
        · rename_i hw
          split at h1
          · rename_i v H2 hx
            exact ⟨v, H2, n, .inl ⟨hw, by simpa using hx⟩, ⟨_, _, h1, h2⟩, rfl⟩
          · cases h1
        · rename_i hw
          exact ⟨aundef, H, n, .inr ⟨by simpa using hw, rfl, rfl⟩, ⟨_, _, h1, h2⟩, rfl⟩
    obtain ⟨v, H2, m, hstep, ⟨g1, K1, e1, e2⟩, hm⟩ := key
    obtain ⟨F, G, V, hT, hF0, hG0, hFe, hGe⟩ := trace_ex as m _ g1 fr' H2 K1 H' e1 e2
    refine ⟨fun i => match i with | 0 => fr | i + 1 => F i, fun i => match i with | 0 => H | i + 1 => G i, fun i => match i with | 0 => v | i + 1 => V i, ⟨?_⟩, rfl, rfl, hFe, hGe⟩
    intro i p hp
    cases i with
    | zero =>
      simp at hp; subst hp
      exact ⟨by simpa [hG0] using hstep, by simpa using hF0⟩
    | succ i =>
      have := hT.step i p (by simpa using hp)
      have hlt : (i < m) ↔ (i + 1 < n) := by omega
      simp only [hlt] at this
      exact this

/-! ### frames by parts -/
def dstAt (as : List AOper) (i : Nat) : Option Nat := (as[i]?).bind (·.dst)
def foldF (as : List AOper) (V : Nat → AV) (m : Nat → Bool) (fr : AFrame) : Nat → AFrame
  | 0 => fr
  | N + 1 => if m N then putA (foldF as V m fr N) (dstAt as N) (V N) else foldF as V m fr N

section
variable {as : List AOper} {V : Nat → AV} {fr : AFrame}
theorem putA_length (f : AFrame) (d : Option Nat) (v : AV) : (putA f d v).length = f.length := by cases d <;> simp [putA]
theorem foldF_length (m : Nat → Bool) : ∀ N, (foldF as V m fr N).length = fr.length
  | 0 => rfl
  | N + 1 => by simp only [foldF]; split <;> simp [putA_length, foldF_length m N]

theorem putA_other {f : AFrame} {d : Option Nat} {v : AV} {s : Nat} (h : d ≠ some s) : (putA f d v)[s]? = f[s]? := by
  cases d with
  | none => rfl
  | some d =>
    simp only [putA]
    rw [List.getElem?_set, if_neg (fun e => h (by rw [e]))]
theorem putA_same {f : AFrame} {v : AV} {s : Nat} : (putA f (some s) v)[s]? = if s < f.length then some v else none := by
  simp only [putA]
  rw [List.getElem?_set, if_pos rfl]

theorem foldF_slot {m m' : Nat → Bool} {s : Nat} : ∀ N, (∀ k, k < N → dstAt as k = some s → m k = m' k) → (foldF as V m fr N)[s]? = (foldF as V m' fr N)[s]?
  | 0, _ => rfl
  | N + 1, h => by
    have ih := foldF_slot (m := m) (m' := m') (s := s) N fun k hk hd => h k (by omega) hd
    simp only [foldF]
    by_cases hd : dstAt as N = some s
    · rw [h N (by omega) hd]
      split
      · rw [hd, putA_same, putA_same, foldF_length, foldF_length]
      · exact ih
    · split <;> split <;> (try simp only [putA_other hd]) <;> exact ih

theorem foldF_last {m : Nat → Bool} {s i : Nat} (hm : m i = true) (hd : dstAt as i = some s) : ∀ N, i < N → (∀ k, i < k → k < N → dstAt as k = some s → m k = false) →
    (foldF as V m fr N)[s]? = if s < fr.length then some (V i) else none
  | 0, h, _ => by omega
  | N + 1, h, hk => by
    simp only [foldF]
    by_cases hN : N = i
    · subst hN
      rw [if_pos hm, hd, putA_same, foldF_length]
    · have ih := foldF_last hm hd N (by omega) fun k h1 h2 => hk k h1 (by omega)
      by_cases hdN : dstAt as N = some s
      · rw [hk N (by omega) (by omega) hdN]; exact ih
      · split
        · rw [putA_other hdN]; exact ih
        · exact ih

theorem foldF_add {m : Nat → Bool} {i N : Nat} (hi : i < N) (hlater : ∀ d k, dstAt as i = some d → i < k → k < N → dstAt as k = some d → m k = false) :
    foldF as V (fun k => if k = i then true else m k) fr N = putA (foldF as V m fr N) (dstAt as i) (V i) := by
  apply List.ext_getElem?
  intro s
  by_cases hd : dstAt as i = some s
  · rw [hd, putA_same, foldF_length]
    refine foldF_last (i := i) (by simp) hd N hi fun k h1 h2 h3 => ?_
    rw [if_neg (by omega)]; exact hlater s k hd h1 h2 h3
  · rw [putA_other hd]
    refine foldF_slot N fun k _ hk => ?_
    rw [if_neg (fun e => hd (by rw [← e]; exact hk))]

theorem trace_F {call : ACall} {fl n : Nat} {F : Nat → AFrame} {G : Nat → AHeap} (hT : Trace call fl as n F G V) (hF0 : F 0 = fr) : ∀ i, i ≤ as.length → ∀ N, i ≤ N → F i = foldF as V (fun k => decide (k < i)) fr N := by
  have h1 : ∀ i, i ≤ as.length → ∀ q, i ≤ q → F i = foldF as V (fun k => decide (k < q)) fr i := by
    intro i
    induction i with
    | zero => intro _ q _; exact hF0
    | succ i ih =>
      intro hi q hq
      have hlt : i < as.length := by omega
      have hs := (hT.step i _ (List.getElem?_eq_getElem hlt)).2
      simp only [foldF]
      rw [if_pos (by simp; omega), ← ih (by omega) q (by omega), hs]
      simp [dstAt, hlt]
  intro i hi N hN
  induction N with
  | zero => have : i = 0 := by omega
            subst this; exact hF0
  | succ N ih =>
    by_cases hiN : i = N + 1
    · subst hiN; exact h1 _ hi _ (Nat.le_refl _)
    · simp only [foldF]
      rw [if_neg (by simp; omega)]
      exact ih (by omega)
end

theorem ev_same {f1 f2 : AFrame} {x : AOpd} (h : ∀ t, x = .t t → f1[t]? = f2[t]?) : x.ev f1 = x.ev f2 := by
  cases x with
  | t i => simp only [AOpd.ev, List.getD_eq_getElem?_getD, h i rfl]
  | k v => rfl

theorem countP_lt {p q : Nat → Bool} {i : Nat} : ∀ {l : List Nat}, (∀ x ∈ l, q x = true → p x = true) → i ∈ l → p i = true → q i = false → l.countP q + 1 ≤ l.countP p
  | [], _, h, _, _ => by simp at h
  | x :: l, hsub, hi, hp, hq => by
    have hle : ∀ {l : List Nat}, (∀ x ∈ l, q x = true → p x = true) → l.countP q ≤ l.countP p := fun {l} h => List.countP_mono_left h
    simp only [List.countP_cons]
    rcases List.mem_cons.1 hi with rfl | hi
    · have := hle (l := l) fun x hx => hsub x (by simp [hx])
      simp [hp, hq]; omega
    · have ih := countP_lt (fun x hx => hsub x (by simp [hx])) hi hp hq
      by_cases hx : q x = true
      · have := hsub x (by simp) hx
        simp [hx, this]; omega
      · simp at hx
        simp only [hx, Bool.false_eq_true, if_false, Nat.add_zero]
        omega
end PAbs

/- Statements whose order is open: the theorem itself; and so: a call of the abstract machine is a call of the model. -/
namespace PAbs
open Go Go.RowKit
set_option linter.unusedSimpArgs false
set_option linter.unusedVariables false

theorem optMap_get {α β : Type} {f : α → Option β} : ∀ {l : List α} {r : List β}, optMap f l = some r → l.length = r.length ∧ ∀ (i : Nat) (x : α) (y : β), l[i]? = some x → r[i]? = some y → f x = some y
  | [], r, h => by simp [optMap] at h; subst h; exact ⟨rfl, fun i x y h => by simp at h⟩
  | a :: l, r, h => by
    simp only [optMap] at h
    split at h
    · rename_i b r' h1 h2
      simp only [Option.some.injEq] at h; subst h
      obtain ⟨e, hg⟩ := optMap_get h2
      refine ⟨by simp [e], fun i x y hx hy => ?_⟩
      cases i with
      | zero => simp at hx hy; subst hx hy; exact h1
      | succ i => exact hg i x y (by simpa using hx) (by simpa using hy)
    · cases h

theorem drawWith_spec {lt : Bool} {ops : List Oper} {as : List AOper} {n : Nat} (h : drawWith lt ops as = some n) :
    n ≤ ops.length ∧ (∀ i, n ≤ i → i < ops.length → lightAt lt as i = false → ∀ j, j < i → lightAt lt as j = false → ((aheadA ops []).getD i 0).testBit j = true) ∧
    (∀ i, i < ops.length → ∀ j, j < i → pairOk as (aheadA ops []) i j = true ∧ (n ≤ i ∨ rowOk as (aheadA ops []) i j = true)) ∧
    (∀ i o, ops[i]? = some o → ∀ e ∈ o.after.toList, Region.binds .any e = true → e.on < i) ∧ (∀ ao ∈ as, constOk ao = true) ∧
    (lt = true → ∀ k, n ≤ k → k < ops.length → killsAt as k = false) := by
  unfold drawWith at h
  dsimp only at h
  generalize hn0 : max (tailFrom lt as (aheadA ops []) ops.length) (if lt = true then lastKill as else 0) = n0 at h
  have hmax : tailFrom lt as (aheadA ops []) ops.length ≤ n0 := by rw [← hn0]; exact Nat.le_max_left _ _
  split at h
  · rename_i hc
    simp only [Option.some.injEq] at h
    rw [Bool.and_eq_true, Bool.and_eq_true, Bool.and_eq_true, Bool.and_eq_true] at hc
    obtain ⟨⟨⟨⟨h0, h1⟩, h2⟩, h5⟩, h6⟩ := hc
    rw [List.all_eq_true] at h1 h2 h5
    have h0 := of_decide_eq_true h0
    refine ⟨by rw [← h]; exact h0, fun i hi1 hi2 hli j hj hlj => ?_, fun i hi j hj => ?_, fun i o ho e he hb => ?_, h5, fun hlt k hk1 hk2 => ?_⟩
    · rcases tailFrom_spec lt as (aheadA ops []) ops.length i (by rw [← h] at hi1; exact Nat.le_trans hmax hi1) hi2 with this | this
      · rw [hli] at this; cases this
      · unfold lastOne at this
        rw [List.all_eq_true] at this
        have := this j (List.mem_range.2 hj)
        rw [hlj, Bool.false_or] at this; exact this
    · have := h1 i (List.mem_range.2 hi)
      rw [List.all_eq_true] at this
      have := this j (List.mem_range.2 hj)
      rw [Bool.and_eq_true] at this
      refine ⟨this.1, ?_⟩
      have h3 := this.2
      rw [Bool.or_eq_true] at h3
      rcases h3 with h3 | h3
      · left; rw [← h]; simpa using h3
      · exact .inr h3
    · have hmem : (o, i) ∈ ops.zipIdx := by
        rw [List.mem_zipIdx_iff_getElem?]; exact ho
      have := h2 (o, i) hmem
      simp only at this
      rw [Array.all_eq_true_iff_forall_mem] at this
      have := this e (by simpa using he)
      simp only [hb, Bool.not_true, Bool.false_or, decide_eq_true_eq] at this
      exact this
    · rw [hlt, Bool.not_true, Bool.false_or, List.all_eq_true] at h6
      have := h6 k (List.mem_range.2 hk2)
      rw [Bool.or_eq_true] at this
      rcases this with this | this
      · have : k < n := by rw [← h]; simpa using this
        omega
      · simpa using this
  · cases h
theorem drawOk_spec {ops : List Oper} {as : List AOper} {n : Nat} (h : drawOk ops as = some n) : ∃ lt, drawWith lt ops as = some n := by
  unfold drawOk at h
  split at h
  · rename_i m hm
    split at h
    · split at h
      · rename_i m' hm'
        simp only [Option.some.injEq] at h; subst h; exact ⟨true, hm'⟩
      · simp only [Option.some.injEq] at h; subst h; exact ⟨false, hm⟩
    · simp only [Option.some.injEq] at h; subst h; exact ⟨false, hm⟩
  · exact ⟨true, h⟩

section
variable {P : Program} {call : ACall}

theorem draw_gen (hm : P.follows .mixedOrders = true) (hc : CallSpec P call) (hk : KeptSpec call) {lt : Bool} {id : Nat} {ops : Array Oper} {as : List AOper} {n base fl B : Nat} {fr fr1 fr' : AFrame} {H H1 H' : AHeap} {ρo ρ0 : List Reg} {a0 : Act} {w0 : World} {z : List Cell} (qo : Option Nat)
    (hlen : ops.toList.length = as.length) (hget : ∀ (i : Nat) (x : Oper) (y : AOper), ops.toList[i]? = some x → as[i]? = some y → qo ≠ some i → resOper P ops.toList x = some y)
    (hq : ∀ i, qo = some i → i < n ∧ ∃ o d t, ops[i]? = some o ∧ o.op = .alloc t ∧ zeroA P t = some z ∧ o.dst = some d ∧ o.guard = none ∧ as[i]? = some ⟨some d, .blk B, none⟩)
    (hqb : ∀ i, qo = some i → ∀ k, n ≤ k → k < ops.size → lightAt lt as k = false → ((aheadA ops.toList []).getD k 0).testBit i = true)
    (hdr : drawWith lt ops.toList as = some n) (hH0 : HR base ρ0 H w0) (hF0 : FR ρ0 fr a0.tmps) (hx0 : RExt ρo ρ0)
    (hfut : ∀ i, qo = some i → ρ0[B]? = some .future ∧ H[B]? = some (.own z) ∧ ρo.length ≤ B)
    (hhead : evalHead call (as.take n) fr H = some (fr1, H1)) (htail : evalOps call fl (as.drop n) fr1 H1 = some (fr', H'))
    (Q : Exit → Act → World → Prop) (hQ : ∀ a' w', Left base ρo w0 a0 fr' H' a' w' → Q .normal a' w') : (Code.region id ops true).wp P Q a0 w0 := by
  obtain ⟨hn, htl, hpr, hedge, hconst, htame⟩ := drawWith_spec hdr
  obtain ⟨F, G, V, hT, hFz, hGz, hFe, hGe⟩ := trace_ex as n fr fr1 fr' H H1 H' hhead htail
  obtain ⟨N, hN⟩ : ∃ N, N = ops.size := ⟨_, rfl⟩
  have hNl : ops.toList.length = N := by simp [hN]
  have hNa : as.length = N := by rw [← hlen, hNl]
  have hasGet : ∀ i, i < N → ∃ o ao, ops[i]? = some o ∧ ops.toList[i]? = some o ∧ as[i]? = some ao ∧ (qo ≠ some i → resOper P ops.toList o = some ao) := fun i hi => by
    have h1 : i < ops.toList.length := by omega
    have h2 : i < as.length := by omega
    refine ⟨ops.toList[i], as[i], ?_, List.getElem?_eq_getElem h1, List.getElem?_eq_getElem h2, hget i _ _ (List.getElem?_eq_getElem h1) (List.getElem?_eq_getElem h2)⟩
    simp
  -- the makers, and what lies behind the head
  let mk : Nat → Prop := fun k => (n ≤ k ∧ lightAt lt as k = false) ∨ ∃ ao, as[k]? = some ao ∧ ao.op.makes = true
  have mkHeavy : ∀ k, mk k → lightAt lt as k = false := fun k hk => by
    rcases hk with h | ⟨ao, h1, h2⟩
    · exact h.2
    · cases hl : lightAt lt as k with
      | false => rfl
      | true =>
        unfold lightAt at hl
        rw [h1, Bool.and_eq_true] at hl
        have := light_makes hl.2
        rw [h2] at this; cases this
  have still : ∀ k, k < N → ¬ mk k → G (k + 1) = G k := fun k hkN hnm => by
    obtain ⟨o, ao, _, _, hao, _⟩ := hasGet k hkN
    have hmf : ao.op.makes = false := by
      cases hb : ao.op.makes with
      | false => rfl
      | true => exact absurd (.inr ⟨ao, hao, hb⟩) hnm
    rcases (hT.step k ao hao).1 with ⟨_, hx⟩ | ⟨_, _, hx⟩
    · have hx' : stepA (if k < n then (G k).length else fl) (G k) (·.ev (F k)) ao.op = some (V k, G (k + 1)) := by
        cases hop : ao.op <;> rw [hop] at hx hmf <;> first | exact hx | (simp [AOp.makes] at hmf)
      exact (look_sub (fl' := 0) (H2 := G k) hmf (fun _ _ _ _ _ h => h) hx').1
    · exact hx
  have stillTo : ∀ j i, j ≤ i → i ≤ N → (∀ k, j ≤ k → k < i → ¬ mk k) → G i = G j := fun j i hji hiN hno => by
    induction i with
    | zero => have : j = 0 := by omega
              subst this; rfl
    | succ i ih =>
      by_cases he : j = i + 1
      · subst he; rfl
      · rw [still i (by omega) (hno i (by omega) (by omega))]
        exact ih (by omega) (by omega) fun k h1 h2 => hno k h1 (by omega)
  have headGrow : ∀ p q, p ≤ q → q ≤ n → (G p).length ≤ (G q).length ∧ ∀ b, b < (G p).length → (G q)[b]? = (G p)[b]? := fun p q hpq hqn => by
    induction q with
    | zero => have : p = 0 := by omega
              subst this; exact ⟨Nat.le_refl _, fun _ _ => rfl⟩
    | succ q ih =>
      by_cases he : p = q + 1
      · subst he; exact ⟨Nat.le_refl _, fun _ _ => rfl⟩
      · obtain ⟨g1, g2⟩ := ih (by omega) (by omega)
        have hqN : q < N := by omega
        obtain ⟨o, ao, _, _, hao, _⟩ := hasGet q hqN
        have hkq : Kept (G q).length (G q) (G (q + 1)) := by
          rcases (hT.step q ao hao).1 with ⟨_, hx⟩ | ⟨_, _, hx⟩
          · rw [if_pos (by omega)] at hx; exact execA_kept hk hx
          · rw [hx]; exact Kept.refl _ _
        exact ⟨Nat.le_trans g1 hkq.1, fun b hb => (hkq.2 b (by omega) (by omega)).trans (g2 b hb)⟩
  -- no block dies, where light ones may go late
  have aliveStep : lt = true → ∀ q, q < N → (G q).length ≤ (G (q + 1)).length ∧ ∀ b, b < (G q).length → (hcells (G (q + 1)) b).isSome = (hcells (G q) b).isSome := fun hlt q hqN => by
    rcases Nat.lt_or_ge q n with hqn | hqn
    · obtain ⟨g1, g2⟩ := headGrow q (q + 1) (by omega) (by omega)
      exact ⟨g1, fun b hb => by simp only [hcells, g2 b hb]⟩
    · obtain ⟨o, ao, _, _, hao, _⟩ := hasGet q hqN
      have hkl : ao.op.kills = false := by
        have := htame hlt q hqn (by omega)
        unfold killsAt at this
        rw [hao] at this; exact this
      rcases (hT.step q ao hao).1 with ⟨_, hx⟩ | ⟨_, _, hx⟩
      · have hx' : stepA (if q < n then (G q).length else fl) (G q) (·.ev (F q)) ao.op = some (V q, G (q + 1)) := by
          cases hop : ao.op <;> rw [hop] at hx hkl <;> first | exact hx | (simp [AOp.kills] at hkl)
        exact step_alive hkl hx'
      · rw [hx]; exact ⟨Nat.le_refl _, fun _ _ => rfl⟩
  have aliveGrow : lt = true → ∀ p q, p ≤ q → q ≤ N → (G p).length ≤ (G q).length ∧ ∀ b, b < (G p).length → (hcells (G q) b).isSome = (hcells (G p) b).isSome := fun hlt p q hpq hqN => by
    induction q with
    | zero => have : p = 0 := by omega
              subst this; exact ⟨Nat.le_refl _, fun _ _ => rfl⟩
    | succ q ih =>
      by_cases he : p = q + 1
      · subst he; exact ⟨Nat.le_refl _, fun _ _ => rfl⟩
      · obtain ⟨g1, g2⟩ := ih (by omega) (by omega)
        obtain ⟨k1, k2⟩ := aliveStep hlt q (by omega)
        exact ⟨Nat.le_trans g1 k1, fun b hb => by rw [k2 b (by omega), g2 b hb]⟩
  -- the block that is made at any time
  have GB : ∀ i, qo = some i → ∀ j, j ≤ n → (G j)[B]? = some (.own z) := fun i hqi j hj => by
    obtain ⟨_, h2, _⟩ := hfut i hqi
    rw [(headGrow 0 j (Nat.zero_le _) hj).2 B (by rw [hGz]; exact (List.getElem?_eq_some_iff.1 h2).1), hGz]; exact h2
  have qHead : ∀ (listed : Array Bool) (j : Nat), (∀ i o, ops.toList[i]? = some o → listed.getD i false = true → ∀ e ∈ o.after.toList, Region.binds .any e = true → listed.getD e.on false = true) → j ≤ N →
      (j ≤ n ∨ ∃ k, n ≤ k ∧ k < j ∧ mk k) → (∀ k, k < N → mk k → (listed.getD k false = true ↔ k < j)) → ∀ i, qo = some i → listed.getD i false = false → j ≤ n := fun listed j hcl hj hjj hmk i hqi hun => by
    rcases hjj with h | ⟨k, h1, h2, h3⟩
    · exact h
    · have hln := (hmk k (by omega) h3).2 h2
      obtain ⟨ok, _, _, hokl, _, _⟩ := hasGet k (by omega)
      have := ahead_closed (S := fun k => listed.getD k false) hcl k ok hokl (hcl k ok hokl hln) i (hqb i hqi k h1 (by omega) (mkHeavy k h3))
      rw [hun] at this; cases this
  -- the invariant
  have main : ∀ (fuel : Nat) (listed : Array Bool) (a : Act) (w : World) (j : Nat) (ρ : List Reg), listed.size = N →
      (∀ i o, ops.toList[i]? = some o → listed.getD i false = true → ∀ e ∈ o.after.toList, Region.binds .any e = true → listed.getD e.on false = true) →
      (List.range N).countP (fun i => !listed.getD i false) ≤ fuel → j ≤ N → (j ≤ n ∨ ∃ k, n ≤ k ∧ k < j ∧ mk k) → (∀ k, k < N → mk k → (listed.getD k false = true ↔ k < j)) →
      HR base ρ (G j) w → FR ρ (foldF as V (fun k => listed.getD k false) fr N) a.tmps → RExt ρo ρ → Below base w0 w → a.defers = a0.defers → (∀ i, qo = some i → listed.getD i false = false → ρ[B]? = some .future) →
      wpAny P .any ops Q fuel listed a w := by
    intro fuel
    induction fuel with
    | zero =>
      intro listed a w j ρ hsz hcl hcnt hj hjj hmk hH hF hx hB hd hfu
      have hall : ∀ i, i < N → listed.getD i false = true := fun i hi => by
        cases hb : listed.getD i false with
        | true => rfl
        | false =>
          have : 0 < (List.range N).countP (fun i => !listed.getD i false) := List.countP_pos_iff.2 ⟨i, List.mem_range.2 hi, by simp only [hb]; rfl⟩
          omega
      refine ⟨?_, ?_⟩
      · unfold Region.ready
        rw [List.filter_eq_nil_iff]
        intro i hi
        have hi' : i < N := by simpa [hN] using hi
        have h1 := hall i hi'
        have h2 : listed.getD i true = true := by
          rw [Array.getD_eq_getD_getElem?] at h1 ⊢
          have : i < listed.size := by omega
          rw [Array.getElem?_eq_getElem this] at h1 ⊢
          exact h1
        simp [h2]
      · refine hQ a w ⟨ρ, ?_, ?_, hx, hB, hd⟩
        · rw [← hGe, hNa]
          have := stillTo j N hj (Nat.le_refl _) fun k h1 h2 hmk' => by
            have := (hmk k h2 hmk').1 (hall k h2); omega
          rw [this]; exact hH
        · rw [← hFe, hNa, trace_F hT hFz N (by omega) N (Nat.le_refl _)]
          have : foldF as V (fun k => decide (k < N)) fr N = foldF as V (fun k => listed.getD k false) fr N := by
            apply List.ext_getElem?
            intro s
            exact foldF_slot N fun k hk _ => by rw [hall k hk]; simpa using hk
          rw [this]; exact hF
    | succ fuel ih =>
      intro listed a w j ρ hsz hcl hcnt hj hjj hmk hH hF hx hB hd hfu
      have hD : ∀ i, i < N → listed.getD i true = listed.getD i false := fun i hi => by
        rw [Array.getD_eq_getD_getElem?, Array.getD_eq_getD_getElem?, Array.getElem?_eq_getElem (by omega : i < listed.size)]; rfl
      refine ⟨fun hnil => ?_, fun i hi => ?_⟩
      · -- nothing is ready: all is listed
        have hall : ∀ i, i < N → listed.getD i false = true := by
          intro i
          induction i using Nat.strongRecOn with
          | _ i ihi =>
            intro hi
            cases hb : listed.getD i false with
            | true => rfl
            | false =>
              obtain ⟨o, ao, ho, hol, _, _⟩ := hasGet i hi
              have : i ∈ Region.ready .any ops listed := by
                unfold Region.ready
                rw [List.mem_filter]
                refine ⟨by simpa [hN] using hi, ?_⟩
                rw [hD i hi, hb, ho]
                simp only [Bool.not_false, Bool.true_and, Option.map_some, Option.getD_some]
                rw [Array.all_eq_true_iff_forall_mem]
                intro e he
                cases hbd : Region.binds .any e with
                | false => rfl
                | true =>
                  have hlt := hedge i o hol e (by simpa using he) hbd
                  simp only [Bool.not_true, Bool.false_or]
                  exact ihi e.on hlt (by omega)
              rw [hnil] at this
              cases this
        refine hQ a w ⟨ρ, ?_, ?_, hx, hB, hd⟩
        · rw [← hGe, hNa]
          have := stillTo j N hj (Nat.le_refl _) fun k h1 h2 hmk' => by
            have := (hmk k h2 hmk').1 (hall k h2); omega
          rw [this]; exact hH
        · rw [← hFe, hNa, trace_F hT hFz N (by omega) N (Nat.le_refl _)]
          have : foldF as V (fun k => decide (k < N)) fr N = foldF as V (fun k => listed.getD k false) fr N := by
            apply List.ext_getElem?
            intro s
            exact foldF_slot N fun k hk _ => by rw [hall k hk]; simpa using hk
          rw [this]; exact hF
      · -- operation i goes next
        unfold Region.ready at hi
        rw [List.mem_filter] at hi
        obtain ⟨hi1, hi2⟩ := hi
        have hiN : i < N := by simpa [hN] using hi1
        obtain ⟨o, ao, ho, hol, hao, hres⟩ := hasGet i hiN
        rw [ho, hD i hiN] at hi2
        simp only [Option.map_some, Option.getD_some, Bool.and_eq_true, Bool.not_eq_true'] at hi2
        obtain ⟨hun, hedges⟩ := hi2
        have hedges' : ∀ e ∈ o.after.toList, Region.binds .any e = true → listed.getD e.on false = true := fun e he hb => by
          rw [Array.all_eq_true_iff_forall_mem] at hedges
          have := hedges e (by simpa using he)
          simpa [hb] using this
        have hahead : ∀ k, ((aheadA ops.toList []).getD i 0).testBit k = true → listed.getD k false = true := ahead_closed (S := fun k => listed.getD k false) hcl i o hol hedges'
        have hbehind : ∀ k, i < k → k < N → ((aheadA ops.toList []).getD k 0).testBit i = true → listed.getD k false = false := fun k hik hkN hbit => by
          cases hb : listed.getD k false with
          | false => rfl
          | true =>
            obtain ⟨ok, _, _, hokl, _, _⟩ := hasGet k hkN
            have := ahead_closed (S := fun k => listed.getD k false) hcl k ok hokl (hcl k ok hokl hb) i hbit
            rw [hun] at this; cases this
        -- who writes what i names
        have writers : ∀ s, s ∈ ao.names → ∀ k, k < N → dstAt as k = some s → k ≠ i → listed.getD k false = decide (k < i) := fun s hs k hkN hdk hne => by
          obtain ⟨ok, aok, _, _, haok, _⟩ := hasGet k hkN
          have hdk' : aok.dst = some s := by simpa [dstAt, haok] using hdk
          rcases Nat.lt_or_ge k i with hlt | hge
          · have hp := (hpr i (by omega) k hlt).1
            unfold pairOk at hp
            simp only [hao, haok, hdk'] at hp
            have hc' : ao.names.contains s = true := by simpa using hs
            simp only [hc', Bool.not_true, Bool.and_false, Bool.false_or] at hp
            rw [hahead k hp]; simpa using hlt
          · have hlt : i < k := by omega
            have hp := (hpr k (by omega) i hlt).1
            unfold pairOk at hp
            simp only [hao, haok, hdk'] at hp
            have hc' : ao.names.contains s = true := by simpa using hs
            simp only [hc', Bool.not_true, Bool.false_and, Bool.false_or] at hp
            rw [hbehind k hlt hkN hp]
            symm; simp; omega
        have hslot : ∀ s, s ∈ ao.sees → (foldF as V (fun k => listed.getD k false) fr N)[s]? = (F i)[s]? := fun s hs => by
          rw [trace_F hT hFz i (by omega) N (by omega)]
          refine foldF_slot N fun k hkN hdk => ?_
          by_cases hki : k = i
          · subst hki; rw [hun]; simp
          · exact writers s (by simp [AOper.names, hs]) k hkN hdk hki
        have hev : ∀ x ∈ ao.op.opds, x.ev (foldF as V (fun k => listed.getD k false) fr N) = x.ev (F i) := fun x hxm => ev_same fun t ht => by
          refine hslot t ?_
          subst ht
          simp only [AOper.sees, List.mem_append, List.mem_filterMap]
          exact .inl ⟨_, hxm, rfl⟩
        have hwant : wantedA (foldF as V (fun k => listed.getD k false) fr N) ao.guard = wantedA (F i) ao.guard := by
          unfold wantedA
          cases hg : ao.guard with
          | none => rfl
          | some g =>
            obtain ⟨t, want⟩ := g
            simp only
            rw [hslot t (by simp [AOper.sees, hg])]
        have hdi : dstAt as i = ao.dst := by simp [dstAt, hao]
        -- behind it
        have hsz' : (listed.setIfInBounds i true).size = N := by simp [hsz]
        have hl' : ∀ k, (listed.setIfInBounds i true).getD k false = if k = i then true else listed.getD k false := fun k => by
          simp only [Array.getD_eq_getD_getElem?, Array.getElem?_setIfInBounds]
          by_cases hki : i = k
          · subst hki; simp [hsz, hiN]
          · rw [if_neg hki, if_neg (fun e => hki e.symm)]
        have hcl' : ∀ k ok, ops.toList[k]? = some ok → (listed.setIfInBounds i true).getD k false = true → ∀ e ∈ ok.after.toList, Region.binds .any e = true → (listed.setIfInBounds i true).getD e.on false = true := fun k ok hok hlk e he hb => by
          rw [hl'] at hlk ⊢
          by_cases hei : e.on = i
          · rw [if_pos hei]
          · rw [if_neg hei]
            by_cases hki : k = i
            · subst hki
              rw [hol] at hok
              have : o = ok := by simpa using hok
              subst this
              exact hedges' e he hb
            · rw [if_neg hki] at hlk
              exact hcl k ok hok hlk e he hb
        have hcnt' : (List.range N).countP (fun k => !(listed.setIfInBounds i true).getD k false) ≤ fuel := by
          have := countP_lt (p := fun k => !listed.getD k false) (q := fun k => !(listed.setIfInBounds i true).getD k false) (i := i) (l := List.range N) (fun x _ hq => by
            rw [hl'] at hq
            by_cases hxi : x = i
            · rw [if_pos hxi] at hq; cases hq
            · rw [if_neg hxi] at hq; exact hq) (List.mem_range.2 hiN) (by simp only [hun]; rfl) (by simp only [hl']; simp)
          omega
        have hfold : foldF as V (fun k => (listed.setIfInBounds i true).getD k false) fr N = putA (foldF as V (fun k => listed.getD k false) fr N) ao.dst (V i) := by
          rw [← hdi, ← foldF_add (m := fun k => listed.getD k false) hiN fun d k hd hik hkN hdk => by
            have hmem : d ∈ ao.names := by
              rw [hdi] at hd
              simp [AOper.names, hd]
            rw [writers d hmem k hkN hdk (by omega)]
            simp; omega]
          congr 1
          funext k
          exact hl' k
        -- where the heap stands
        have hmkahead : mk i → ∀ k, k < i → mk k → listed.getD k false = true := fun hmi k hki hmk' => by
          by_cases hni : n ≤ i
          · exact hahead k (htl i hni (by omega) (mkHeavy i hmi) k hki (mkHeavy k hmk'))
          · have hk1 : ∃ aok, as[k]? = some aok ∧ aok.op.makes = true := by
              rcases hmk' with h | h
              · omega
              · exact h
            have hi1 : ∃ aoi, as[i]? = some aoi ∧ aoi.op.makes = true := by
              rcases hmi with h | h
              · omega
              · exact h
            obtain ⟨aok, hk1, hk2⟩ := hk1
            obtain ⟨aoi, hi1, hi2⟩ := hi1
            rcases (hpr i (by omega) k hki).2 with h | h
            · omega
            · unfold rowOk at h
              simp only [hi1, hk1, hi2, hk2, Bool.and_self, Bool.not_true, Bool.false_or] at h
              exact hahead k h
        have hji : mk i → j ≤ i := fun hmi => by
          rcases Nat.lt_or_ge i j with h | h
          · have := (hmk i hiN hmi).2 h
            rw [hun] at this; cases this
          · exact h
        have hGi : mk i → G i = G j := fun hmi => stillTo j i (hji hmi) (by omega) fun k h1 h2 hmk' => by
          have := (hmk k (by omega) hmk').1 (hmkahead hmi k h2 hmk'); omega
        have hjn : ¬ mk i → lightAt lt as i = false → j ≤ n ∧ i < n := fun hnm hli => by
          have hin : i < n := by
            rcases Nat.lt_or_ge i n with h | h
            · exact h
            · exact absurd (.inl ⟨h, hli⟩) hnm
          refine ⟨?_, hin⟩
          rcases hjj with h | ⟨m, hm1, hm2, hm3⟩
          · exact h
          · have hmN : m < N := by omega
            have hln := (hmk m hmN hm3).2 hm2
            obtain ⟨on, _, _, honl, _, _⟩ := hasGet m hmN
            have := ahead_closed (S := fun k => listed.getD k false) hcl m on honl (hcl m on honl hln) i (htl m hm1 (by omega) (mkHeavy m hm3) i (by omega) hli)
            rw [hun] at this; cases this
        by_cases hqi : qo = some i
        · -- the block is made
          obtain ⟨hin, o', d, t, ho', hot, hzt, hod, hog, has'⟩ := hq i hqi
          have : o = o' := by rw [ho] at ho'; simpa using ho'
          subst this
          have : ao = ⟨some d, .blk B, none⟩ := by rw [hao] at has'; simpa using has'
          subst this
          have hnm : ¬ mk i := fun h => by
            rcases h with h | ⟨ao, h1, h2⟩
            · omega
            · rw [hao] at h1
              simp only [Option.some.injEq] at h1; subst h1
              simp [AOp.makes] at h2
          have hmk2 : ∀ k, k < N → mk k → ((listed.setIfInBounds i true).getD k false = true ↔ k < j) := fun k hkN hmk' => by
            rw [hl']
            by_cases hki : k = i
            · subst hki; exact absurd hmk' hnm
            · rw [if_neg hki, hmk k hkN hmk']
          have hVi : V i = .c (.ptr B 0) := by
            rcases (hT.step i _ hao).1 with ⟨_, hx⟩ | ⟨hw, _, _⟩
            · simp only [execA, stepA, Option.some.injEq, Prod.mk.injEq] at hx; exact hx.1.symm
            · simp [wantedA] at hw
          have hf := hfu i hqi hun
          obtain ⟨u, w', r, hrun, g1, g2, g3⟩ := st_fill (a := a) hH hot hzt hf (GB i hqi j (qHead listed j hcl hj hjj hmk i hqi hun))
          unfold wpOp
          simp only [ho]
          rw [if_pos (by simp [Region.wanted, hog])]
          refine .inl ?_
          unfold Oper.wp
          rw [hrun]
          refine ih _ _ w' j (ρ.set B r) hsz' hcl' hcnt' hj hjj hmk2 g1 ?_ ?_ (hB.trans g3) ((Act.defers_put _ _ _).trans hd) ?_
          · rw [hfold, hVi, hod]
            exact (hF.fill hf).put _ g2
          · intro b x hb
            have hlt := (List.getElem?_eq_some_iff.1 hb).1
            have hle := (hfut i hqi).2.2
            rw [List.getElem?_set, if_neg (by omega)]
            exact hx b x hb
          · intro i' hqi' hun'
            have : i' = i := by rw [hqi] at hqi'; simpa using hqi'.symm
            rw [hl', if_pos this] at hun'; cases hun'
        have hres := hres hqi
        obtain ⟨hop, hdst⟩ := resOper_parts hres
        -- go on
        have goon : ∀ (u : Value) (w' : World) (ρ' : List Reg) (j' : Nat), j' ≤ N → (j' ≤ n ∨ ∃ k, n ≤ k ∧ k < j' ∧ mk k) → (∀ k, k < N → mk k → ((listed.setIfInBounds i true).getD k false = true ↔ k < j')) → HR base ρ' (G j') w' → RExt ρ ρ' → VR ρ' (V i) u → Below base w w' →
            wpAny P .any ops Q fuel (listed.setIfInBounds i true) (a.put o.dst u) w' := fun u w' ρ' j' hj' hjj' hmk' hH' hx' hv hB' => by
          refine ih _ _ w' j' ρ' hsz' hcl' hcnt' hj' hjj' hmk' hH' ?_ (hx.trans hx') (hB.trans hB') ((Act.defers_put _ _ _).trans hd) ?_
          · rw [hfold, ← hdst]
            exact (hF.ext hx').put _ hv
          · intro i' hqi hun'
            have hne : i' ≠ i := fun e => by rw [hl', if_pos e] at hun'; cases hun'
            have hun0 : listed.getD i' false = false := by rw [hl', if_neg hne] at hun'; exact hun'
            rcases hx' B _ (hfu i' hqi hun0) with h | h
            · exact h
            · exact (hH'.blk B _ _ (GB i' hqi j' (qHead _ j' hcl' hj' hjj' hmk' i' hqi hun')) h).elim
        have hjNew : mk i → (i + 1 ≤ n ∨ ∃ k, n ≤ k ∧ k < i + 1 ∧ mk k) := fun hmi => by
          rcases Nat.lt_or_ge i n with h | h
          · exact .inl h
          · exact .inr ⟨i, h, by omega, hmi⟩
        have hmkNew : mk i → ∀ k, k < N → mk k → ((listed.setIfInBounds i true).getD k false = true ↔ k < i + 1) := fun hmi k hkN hmk' => by
          rw [hl']
          by_cases hki : k = i
          · subst hki; simp
          · rw [if_neg hki, hmk k hkN hmk']
            have h1 := hji hmi
            constructor
            · intro h; omega
            · intro h
              exact (hmk k hkN hmk').1 (hmkahead hmi k (by omega) hmk')
        have hmkOld : ¬ mk i → ∀ k, k < N → mk k → ((listed.setIfInBounds i true).getD k false = true ↔ k < j) := fun hnm k hkN hmk' => by
          rw [hl']
          by_cases hki : k = i
          · subst hki; exact absurd hmk' hnm
          · rw [if_neg hki, hmk k hkN hmk']
        unfold wpOp
        simp only [ho]
        rw [wanted_same hF hres, hwant]
        rcases (hT.step i ao hao).1 with ⟨hw, hex⟩ | ⟨hw, hV, hGs⟩
        · rw [if_pos hw]
          refine .inl ?_
          by_cases hmi : mk i
          · have hex' : execA call (if i < n then (G i).length else fl) (foldF as V (fun k => listed.getD k false) fr N) (G j) ao.op = some (V i, G (i + 1)) := by
              rw [execA_congr ao.op hev, ← hGi hmi]; exact hex
            exact exec_sound hc hop hH hF hex' fun u w' ρ' h1 h2 h3 h4 => goon u w' ρ' (i + 1) (by omega) (hjNew hmi) (hmkNew hmi) h1 h2 h3 h4
          · have hmf : ao.op.makes = false := by
              cases hb : ao.op.makes with
              | false => rfl
              | true => exact absurd (.inr ⟨ao, hao, hb⟩) hmi
            have toStep : ∀ {fl0 : Nat} {f0 : AFrame} {H0 : AHeap}, execA call fl0 f0 H0 ao.op = stepA fl0 H0 (·.ev f0) ao.op := fun {fl0 f0 H0} => by
              cases hop' : ao.op <;> rw [hop'] at hmf <;> first | rfl | (simp [AOp.makes] at hmf)
            rw [toStep] at hex
            have hbj' : ∀ x ∈ ao.op.opds, ∀ b ∈ (x.ev (F i)).blks, b < (G j).length := fun x hxm b hb => by
                rw [← hev x hxm] at hb
                have hbρ : b < ρ.length := by
                  have hv : ∃ u, VR ρ (x.ev (foldF as V (fun k => listed.getD k false) fr N)) u := by
                    cases x with
                    | t t => exact ⟨_, hF.getD t⟩
                    | k v =>
                      exfalso
                      have hcst := hconst ao (List.mem_of_getElem? hao)
                      unfold constOk at hcst
                      rw [List.all_eq_true] at hcst
                      have hcst := hcst _ hxm
                      simp only [AOpd.ev] at hb
                      cases v with
                      | agg _ => simp [AV.blks] at hb
                      | tup _ => simp [AV.blks] at hb
                      | clo _ _ => simp [AV.blks] at hb
                      | c q => cases q <;> simp [AV.blks] at hb <;> simp at hcst
                  obtain ⟨u, hv⟩ := hv
                  generalize x.ev (foldF as V (fun k => listed.getD k false) fr N) = y at hb hv
                  cases y with
                  | agg _ => simp [AV.blks] at hb
                  | tup _ => simp [AV.blks] at hb
                  | clo _ _ => simp [AV.blks] at hb
                  | c q =>
                    cases q <;> simp [AV.blks] at hb <;> subst hb
                    · simp only [VR, CR] at hv
                      split at hv <;> first | exact hv.elim | (rename_i hr; exact (List.getElem?_eq_some_iff.1 hr).1) | (rename_i hr1 hr2; cases hq : ρ[b]? with | none => (rw [hq] at hv; exact hv.elim) | some _ => exact (List.getElem?_eq_some_iff.1 hq).1)
                    · simp only [VR, CR] at hv
                      split at hv <;> first | exact hv.elim | (rename_i hr; exact (List.getElem?_eq_some_iff.1 hr).1)
                rw [← hH.len]; exact hbρ
            have key : G (i + 1) = G i ∧ stepA fl (G j) (·.ev (F i)) ao.op = some (V i, G j) := by
              cases hli : lightAt lt as i with
              | true =>
                unfold lightAt at hli
                rw [hao, Bool.and_eq_true] at hli
                obtain ⟨hlt, hlight⟩ := hli
                refine light_sub (fl' := fl) (H2 := G j) hlight (fun x hxm b hb hal => ?_) hex
                have hbj := hbj' x hxm b hb
                have hbi : b < (G i).length := by
                  cases hc' : hcells (G i) b with
                  | none => rw [hc'] at hal; cases hal
                  | some cs => rcases hcells_some hc' with h | h <;> exact (List.getElem?_eq_some_iff.1 h).1
                rcases Nat.le_total i j with h | h
                · rw [(aliveGrow hlt i j h hj).2 b hbi]; exact hal
                · rw [← (aliveGrow hlt j i h (by omega)).2 b hbj]; exact hal
              | false =>
                obtain ⟨hjn1, hin⟩ := hjn hmi hli
                refine look_sub (fl' := fl) (H2 := G j) hmf (fun x hxm b hb cs hcs => ?_) hex
                have hbj := hbj' x hxm b hb
                have hbi : b < (G i).length := by
                  rcases hcells_some hcs with h | h <;> exact (List.getElem?_eq_some_iff.1 h).1
                have : (G j)[b]? = (G i)[b]? := by
                  rcases Nat.le_total i j with h | h
                  · exact (headGrow i j h hjn1).2 b hbi
                  · exact ((headGrow j i h (by omega)).2 b hbj).symm
                unfold hcells at hcs ⊢
                rw [this]; exact hcs
            obtain ⟨hGs, hex2⟩ := key
            have hex' : execA call fl (foldF as V (fun k => listed.getD k false) fr N) (G j) ao.op = some (V i, G j) := by
              rw [execA_congr ao.op hev, toStep]; exact hex2
            exact exec_sound hc hop hH hF hex' fun u w' ρ' h1 h2 h3 h4 => goon u w' ρ' j hj hjj (hmkOld hmi) h1 h2 h3 h4
        · rw [if_neg (by rw [hw]; simp)]
          have hvu : VR ρ (V i) undef := by rw [hV]; exact VR.undef ρ
          by_cases hmi : mk i
          · exact goon undef w ρ (i + 1) (by omega) (hjNew hmi) (hmkNew hmi) (by rw [hGs, hGi hmi]; exact hH) (RExt.refl ρ) hvu (Below.refl _ _)
          · exact goon undef w ρ j hj hjj (hmkOld hmi) hH (RExt.refl ρ) hvu (Below.refl _ _)
  refine wp_region_any hm ?_
  refine main _ _ a0 w0.drew 0 ρ0 (by simp [hN]) (fun i o _ hl => ?_) ?_ (Nat.zero_le _) (.inl (Nat.zero_le _)) (fun k hk _ => ?_) (by rw [hGz]; exact hH0.drew) ?_ hx0 (Below.refl _ _).drew rfl (fun i hqi _ => (hfut i hqi).1)
  · rw [Array.getD_eq_getD_getElem?, Array.getElem?_replicate] at hl
    split at hl <;> simp at hl
  · exact Nat.le_trans (List.countP_le_length) (by simp [hN])
  · rw [Array.getD_eq_getD_getElem?, Array.getElem?_replicate]
    split <;> simp
  · have : foldF as V (fun k => (Array.replicate ops.size false).getD k false) fr N = fr := by
      have h0 : ∀ M, foldF as V (fun k => (Array.replicate ops.size false).getD k false) fr M = fr := by
        intro M
        induction M with
        | zero => rfl
        | succ M ih =>
          simp only [foldF]
          rw [if_neg, ih]
          rw [Array.getD_eq_getD_getElem?, Array.getElem?_replicate]
          split <;> simp
      exact h0 N
    rw [this]; exact hF0

theorem draw_sound (hm : P.follows .mixedOrders = true) (hc : CallSpec P call) (hk : KeptSpec call) : DrawSpec P call := by
  intro id ops as n base fl fr fr1 fr' H H1 H' ρ0 a0 w0 has hdr hH0 hF0 hhead htail Q hQ
  obtain ⟨lt, hdr⟩ := drawOk_spec hdr
  obtain ⟨hlen, hget⟩ := optMap_get has
  exact draw_gen (B := 0) (z := []) hm hc hk none hlen (fun i x y hx hy _ => hget i x y hx hy) (fun i h => by cases h) (fun i h => by cases h) hdr hH0 hF0 (RExt.refl _) (fun i h => by cases h) hhead htail Q hQ

/-! an allocation at any time -/
theorem resOp_alloc {o : Oper} {z : List Cell} (h : resOp P o = some (.alloc z)) : ∃ t, o.op = .alloc t ∧ zeroA P t = some z := by
  unfold resOp at h
  split at h
  case h_4 t ho => obtain ⟨z', hz, e⟩ := map_some h; cases e; exact ⟨t, ho, hz⟩
  all_goals (exfalso; revert h; (try unfold resBin); (try unfold resConv); (try unfold resBuiltin); (try unfold resCall); (try unfold resClo); intro h; repeat' first | (obtain ⟨_, _, e⟩ := map_some h; cases e; done) | (cases h; done) | (simp at h; done) | split at h)
section
variable {as : List AOper} {q d B : Nat}
theorem atBlk_get (B : Nat) (k : Nat) : (atBlk q d B as)[k]? = if q = k then (if q < as.length then some ⟨some d, .blk B, none⟩ else none) else as[k]? := by
  simp only [atBlk, List.getElem?_set]
theorem light_blk {lt : Bool} {k : Nat} : lightAt lt (atBlk q d B as) k = lightAt lt (atBlk q d 0 as) k := by
  unfold lightAt
  rw [atBlk_get, atBlk_get]
  by_cases h3 : q < as.length <;> simp only [h3, if_true, if_false] <;> by_cases h1 : q = k <;> simp only [h1, if_true, if_false] <;> rfl
theorem kills_blk {k : Nat} : killsAt (atBlk q d B as) k = killsAt (atBlk q d 0 as) k := by
  unfold killsAt
  rw [atBlk_get, atBlk_get]
  by_cases h3 : q < as.length <;> simp only [h3, if_true, if_false] <;> by_cases h1 : q = k <;> simp only [h1, if_true, if_false] <;> rfl
theorem pair_blk {bs : List Nat} {i j : Nat} : pairOk (atBlk q d B as) bs i j = pairOk (atBlk q d 0 as) bs i j := by
  unfold pairOk
  rw [atBlk_get, atBlk_get, atBlk_get, atBlk_get]
  generalize as[i]? = x
  generalize as[j]? = y
  by_cases h3 : q < as.length <;> simp only [h3, if_true, if_false]
  all_goals
    by_cases h1 : q = i
    · simp only [if_pos h1]
      by_cases h2 : q = j
      · simp only [if_pos h2]; rfl
      · simp only [if_neg h2]; cases y <;> rfl
    · simp only [if_neg h1]
      by_cases h2 : q = j
      · simp only [if_pos h2]; cases x <;> rfl
      · simp only [if_neg h2]
theorem row_blk {bs : List Nat} {i j : Nat} : rowOk (atBlk q d B as) bs i j = rowOk (atBlk q d 0 as) bs i j := by
  unfold rowOk
  rw [atBlk_get, atBlk_get, atBlk_get, atBlk_get]
  generalize as[i]? = x
  generalize as[j]? = y
  by_cases h3 : q < as.length <;> simp only [h3, if_true, if_false]
  all_goals
    by_cases h1 : q = i
    · simp only [if_pos h1]
      by_cases h2 : q = j
      · simp only [if_pos h2]; rfl
      · simp only [if_neg h2]; cases y <;> rfl
    · simp only [if_neg h1]
      by_cases h2 : q = j
      · simp only [if_pos h2]; cases x <;> rfl
      · simp only [if_neg h2]
theorem all_set {α : Type} {p : α → Bool} {x y : α} (h : p x = p y) : ∀ (l : List α) (q : Nat), (l.set q x).all p = (l.set q y).all p
  | [], _ => rfl
  | a :: l, 0 => by simp only [List.set_cons_zero, List.all_cons, h]
  | a :: l, q + 1 => by simp only [List.set_cons_succ, List.all_cons, all_set h l q]
theorem const_blk : (atBlk q d B as).all constOk = (atBlk q d 0 as).all constOk := all_set (p := constOk) (x := (⟨some d, .blk B, none⟩ : AOper)) (y := (⟨some d, .blk 0, none⟩ : AOper)) rfl as q
theorem last_blk {lt : Bool} {bs : List Nat} {i : Nat} : lastOne lt (atBlk q d B as) bs i = lastOne lt (atBlk q d 0 as) bs i := by
  unfold lastOne; simp only [light_blk (B := B)]
theorem tail_blk {lt : Bool} {bs : List Nat} : ∀ m, tailFrom lt (atBlk q d B as) bs m = tailFrom lt (atBlk q d 0 as) bs m
  | 0 => rfl
  | m + 1 => by simp only [tailFrom, light_blk (B := B), last_blk (B := B), tail_blk m]
theorem lastKill_blk : lastKill (atBlk q d B as) = lastKill (atBlk q d 0 as) := by
  unfold lastKill
  have : (atBlk q d B as).length = (atBlk q d 0 as).length := by simp [atBlk]
  simp only [this, kills_blk (B := B)]
theorem drawWith_blk {lt : Bool} {ops : List Oper} : drawWith lt ops (atBlk q d B as) = drawWith lt ops (atBlk q d 0 as) := by
  unfold drawWith
  simp only [tail_blk (B := B), lastKill_blk (B := B), pair_blk (B := B), row_blk (B := B), const_blk (B := B), kills_blk (B := B)]
end
theorem drawATry_spec {lt : Bool} {ops : List Oper} {as : List AOper} {q n : Nat} (h : drawATry lt ops as q = some n) : drawWith lt ops as = some n ∧ q < n ∧ ∀ i, n ≤ i → i < ops.length → lightAt lt as i = false → ((aheadA ops []).getD i 0).testBit q = true := by
  unfold drawATry at h
  split at h
  · rename_i m hm
    split at h
    · rename_i hc
      simp only [Option.some.injEq] at h; subst h
      refine ⟨hm, hc.1, fun i h1 h2 h3 => ?_⟩
      have := List.all_eq_true.1 hc.2 i (List.mem_range.2 h2)
      rw [h3] at this
      simp only [Bool.or_false, Bool.or_eq_true, decide_eq_true_eq] at this
      rcases this with h | h
      · omega
      · exact h
    · cases h
  · cases h
theorem drawA_sound (hm : P.follows .mixedOrders = true) (hc : CallSpec P call) (hk : KeptSpec call) : DrawASpec P call := by
  intro id ops as z q d n base fl fr fr1 fr' H H1 H' ρ0 a0 w0 has hdr hH0 hF0 hhead htail Q hQ
  obtain ⟨hlen, hget⟩ := optMap_get has
  unfold drawAOk at hdr
  split at hdr
  · cases hdr
  · rename_i q' hfind
    split at hdr
    · rename_i d' z' haq
      have key : ∃ lt, drawATry lt ops.toList (as.set q' ⟨some d', .blk 0, none⟩) q' = some n ∧ z' = z ∧ q' = q ∧ d' = d := by
        split at hdr
        · rename_i m hm1
          simp only [Option.some.injEq, Prod.mk.injEq] at hdr
          obtain ⟨rfl, rfl, rfl, rfl⟩ := hdr
          exact ⟨true, hm1, rfl, rfl, rfl⟩
        · split at hdr
          · rename_i m hm1
            simp only [Option.some.injEq, Prod.mk.injEq] at hdr
            obtain ⟨rfl, rfl, rfl, rfl⟩ := hdr
            exact ⟨false, hm1, rfl, rfl, rfl⟩
          · cases hdr
      obtain ⟨lt, htry, rfl, rfl, rfl⟩ := key
      obtain ⟨hw, hqn, hbit⟩ := drawATry_spec htry
      have hql : q' < as.length := (List.getElem?_eq_some_iff.1 haq).1
      have hqo : q' < ops.toList.length := by omega
      have hres := hget q' _ _ (List.getElem?_eq_getElem hqo) haq
      obtain ⟨hop, hdst⟩ := resOper_parts hres
      obtain ⟨t, ht, hz⟩ := resOp_alloc hop
      have hog : (ops.toList[q']).guard = none := by
        unfold resOper at hres
        split at hres
        · cases hres
        · split at hres
          · assumption
          · split at hres <;> simp at hres
      refine draw_gen (B := H.length) (z := z') (as := atBlk q' d' H.length as) (lt := lt) hm hc hk (some q') (by rw [hlen]; simp [atBlk]) (fun i x y hx hy hne => ?_) (fun i hi => ?_) (fun i hi k h1 h2 h3 => ?_) (by rw [drawWith_blk]; exact hw) (hH0.fut z') ?_ (RExt.push _ _) (fun i hi => ?_) hhead htail Q hQ
      · rw [atBlk_get, if_neg (fun e => hne (by rw [e]))] at hy
        exact hget i x y hx hy
      · obtain rfl : q' = i := by simpa using hi
        refine ⟨hqn, ops.toList[q'], d', t, by simp, ht, hz, hdst.symm, hog, ?_⟩
        rw [atBlk_get, if_pos rfl, if_pos hql]
      · obtain rfl : q' = i := by simpa using hi
        rw [light_blk] at h3
        exact hbit k h1 (by simpa using h2) h3
      · exact hF0.ext (RExt.push _ _)
      · refine ⟨?_, ?_, by rw [hH0.len]; exact Nat.le_refl _⟩
        · rw [← hH0.len]; simp
        · simp
    · cases hdr
end
end PAbs

/- Statements whose order is open, in which a call may change what an earlier one made. -/
namespace PAbs
open Go Go.RowKit
set_option linter.unusedSimpArgs false
set_option linter.unusedVariables false

structure Trace3 (call : ACall) (f0 fl : Nat) (as : List AOper) (n : Nat) (F : Nat → AFrame) (G : Nat → AHeap) (V : Nat → AV) : Prop where
  step : ∀ (i : Nat) (o : AOper), as[i]? = some o →
    ((wantedA (F i) o.guard = true ∧ execA call (if i < n then f0 else fl) (F i) (G i) o.op = some (V i, G (i + 1))) ∨ (wantedA (F i) o.guard = false ∧ V i = aundef ∧ G (i + 1) = G i)) ∧ F (i + 1) = putA (F i) o.dst (V i)

theorem trace3_ex {call : ACall} {f0 fl : Nat} : ∀ (as : List AOper) (n : Nat) (fr fr1 fr' : AFrame) (H H1 H' : AHeap), evalOps call f0 (as.take n) fr H = some (fr1, H1) → evalOps call fl (as.drop n) fr1 H1 = some (fr', H') →
    ∃ F G V, Trace3 call f0 fl as n F G V ∧ F 0 = fr ∧ G 0 = H ∧ F as.length = fr' ∧ G as.length = H'
  | [], n, fr, fr1, fr', H, H1, H', h1, h2 => by
    simp [evalOps] at h1
    simp [evalOps] at h2
    obtain ⟨rfl, rfl⟩ := h1
    obtain ⟨rfl, rfl⟩ := h2
    exact ⟨fun _ => fr, fun _ => H, fun _ => aundef, ⟨fun i o h => by simp at h⟩, rfl, rfl, rfl, rfl⟩
  | o :: as, n, fr, fr1, fr', H, H1, H', h1, h2 => by
    have key : ∃ v H2 m, ((wantedA fr o.guard = true ∧ execA call (if 0 < n then f0 else fl) fr H o.op = some (v, H2)) ∨ (wantedA fr o.guard = false ∧ v = aundef ∧ H2 = H)) ∧
        (∃ g1 K1, evalOps call f0 (as.take m) (putA fr o.dst v) H2 = some (g1, K1) ∧ evalOps call fl (as.drop m) g1 K1 = some (fr', H')) ∧ m = n - 1 := by
      cases n with
      | zero =>
        simp [evalOps] at h1
        obtain ⟨rfl, rfl⟩ := h1
        simp only [List.drop_zero, evalOps] at h2
        split at h2
        · rename_i hw
          split at h2
          · rename_i v H2 hx
            exact ⟨v, H2, 0, .inl ⟨hw, by simpa using hx⟩, ⟨_, _, rfl, h2⟩, rfl⟩
          · cases h2
        · rename_i hw
          exact ⟨aundef, H, 0, .inr ⟨by simpa using hw, rfl, rfl⟩, ⟨_, _, rfl, h2⟩, rfl⟩
      | succ n =>
        simp only [List.take_succ_cons, evalOps] at h1
        simp only [List.drop_succ_cons] at h2
        split at h1
        · rename_i hw
          split at h1
          · rename_i v H2 hx
            exact ⟨v, H2, n, .inl ⟨hw, by simpa using hx⟩, ⟨_, _, h1, h2⟩, rfl⟩
          · cases h1
        · rename_i hw
          exact ⟨aundef, H, n, .inr ⟨by simpa using hw, rfl, rfl⟩, ⟨_, _, h1, h2⟩, rfl⟩
    obtain ⟨v, H2, m, hstep, ⟨g1, K1, e1, e2⟩, hm⟩ := key
    obtain ⟨F, G, V, hT, hF0, hG0, hFe, hGe⟩ := trace3_ex as m _ g1 fr' H2 K1 H' e1 e2
    refine ⟨fun i => match i with | 0 => fr | i + 1 => F i, fun i => match i with | 0 => H | i + 1 => G i, fun i => match i with | 0 => v | i + 1 => V i, ⟨?_⟩, rfl, rfl, hFe, hGe⟩
    intro i p hp
    cases i with
    | zero =>
      simp at hp; subst hp
      exact ⟨by simpa [hG0] using hstep, by simpa using hF0⟩
    | succ i =>
      have := hT.step i p (by simpa using hp)
      have hlt : (i < m) ↔ (i + 1 < n) := by omega
      simp only [hlt] at this
      exact this

theorem trace3_F {as : List AOper} {V : Nat → AV} {fr : AFrame} {call : ACall} {f0 fl n : Nat} {F : Nat → AFrame} {G : Nat → AHeap} (hT : Trace3 call f0 fl as n F G V) (hF0 : F 0 = fr) : ∀ i, i ≤ as.length → ∀ N, i ≤ N → F i = foldF as V (fun k => decide (k < i)) fr N := by
  have h1 : ∀ i, i ≤ as.length → ∀ q, i ≤ q → F i = foldF as V (fun k => decide (k < q)) fr i := by
    intro i
    induction i with
    | zero => intro _ q _; exact hF0
    | succ i ih =>
      intro hi q hq
      have hlt : i < as.length := by omega
      have hs := (hT.step i _ (List.getElem?_eq_getElem hlt)).2
      simp only [foldF]
      rw [if_pos (by simp; omega), ← ih (by omega) q (by omega), hs]
      simp [dstAt, hlt]
  intro i hi N hN
  induction N with
  | zero => have : i = 0 := by omega
            subst this; exact hF0
  | succ N ih =>
    by_cases hiN : i = N + 1
    · subst hiN; exact h1 _ hi _ (Nat.le_refl _)
    · simp only [foldF]
      rw [if_neg (by simp; omega)]
      exact ih (by omega)

theorem freesA_get (as : List AOper) : ∀ (l : List AOper) (fs : List Bool), ∃ gs, freesA as l fs = fs ++ gs ∧ gs.length = l.length ∧ ∀ i a, l[i]? = some a → gs.getD i false = true → freeAt as (fs ++ gs.take i) a = true
  | [], fs => ⟨[], by simp [freesA], rfl, fun i a h => by simp at h⟩
  | a :: r, fs => by
    obtain ⟨gs, h1, h2, h3⟩ := freesA_get as r (fs ++ [freeAt as fs a])
    refine ⟨freeAt as fs a :: gs, by simp [freesA, h1], by simp [h2], fun i b hb hg => ?_⟩
    cases i with
    | zero =>
      simp at hb; subst hb
      simpa using hg
    | succ i =>
      have := h3 i b (by simpa using hb) (by simpa using hg)
      simpa using this

theorem draw3_spec {ops : List Oper} {as : List AOper} {n : Nat} (h : draw3Ok ops as = some n) :
    n ≤ ops.length ∧ (∀ i, n ≤ i → i < ops.length → ∀ j, j < i → ((aheadA ops []).getD i 0).testBit j = true) ∧
    (∀ i, i < ops.length → ∀ j, j < i → pairOk as (aheadA ops []) i j = true ∧ rowOk as (aheadA ops []) i j = true) ∧
    (∀ i o, ops[i]? = some o → ∀ e ∈ o.after.toList, Region.binds .any e = true → e.on < i) ∧ (∀ ao ∈ as, constOk ao = true) ∧
    (∀ i, i < ops.length → i < n → makesAt as i = false → tiedAt as (aheadA ops []) i = true ∨ (freesA as as []).getD i false = true) := by
  unfold draw3Ok at h
  dsimp only at h
  generalize hn0 : tailFrom false as (aheadA ops []) ops.length = n0 at h
  split at h
  · rename_i hc
    simp only [Option.some.injEq] at h
    rw [Bool.and_eq_true, Bool.and_eq_true, Bool.and_eq_true, Bool.and_eq_true] at hc
    obtain ⟨⟨⟨⟨h0, h1⟩, h2⟩, h5⟩, h6⟩ := hc
    rw [List.all_eq_true] at h1 h2 h5 h6
    have h0 := of_decide_eq_true h0
    subst h
    refine ⟨h0, fun i hi1 hi2 j hj => ?_, fun i hi j hj => ?_, fun i o ho e he hb => ?_, h5, fun i hi hin hmf => ?_⟩
    · rcases tailFrom_spec false as (aheadA ops []) ops.length i (by rw [hn0]; exact hi1) hi2 with this | this
      · simp [lightAt] at this
      · unfold lastOne at this
        rw [List.all_eq_true] at this
        have := this j (List.mem_range.2 hj)
        simpa [lightAt] using this
    · have := h1 i (List.mem_range.2 hi)
      rw [List.all_eq_true] at this
      have := this j (List.mem_range.2 hj)
      rw [Bool.and_eq_true] at this
      exact this
    · have hmem : (o, i) ∈ ops.zipIdx := by
        rw [List.mem_zipIdx_iff_getElem?]; exact ho
      have := h2 (o, i) hmem
      simp only at this
      rw [Array.all_eq_true_iff_forall_mem] at this
      have := this e (by simpa using he)
      simp only [hb, Bool.not_true, Bool.false_or, decide_eq_true_eq] at this
      exact this
    · have := h6 i (List.mem_range.2 hi)
      rw [hmf, Bool.false_or, Bool.or_eq_true, Bool.or_eq_true] at this
      rcases this with (this | this) | this
      · have := of_decide_eq_true this; omega
      · exact .inl this
      · exact .inr this
  · cases h

theorem VR.low {ρ : List Reg} {x : AV} {u : Value} (h : VR ρ x u) : ∀ b ∈ x.blks, b < ρ.length := by
  intro b hb
  cases x with
  | agg _ => simp [AV.blks] at hb
  | tup _ => simp [AV.blks] at hb
  | clo _ _ => simp [AV.blks] at hb
  | c q =>
    cases q <;> simp [AV.blks] at hb <;> subst hb
    · simp only [VR, CR] at h
      split at h <;> first | exact h.elim | (rename_i hr; exact (List.getElem?_eq_some_iff.1 hr).1)
    · simp only [VR, CR] at h
      split at h <;> first | exact h.elim | (rename_i hr; exact (List.getElem?_eq_some_iff.1 hr).1)
theorem L2.ex {ρ : List Reg} : ∀ (l : List AV), (∀ x ∈ l, ∃ u, VR ρ x u) → ∃ us, L2 (VR ρ) l us
  | [], _ => ⟨[], L2.nil⟩
  | a :: l, h => by
    obtain ⟨u, hu⟩ := h a (by simp)
    obtain ⟨us, hus⟩ := L2.ex l fun x hx => h x (by simp [hx])
    exact ⟨u :: us, L2.cons hus hu⟩
/-- where the heap stands as it was the regions do, too -/
theorem regs_same {base : Nat} {ρ ρ' : List Reg} {H : AHeap} {w w' : World} (h : HR base ρ H w) (h' : HR base ρ' H w') (e : RExt ρ ρ') : ρ' = ρ := by
  apply List.ext_getElem?
  intro b
  cases hb : ρ[b]? with
  | none =>
    rw [List.getElem?_eq_none_iff] at hb ⊢
    have h1 := h.len; have h2 := h'.len; omega
  | some r =>
    rcases e b r hb with h1 | h1
    · exact h1
    · have hlt : b < H.length := by rw [← h.len]; exact (List.getElem?_eq_some_iff.1 hb).1
      have hx := List.getElem?_eq_getElem hlt
      have g1 := h.blk b _ r hx hb
      have g2 := h'.blk b _ _ hx h1
      generalize H[b] = x at g1 g2
      cases x <;> simp only [BR] at g2
      cases r <;> simp only [BR] at g1
      exact h1

theorem plainC_ex {ρ : List Reg} {x : Cell} (h : plainC x = true) : ∃ u, CR ρ x u := by
  cases x <;> first | exact ⟨_, rfl⟩ | cases h
theorem plainK_ex {ρ : List Reg} {x : AV} (h : plainK x = true) : ∃ u, VR ρ x u := by
  cases x with
  | c x => exact plainC_ex h
  | agg cs =>
    have : ∃ us, L2 (CR ρ) cs us := by
      have h : cs.all plainC = true := h
      induction cs with
      | nil => exact ⟨[], L2.nil⟩
      | cons a l ih =>
        rw [List.all_cons, Bool.and_eq_true] at h
        obtain ⟨u, hu⟩ := plainC_ex (ρ := ρ) h.1
        obtain ⟨us, hus⟩ := ih (by exact h.2) h.2
        exact ⟨u :: us, L2.cons hus hu⟩
    obtain ⟨us, hus⟩ := this
    exact ⟨_, us, rfl, hus⟩
  | tup l =>
    have : l = [] := by simpa [plainK] using h
    subst this
    exact ⟨_, [], rfl, L2.nil⟩
  | clo _ _ => cases h
section
variable {P : Program} {call : ACall}
theorem look_old {o : Oper} {p : AOp} {base fl : Nat} {ρ : List Reg} {H : AHeap} {w : World} {fr : AFrame} {v : AV} (a0 : Act) (hH : HR base ρ H w) (hv : ∀ x ∈ p.opds, ∃ u, VR ρ (x.ev fr) u) (hres : resOp P o = some p) (hm : p.makes = false) (h : stepA fl H (·.ev fr) p = some (v, H)) : ∃ u, VR ρ v u := by
  classical
  let f : AV → AV := fun x => if ∃ u, VR ρ x u then x else aundef
  obtain ⟨us, hus⟩ := L2.ex (ρ := ρ) (fr.map f) fun x hx => by
    obtain ⟨y, _, rfl⟩ := List.mem_map.1 hx
    simp only [f]
    split
    · assumption
    · exact ⟨_, VR.undef ρ⟩
  have hF : FR ρ (fr.map f) ({ a0 with tmps := us.toArray } : Act).tmps := by simpa [FR] using hus
  have hev : ∀ x ∈ p.opds, x.ev fr = x.ev (fr.map f) := fun x hx => by
    cases x with
    | k v => rfl
    | t s =>
      have := hv _ hx
      simp only [AOpd.ev, List.getD_eq_getElem?_getD, List.getElem?_map] at this ⊢
      cases hs : fr[s]? with
      | none => rfl
      | some y =>
        rw [hs] at this
        simp only [Option.getD_some, Option.map_some] at this ⊢
        simp only [f]
        rw [if_pos this]
  rw [stepA_congr p hev] at h
  obtain ⟨u, w', ρ', _, h1, h2, h3, _⟩ := step_sound hH hF hres h
  have := regs_same hH h1 h2
  subst this
  exact ⟨u, h3⟩

theorem draw3_sound (hm : P.follows .mixedOrders = true) (hc : CallSpec P call) (hk : KeptSpec call) : Draw3Spec P call := by
  intro id ops as n base fl fr fr1 fr' H H1 H' ρ0 a0 w0 has hdr hH0 hF0 hhead htail Q hQ
  obtain ⟨hlen, hget⟩ := optMap_get has
  obtain ⟨hn, htl, hpr, hedge, hconst, hkind⟩ := draw3_spec hdr
  obtain ⟨F, G, V, hT, hFz, hGz, hFe, hGe⟩ := trace3_ex as n fr fr1 fr' H H1 H' hhead htail
  obtain ⟨N, hN⟩ : ∃ N, N = ops.size := ⟨_, rfl⟩
  have hNl : ops.toList.length = N := by simp [hN]
  have hNa : as.length = N := by rw [← hlen, hNl]
  have hasGet : ∀ i, i < N → ∃ o ao, ops[i]? = some o ∧ ops.toList[i]? = some o ∧ as[i]? = some ao ∧ resOper P ops.toList o = some ao := fun i hi => by
    have h1 : i < ops.toList.length := by omega
    have h2 : i < as.length := by omega
    refine ⟨ops.toList[i], as[i], ?_, List.getElem?_eq_getElem h1, List.getElem?_eq_getElem h2, hget i _ _ (List.getElem?_eq_getElem h1) (List.getElem?_eq_getElem h2)⟩
    simp
  let mk : Nat → Prop := fun k => n ≤ k ∨ makesAt as k = true
  have notCall : ∀ {p : AOp}, p.makes = false → ∀ {fl0 : Nat} {f0 : AFrame} {H0 : AHeap}, execA call fl0 f0 H0 p = stepA fl0 H0 (·.ev f0) p := fun {p} hmf {fl0 f0 H0} => by
    cases p <;> first | rfl | (simp [AOp.makes] at hmf)
  have still : ∀ k, k < N → ¬ mk k → G (k + 1) = G k := fun k hkN hnm => by
    obtain ⟨o, ao, _, _, hao, _⟩ := hasGet k hkN
    have hmf : ao.op.makes = false := by
      cases hb : ao.op.makes with
      | false => rfl
      | true => exact absurd (.inr (by simp [makesAt, hao, hb])) hnm
    rcases (hT.step k ao hao).1 with ⟨_, hx⟩ | ⟨_, _, hx⟩
    · rw [notCall hmf] at hx
      exact (look_sub (fl' := 0) (H2 := G k) hmf (fun _ _ _ _ _ h => h) hx).1
    · exact hx
  have stillTo : ∀ j i, j ≤ i → i ≤ N → (∀ k, j ≤ k → k < i → ¬ mk k) → G i = G j := fun j i hji hiN hno => by
    induction i with
    | zero => have : j = 0 := by omega
              subst this; rfl
    | succ i ih =>
      by_cases he : j = i + 1
      · subst he; rfl
      · rw [still i (by omega) (hno i (by omega) (by omega))]
        exact ih (by omega) (by omega) fun k h1 h2 => hno k h1 (by omega)
  have headKept : ∀ q, q ≤ n → Kept H.length H (G q) := fun q hqn => by
    induction q with
    | zero => rw [hGz]; exact Kept.refl _ _
    | succ q ih =>
      obtain ⟨o, ao, _, _, hao, _⟩ := hasGet q (by omega)
      refine (ih (by omega)).trans ?_
      rcases (hT.step q ao hao).1 with ⟨_, hx⟩ | ⟨_, _, hx⟩
      · rw [if_pos (by omega)] at hx; exact execA_kept hk hx
      · rw [hx]; exact Kept.refl _ _
  have low : ∀ q, q ≤ n → ∀ b, b < H.length → (G q)[b]? = H[b]? := fun q hq b hb => (headKept q hq).2 b hb hb
  have lowC : ∀ q q', q ≤ n → q' ≤ n → ∀ b, b < H.length → ∀ cs, hcells (G q) b = some cs → hcells (G q') b = some cs := fun q q' hq hq' b hb cs h => by
    unfold hcells at h ⊢
    rw [low q' hq' b hb, ← low q hq b hb]; exact h
  -- what is free looks at nothing new
  obtain ⟨gs, hgs, hgl, hgf⟩ := freesA_get as as []
  rw [List.nil_append] at hgs
  have opdsOld : ∀ i ao, i < N → as[i]? = some ao → gs.getD i false = true → (∀ k, k < i → gs.getD k false = true → ∃ u, VR ρ0 (V k) u) → ∀ x ∈ ao.op.opds, ∃ u, VR ρ0 (x.ev (F i)) u := fun i ao hiN hao hfi ihV x hx => by
    have hf := hgf i ao hao hfi
    unfold freeAt at hf
    rw [Bool.and_eq_true] at hf
    have hf := (List.all_eq_true.1 hf.2) x hx
    cases x with
    | k v => exact plainK_ex hf
    | t s =>
      simp only [List.nil_append] at hf
      rw [List.all_eq_true] at hf
      have wr : ∀ k, dstAt as k = some s → k < i ∧ gs.getD k false = true := fun k hdk => by
        have hkl : k < as.length := by
          rcases Nat.lt_or_ge k as.length with h | h
          · exact h
          · simp [dstAt, List.getElem?_eq_none h] at hdk
        have := hf k (List.mem_range.2 hkl)
        rw [List.getElem?_eq_getElem hkl] at this
        simp only [dstAt, List.getElem?_eq_getElem hkl, Option.bind_some] at hdk
        simp only [hdk, beq_self_eq_true, Bool.not_true, Bool.false_or] at this
        rw [List.getD_eq_getElem?_getD, List.getElem?_take] at this
        split at this
        · rename_i hki
          exact ⟨hki, by rw [List.getD_eq_getElem?_getD]; exact this⟩
        · cases this
      have : ∀ m, m ≤ i → ∃ u, VR ρ0 ((F m).getD s aundef) u := fun m hmi => by
        induction m with
        | zero => rw [hFz]; exact ⟨_, hF0.getD s⟩
        | succ m ih =>
          obtain ⟨o, am, _, _, ham, _⟩ := hasGet m (by omega)
          rw [(hT.step m am ham).2]
          have ih := ih (by omega)
          simp only [List.getD_eq_getElem?_getD] at ih ⊢
          by_cases hd : am.dst = some s
          · rw [hd, putA_same]
            split
            · exact ihV m (by omega) (wr m (by simp [dstAt, ham, hd])).2
            · exact ⟨_, VR.undef ρ0⟩
          · rw [putA_other hd]; exact ih
      exact this i (Nat.le_refl _)
  have lowV : ∀ i, i < n → gs.getD i false = true → ∃ u, VR ρ0 (V i) u := by
    intro i
    induction i using Nat.strongRecOn with
    | _ i ih =>
      intro hin hfi
      obtain ⟨o, ao, _, hol, hao, hres⟩ := hasGet i (by omega)
      have hold := opdsOld i ao (by omega) hao hfi fun k hk hfk => ih k hk (by omega) hfk
      have hmf : ao.op.makes = false := by
        have hf := hgf i ao hao hfi
        unfold freeAt at hf
        rw [Bool.and_eq_true] at hf
        simpa using hf.1
      rcases (hT.step i ao hao).1 with ⟨_, hx⟩ | ⟨_, hx, _⟩
      · rw [notCall hmf] at hx
        have := (look_sub (fl' := 0) (H2 := H) hmf (fun x hxm b hb cs hcs => by
          obtain ⟨u, hu⟩ := hold x hxm
          have hbl := hu.low b hb
          rw [hH0.len] at hbl
          have := lowC i 0 (by omega) (by omega) b hbl cs hcs
          rw [hGz] at this; exact this) hx).2
        exact look_old a0 hH0 hold (resOper_parts hres).1 hmf this
      · rw [hx]; exact ⟨_, VR.undef ρ0⟩
  -- the invariant
  have main : ∀ (fuel : Nat) (listed : Array Bool) (a : Act) (w : World) (j : Nat) (ρ : List Reg), listed.size = N →
      (∀ i o, ops.toList[i]? = some o → listed.getD i false = true → ∀ e ∈ o.after.toList, Region.binds .any e = true → listed.getD e.on false = true) →
      (List.range N).countP (fun i => !listed.getD i false) ≤ fuel → j ≤ N → (j ≤ n ∨ ∃ k, n ≤ k ∧ k < j ∧ mk k) → (∀ k, k < N → mk k → (listed.getD k false = true ↔ k < j)) →
      HR base ρ (G j) w → FR ρ (foldF as V (fun k => listed.getD k false) fr N) a.tmps → RExt ρ0 ρ → Below base w0 w → a.defers = a0.defers →
      wpAny P .any ops Q fuel listed a w := by
    intro fuel
    induction fuel with
    | zero =>
      intro listed a w j ρ hsz hcl hcnt hj hjj hmk hH hF hx hB hd
      have hall : ∀ i, i < N → listed.getD i false = true := fun i hi => by
        cases hb : listed.getD i false with
        | true => rfl
        | false =>
          have : 0 < (List.range N).countP (fun i => !listed.getD i false) := List.countP_pos_iff.2 ⟨i, List.mem_range.2 hi, by simp only [hb]; rfl⟩
          omega
      refine ⟨?_, ?_⟩
      · unfold Region.ready
        rw [List.filter_eq_nil_iff]
        intro i hi
        have hi' : i < N := by simpa [hN] using hi
        have h1 := hall i hi'
        have h2 : listed.getD i true = true := by
          rw [Array.getD_eq_getD_getElem?] at h1 ⊢
          have : i < listed.size := by omega
          rw [Array.getElem?_eq_getElem this] at h1 ⊢
          exact h1
        simp [h2]
      · refine hQ a w ⟨ρ, ?_, ?_, hx, hB, hd⟩
        · rw [← hGe, hNa]
          have := stillTo j N hj (Nat.le_refl _) fun k h1 h2 hmk' => by
            have := (hmk k h2 hmk').1 (hall k h2); omega
          rw [this]; exact hH
        · rw [← hFe, hNa, trace3_F hT hFz N (by omega) N (Nat.le_refl _)]
          have : foldF as V (fun k => decide (k < N)) fr N = foldF as V (fun k => listed.getD k false) fr N := by
            apply List.ext_getElem?
            intro s
            exact foldF_slot N fun k hk _ => by rw [hall k hk]; simpa using hk
          rw [this]; exact hF
    | succ fuel ih =>
      intro listed a w j ρ hsz hcl hcnt hj hjj hmk hH hF hx hB hd
      have hD : ∀ i, i < N → listed.getD i true = listed.getD i false := fun i hi => by
        rw [Array.getD_eq_getD_getElem?, Array.getD_eq_getD_getElem?, Array.getElem?_eq_getElem (by omega : i < listed.size)]; rfl
      refine ⟨fun hnil => ?_, fun i hi => ?_⟩
      · have hall : ∀ i, i < N → listed.getD i false = true := by
          intro i
          induction i using Nat.strongRecOn with
          | _ i ihi =>
            intro hi
            cases hb : listed.getD i false with
            | true => rfl
            | false =>
              obtain ⟨o, ao, ho, hol, _, _⟩ := hasGet i hi
              have : i ∈ Region.ready .any ops listed := by
                unfold Region.ready
                rw [List.mem_filter]
                refine ⟨by simpa [hN] using hi, ?_⟩
                rw [hD i hi, hb, ho]
                simp only [Bool.not_false, Bool.true_and, Option.map_some, Option.getD_some]
                rw [Array.all_eq_true_iff_forall_mem]
                intro e he
                cases hbd : Region.binds .any e with
                | false => rfl
                | true =>
                  have hlt := hedge i o hol e (by simpa using he) hbd
                  simp only [Bool.not_true, Bool.false_or]
                  exact ihi e.on hlt (by omega)
              rw [hnil] at this
              cases this
        refine hQ a w ⟨ρ, ?_, ?_, hx, hB, hd⟩
        · rw [← hGe, hNa]
          have := stillTo j N hj (Nat.le_refl _) fun k h1 h2 hmk' => by
            have := (hmk k h2 hmk').1 (hall k h2); omega
          rw [this]; exact hH
        · rw [← hFe, hNa, trace3_F hT hFz N (by omega) N (Nat.le_refl _)]
          have : foldF as V (fun k => decide (k < N)) fr N = foldF as V (fun k => listed.getD k false) fr N := by
            apply List.ext_getElem?
            intro s
            exact foldF_slot N fun k hk _ => by rw [hall k hk]; simpa using hk
          rw [this]; exact hF
      · unfold Region.ready at hi
        rw [List.mem_filter] at hi
        obtain ⟨hi1, hi2⟩ := hi
        have hiN : i < N := by simpa [hN] using hi1
        obtain ⟨o, ao, ho, hol, hao, hres⟩ := hasGet i hiN
        rw [ho, hD i hiN] at hi2
        simp only [Option.map_some, Option.getD_some, Bool.and_eq_true, Bool.not_eq_true'] at hi2
        obtain ⟨hun, hedges⟩ := hi2
        have hedges' : ∀ e ∈ o.after.toList, Region.binds .any e = true → listed.getD e.on false = true := fun e he hb => by
          rw [Array.all_eq_true_iff_forall_mem] at hedges
          have := hedges e (by simpa using he)
          simpa [hb] using this
        have hahead : ∀ k, ((aheadA ops.toList []).getD i 0).testBit k = true → listed.getD k false = true := ahead_closed (S := fun k => listed.getD k false) hcl i o hol hedges'
        have hbehind' : ∀ k, k < N → ((aheadA ops.toList []).getD k 0).testBit i = true → listed.getD k false = false := fun k hkN hbit => by
          cases hb : listed.getD k false with
          | false => rfl
          | true =>
            obtain ⟨ok, _, _, hokl, _, _⟩ := hasGet k hkN
            have := ahead_closed (S := fun k => listed.getD k false) hcl k ok hokl (hcl k ok hokl hb) i hbit
            rw [hun] at this; cases this
        have writers : ∀ s, s ∈ ao.names → ∀ k, k < N → dstAt as k = some s → k ≠ i → listed.getD k false = decide (k < i) := fun s hs k hkN hdk hne => by
          obtain ⟨ok, aok, _, _, haok, _⟩ := hasGet k hkN
          have hdk' : aok.dst = some s := by simpa [dstAt, haok] using hdk
          rcases Nat.lt_or_ge k i with hlt | hge
          · have hp := (hpr i (by omega) k hlt).1
            unfold pairOk at hp
            simp only [hao, haok, hdk'] at hp
            have hc' : ao.names.contains s = true := by simpa using hs
            simp only [hc', Bool.not_true, Bool.and_false, Bool.false_or] at hp
            rw [hahead k hp]; simpa using hlt
          · have hlt : i < k := by omega
            have hp := (hpr k (by omega) i hlt).1
            unfold pairOk at hp
            simp only [hao, haok, hdk'] at hp
            have hc' : ao.names.contains s = true := by simpa using hs
            simp only [hc', Bool.not_true, Bool.false_and, Bool.false_or] at hp
            rw [hbehind' k hkN hp]
            symm; simp; omega
        have hslot : ∀ s, s ∈ ao.sees → (foldF as V (fun k => listed.getD k false) fr N)[s]? = (F i)[s]? := fun s hs => by
          rw [trace3_F hT hFz i (by omega) N (by omega)]
          refine foldF_slot N fun k hkN hdk => ?_
          by_cases hki : k = i
          · subst hki; rw [hun]; simp
          · exact writers s (by simp [AOper.names, hs]) k hkN hdk hki
        have hev : ∀ x ∈ ao.op.opds, x.ev (foldF as V (fun k => listed.getD k false) fr N) = x.ev (F i) := fun x hxm => ev_same fun t ht => by
          refine hslot t ?_
          subst ht
          simp only [AOper.sees, List.mem_append, List.mem_filterMap]
          exact .inl ⟨_, hxm, rfl⟩
        have hwant : wantedA (foldF as V (fun k => listed.getD k false) fr N) ao.guard = wantedA (F i) ao.guard := by
          unfold wantedA
          cases hg : ao.guard with
          | none => rfl
          | some g =>
            obtain ⟨t, want⟩ := g
            simp only
            rw [hslot t (by simp [AOper.sees, hg])]
        have hdi : dstAt as i = ao.dst := by simp [dstAt, hao]
        have hsz' : (listed.setIfInBounds i true).size = N := by simp [hsz]
        have hl' : ∀ k, (listed.setIfInBounds i true).getD k false = if k = i then true else listed.getD k false := fun k => by
          simp only [Array.getD_eq_getD_getElem?, Array.getElem?_setIfInBounds]
          by_cases hki : i = k
          · subst hki; simp [hsz, hiN]
          · rw [if_neg hki, if_neg (fun e => hki e.symm)]
        have hcl' : ∀ k ok, ops.toList[k]? = some ok → (listed.setIfInBounds i true).getD k false = true → ∀ e ∈ ok.after.toList, Region.binds .any e = true → (listed.setIfInBounds i true).getD e.on false = true := fun k ok hok hlk e he hb => by
          rw [hl'] at hlk ⊢
          by_cases hei : e.on = i
          · rw [if_pos hei]
          · rw [if_neg hei]
            by_cases hki : k = i
            · subst hki
              rw [hol] at hok
              have : o = ok := by simpa using hok
              subst this
              exact hedges' e he hb
            · rw [if_neg hki] at hlk
              exact hcl k ok hok hlk e he hb
        have hcnt' : (List.range N).countP (fun k => !(listed.setIfInBounds i true).getD k false) ≤ fuel := by
          have := countP_lt (p := fun k => !listed.getD k false) (q := fun k => !(listed.setIfInBounds i true).getD k false) (i := i) (l := List.range N) (fun x _ hq => by
            rw [hl'] at hq
            by_cases hxi : x = i
            · rw [if_pos hxi] at hq; cases hq
            · rw [if_neg hxi] at hq; exact hq) (List.mem_range.2 hiN) (by simp only [hun]; rfl) (by simp only [hl']; simp)
          omega
        have hfold : foldF as V (fun k => (listed.setIfInBounds i true).getD k false) fr N = putA (foldF as V (fun k => listed.getD k false) fr N) ao.dst (V i) := by
          rw [← hdi, ← foldF_add (m := fun k => listed.getD k false) hiN fun d k hd hik hkN hdk => by
            have hmem : d ∈ ao.names := by
              rw [hdi] at hd
              simp [AOper.names, hd]
            rw [writers d hmem k hkN hdk (by omega)]
            simp; omega]
          congr 1
          funext k
          exact hl' k
        have hmkahead : mk i → ∀ k, k < i → mk k → listed.getD k false = true := fun hmi k hki hmk' => by
          by_cases hni : n ≤ i
          · exact hahead k (htl i hni (by omega) k hki)
          · have hk1 : makesAt as k = true := by
              rcases hmk' with h | h
              · omega
              · exact h
            have hi1 : makesAt as i = true := by
              rcases hmi with h | h
              · omega
              · exact h
            have h := (hpr i (by omega) k hki).2
            obtain ⟨ok, aok, _, _, haok, _⟩ := hasGet k (by omega)
            simp only [makesAt, hao] at hi1
            simp only [makesAt, haok] at hk1
            unfold rowOk at h
            simp only [hao, haok, hi1, hk1, Bool.and_self, Bool.not_true, Bool.false_or] at h
            exact hahead k h
        have hji : mk i → j ≤ i := fun hmi => by
          rcases Nat.lt_or_ge i j with h | h
          · have := (hmk i hiN hmi).2 h
            rw [hun] at this; cases this
          · exact h
        have hGi : mk i → G i = G j := fun hmi => stillTo j i (hji hmi) (by omega) fun k h1 h2 hmk' => by
          have := (hmk k (by omega) hmk').1 (hmkahead hmi k h2 hmk'); omega
        obtain ⟨hop, hdst⟩ := resOper_parts hres
        have goon : ∀ (u : Value) (w' : World) (ρ' : List Reg) (j' : Nat), j' ≤ N → (j' ≤ n ∨ ∃ k, n ≤ k ∧ k < j' ∧ mk k) → (∀ k, k < N → mk k → ((listed.setIfInBounds i true).getD k false = true ↔ k < j')) → HR base ρ' (G j') w' → RExt ρ ρ' → VR ρ' (V i) u → Below base w w' →
            wpAny P .any ops Q fuel (listed.setIfInBounds i true) (a.put o.dst u) w' := fun u w' ρ' j' hj' hjj' hmk' hH' hx' hv hB' => by
          refine ih _ _ w' j' ρ' hsz' hcl' hcnt' hj' hjj' hmk' hH' ?_ (hx.trans hx') (hB.trans hB') ((Act.defers_put _ _ _).trans hd)
          rw [hfold, ← hdst]
          exact (hF.ext hx').put _ hv
        have hjNew : mk i → (i + 1 ≤ n ∨ ∃ k, n ≤ k ∧ k < i + 1 ∧ mk k) := fun hmi => by
          rcases Nat.lt_or_ge i n with h | h
          · exact .inl h
          · exact .inr ⟨i, h, by omega, hmi⟩
        have hmkNew : mk i → ∀ k, k < N → mk k → ((listed.setIfInBounds i true).getD k false = true ↔ k < i + 1) := fun hmi k hkN hmk' => by
          rw [hl']
          by_cases hki : k = i
          · subst hki; simp
          · rw [if_neg hki, hmk k hkN hmk']
            have h1 := hji hmi
            constructor
            · intro h; omega
            · intro h
              exact (hmk k hkN hmk').1 (hmkahead hmi k (by omega) hmk')
        have hmkOld : ¬ mk i → ∀ k, k < N → mk k → ((listed.setIfInBounds i true).getD k false = true ↔ k < j) := fun hnm k hkN hmk' => by
          rw [hl']
          by_cases hki : k = i
          · subst hki; exact absurd hmk' hnm
          · rw [if_neg hki, hmk k hkN hmk']
        unfold wpOp
        simp only [ho]
        rw [wanted_same hF hres, hwant]
        rcases (hT.step i ao hao).1 with ⟨hw, hex⟩ | ⟨hw, hV, hGs⟩
        · rw [if_pos hw]
          refine .inl ?_
          by_cases hmi : mk i
          · have hex' : execA call (if i < n then H.length else fl) (foldF as V (fun k => listed.getD k false) fr N) (G j) ao.op = some (V i, G (i + 1)) := by
              rw [execA_congr ao.op hev, ← hGi hmi]; exact hex
            exact exec_sound hc hop hH hF hex' fun u w' ρ' h1 h2 h3 h4 => goon u w' ρ' (i + 1) (by omega) (hjNew hmi) (hmkNew hmi) h1 h2 h3 h4
          · have hin : i < n := by
              rcases Nat.lt_or_ge i n with h | h
              · exact h
              · exact absurd (.inl h) hmi
            have hmf0 : makesAt as i = false := by
              cases hb : makesAt as i with
              | false => rfl
              | true => exact absurd (.inr hb) hmi
            have hmf : ao.op.makes = false := by simpa [makesAt, hao] using hmf0
            rw [notCall hmf] at hex
            have hjn : j ≤ n := by
              rcases hjj with h | ⟨k, h1, h2, h3⟩
              · exact h
              · have hkN : k < N := by omega
                have h4 := (hmk k hkN h3).2 h2
                have := hbehind' k hkN (htl k h1 (by omega) i (by omega))
                rw [this] at h4; cases h4
            have key : stepA fl (G j) (·.ev (F i)) ao.op = some (V i, G j) := by
              rcases hkind i (by omega) hin hmf0 with ht | hf
              · have hsame : G i = G j := by
                  unfold tiedAt at ht
                  rw [List.all_eq_true] at ht
                  have ht' : ∀ k, k < N → mk k → k ≠ i → k < n → (if k < i then ((aheadA ops.toList []).getD i 0).testBit k else ((aheadA ops.toList []).getD k 0).testBit i) = true := fun k hkN hmk' hki hkn => by
                    have hmk1 : makesAt as k = true := by
                      rcases hmk' with h | h
                      · omega
                      · exact h
                    have := ht k (List.mem_range.2 (by omega))
                    rw [hmk1] at this
                    have hne : (k == i) = false := by simpa using hki
                    rw [hne] at this
                    simpa using this
                  rcases Nat.le_total j i with h | h
                  · refine stillTo j i h (by omega) fun k h1 h2 hmk' => ?_
                    have := ht' k (by omega) hmk' (by omega) (by omega)
                    rw [if_pos h2] at this
                    have := (hmk k (by omega) hmk').1 (hahead k this)
                    omega
                  · refine (stillTo i j h hj fun k h1 h2 hmk' => ?_).symm
                    have hki : k ≠ i := fun e => hmi (by rw [← e]; exact hmk')
                    have := ht' k (by omega) hmk' hki (by omega)
                    rw [if_neg (by omega)] at this
                    have h4 := hbehind' k (by omega) this
                    rw [(hmk k (by omega) hmk').2 h2] at h4
                    cases h4
                rw [← hsame]
                exact (look_sub (fl' := fl) (H2 := G i) hmf (fun _ _ _ _ _ h => h) hex).2
              · rw [hgs] at hf
                refine (look_sub (fl' := fl) (H2 := G j) hmf (fun x hxm b hb cs hcs => ?_) hex).2
                obtain ⟨u, hu⟩ := opdsOld i ao hiN hao hf (fun k hk hfk => lowV k (by omega) hfk) x hxm
                have hbl := hu.low b hb
                rw [hH0.len] at hbl
                exact lowC i j (by omega) hjn b hbl cs hcs
            have hex' : execA call fl (foldF as V (fun k => listed.getD k false) fr N) (G j) ao.op = some (V i, G j) := by
              rw [execA_congr ao.op hev, notCall hmf]; exact key
            exact exec_sound hc hop hH hF hex' fun u w' ρ' h1 h2 h3 h4 => goon u w' ρ' j hj hjj (hmkOld hmi) h1 h2 h3 h4
        · rw [if_neg (by rw [hw]; simp)]
          have hvu : VR ρ (V i) undef := by rw [hV]; exact VR.undef ρ
          by_cases hmi : mk i
          · exact goon undef w ρ (i + 1) (by omega) (hjNew hmi) (hmkNew hmi) (by rw [hGs, hGi hmi]; exact hH) (RExt.refl ρ) hvu (Below.refl _ _)
          · exact goon undef w ρ j hj hjj (hmkOld hmi) hH (RExt.refl ρ) hvu (Below.refl _ _)
  refine wp_region_any hm ?_
  refine main _ _ a0 w0.drew 0 ρ0 (by simp [hN]) (fun i o _ hl => ?_) ?_ (Nat.zero_le _) (.inl (Nat.zero_le _)) (fun k hk _ => ?_) (by rw [hGz]; exact hH0.drew) ?_ (RExt.refl _) (Below.refl _ _).drew rfl
  · rw [Array.getD_eq_getD_getElem?, Array.getElem?_replicate] at hl
    split at hl <;> simp at hl
  · exact Nat.le_trans (List.countP_le_length) (by simp [hN])
  · rw [Array.getD_eq_getD_getElem?, Array.getElem?_replicate]
    split <;> simp
  · have : foldF as V (fun k => (Array.replicate ops.size false).getD k false) fr N = fr := by
      have h0 : ∀ M, foldF as V (fun k => (Array.replicate ops.size false).getD k false) fr M = fr := by
        intro M
        induction M with
        | zero => rfl
        | succ M ih =>
          simp only [foldF]
          rw [if_neg, ih]
          rw [Array.getD_eq_getD_getElem?, Array.getElem?_replicate]
          split <;> simp
      exact h0 N
    rw [this]; exact hF0
end
end PAbs

/- Reasoning about the abstract machine's evaluator: more fuel gives the same; rules for statements; and the way to the model. -/
namespace PAbs
open Go Go.RowKit
set_option linter.unusedSimpArgs false
set_option linter.unusedVariables false

/-! ### more fuel, a lower floor -/
theorem writeN_floor {fl fl' : Nat} {H H' : AHeap} {b o : Nat} {vs : List Cell} (hf : fl' ≤ fl) (h : writeN fl H b o vs = some H') : writeN fl' H b o vs = some H' := by
  simp only [writeN] at h ⊢
  split at h
  · split at h
    · rename_i hc; rw [if_pos ⟨by omega, hc.2⟩]; exact h
    · cases h
  · cases h

theorem stepA_floor {fl fl' : Nat} {H : AHeap} {ev : AOpd → AV} {p : AOp} {r : AV × AHeap} (hf : fl' ≤ fl) (h : stepA fl H ev p = some r) : stepA fl' H ev p = some r := by
  cases p <;> simp only [stepA] at h ⊢ <;> try exact h
  case store n a x =>
    split at h
    · split at h
      · rename_i hc
        obtain ⟨H1, h1, e⟩ := map_some h
        rw [if_pos hc, writeN_floor hf h1]; simpa using e
      · cases h
    · cases h
  case copy sz d s =>
    split at h
    · split at h
      · rename_i hc
        obtain ⟨H1, h1, e⟩ := map_some h
        rw [if_pos hc, writeN_floor hf h1]; simpa using e
      · cases h
    · cases h
  case append z b s x =>
    simp only [appendA] at h ⊢
    split at h
    · cases h
    · split at h
      · exact h
      · split at h
        · split at h
          · rename_i hc
            rw [if_pos ⟨by omega, hc.2⟩]; exact h
          · cases h
        · cases h
      · cases h

/-- 'call'' answers whatever 'call' answers, also under a lower floor -/
def CallLe (call call' : ACall) : Prop := ∀ fl fl' f args H r, fl' ≤ fl → call fl f args H = some r → call' fl' f args H = some r

section
variable {call call' : ACall} (hc : CallLe call call')
include hc
theorem execA_le {fl fl' : Nat} {fr : AFrame} {H : AHeap} {p : AOp} {r : AV × AHeap} (hf : fl' ≤ fl) (h : execA call fl fr H p = some r) : execA call' fl' fr H p = some r := by
  cases p <;> simp only [execA] at h ⊢
  case call f as => exact hc _ _ _ _ _ _ hf h
  case callV f as =>
    split at h
    · exact hc _ _ _ _ _ _ hf h
    · exact hc _ _ _ _ _ _ hf h
    · cases h
  all_goals exact stepA_floor hf h
theorem evalOps_le {fl fl' : Nat} (hf : fl' ≤ fl) : ∀ {l : List AOper} {fr : AFrame} {H : AHeap} {r : AFrame × AHeap}, evalOps call fl l fr H = some r → evalOps call' fl' l fr H = some r
  | [], fr, H, r, h => h
  | o :: l, fr, H, r, h => by
    simp only [evalOps] at h ⊢
    split at h
    · rename_i hw
      rw [if_pos hw]
      split at h
      · rename_i hx; rw [execA_le hc hf hx]; exact evalOps_le hf h
      · cases h
    · rename_i hw
      rw [if_neg hw]; exact evalOps_le hf h
theorem evalHead_le : ∀ {l : List AOper} {fr : AFrame} {H : AHeap} {r : AFrame × AHeap}, evalHead call l fr H = some r → evalHead call' l fr H = some r
  | [], fr, H, r, h => h
  | o :: l, fr, H, r, h => by
    simp only [evalHead] at h ⊢
    split at h
    · rename_i hw
      rw [if_pos hw]
      split at h
      · rename_i hx; rw [execA_le hc (Nat.le_refl _) hx]; exact evalHead_le h
      · cases h
    · rename_i hw
      rw [if_neg hw]; exact evalHead_le h
theorem evalCode_le {fl fl' n n' : Nat} (hf : fl' ≤ fl) (hn : n ≤ n') : ∀ {c : ACode} {fr : AFrame} {H : AHeap} {r : AExit × AFrame × AHeap}, evalCode call fl n c fr H = some r → evalCode call' fl' n' c fr H = some r := by
  intro c
  induction c with
  | skip => intro fr H r h; exact h
  | ret => intro fr H r h; exact h
  | exit id => intro fr H r h; exact h
  | region ops =>
    intro fr H r h
    simp only [evalCode] at h ⊢
    split at h
    · rename_i hx; rw [evalOps_le hc hf hx]; exact h
    · cases h
  | draw hd tl =>
    intro fr H r h
    simp only [evalCode] at h ⊢
    split at h
    · rename_i hx
      rw [evalHead_le hc hx]
      split at h
      · rename_i hy; rw [evalOps_le hc hf hy]; exact h
      · cases h
    · cases h
  | drawA z q d ops m =>
    intro fr H r h
    simp only [evalCode] at h ⊢
    split at h
    · rename_i hx
      rw [evalHead_le hc hx]
      split at h
      · rename_i hy; rw [evalOps_le hc hf hy]; exact h
      · cases h
    · cases h
  | draw3 hd tl =>
    intro fr H r h
    simp only [evalCode] at h ⊢
    split at h
    · rename_i hx
      rw [evalOps_le hc (Nat.le_refl _) hx]
      split at h
      · rename_i hy; rw [evalOps_le hc hf hy]; exact h
      · cases h
    · cases h
  | defers ops f args rest ih =>
    intro fr H r h
    simp only [evalCode] at h ⊢
    split at h
    · rename_i hx
      rw [evalOps_le hc hf hx]
      simp only
      split at h
      · rename_i hy
        rw [ih hy]
        simp only
        split at h
        · rename_i hz; rw [hc _ _ _ _ _ _ hf hz]; exact h
        · cases h
      · cases h
    · cases h
  | seq a b iha ihb =>
    intro fr H r h
    simp only [evalCode] at h ⊢
    split at h
    · rename_i hx; rw [iha hx]; exact ihb h
    · rename_i hne
      rw [iha h]
      obtain ⟨e, f, g⟩ := r
      cases e with
      | normal => exact absurd h (hne _ _)
      | exit _ => rfl
      | ret => rfl
  | cond c a b iha ihb =>
    intro fr H r h
    simp only [evalCode] at h ⊢
    split at h
    · exact iha h
    · exact ihb h
    · cases h
  | block id c ih =>
    intro fr H r h
    simp only [evalCode] at h ⊢
    split at h
    · rename_i hx; rw [ih hx]; exact h
    · rename_i hne
      rw [ih h]
      obtain ⟨e, f, g⟩ := r
      cases e with
      | exit _ => exact absurd h (hne _ _ _)
      | normal => rfl
      | ret => rfl
  | loop c ih =>
    intro fr H r h
    simp only [evalCode] at h ⊢
    have key : ∀ (m m' : Nat), m ≤ m' → ∀ {fr : AFrame} {H : AHeap} {r : AExit × AFrame × AHeap}, iterA (evalCode call fl n c) m fr H = some r → iterA (evalCode call' fl' n' c) m' fr H = some r := by
      intro m
      induction m with
      | zero => intro m' _ fr H r h; simp [iterA] at h
      | succ m ihm =>
        intro m' hm fr H r h
        obtain ⟨m'', rfl⟩ : ∃ q, m' = q + 1 := ⟨m' - 1, by omega⟩
        simp only [iterA] at h ⊢
        split at h
        · rename_i hx; rw [ih hx]; exact ihm m'' (by omega) h
        · rename_i hne
          rw [ih h]
          obtain ⟨e, f, g⟩ := r
          cases e with
          | normal => exact absurd h (hne _ _)
          | exit _ => rfl
          | ret => rfl
    exact key n n' hn h
end

theorem callFn_le (A : Nat → Option AFn) : ∀ k k', k ≤ k' → CallLe (callFn A k) (callFn A k')
  | 0, _, _ => fun fl fl' f args H r _ h => by simp [callFn] at h
  | k + 1, k', hk => fun fl fl' f args H r hf h => by
    obtain ⟨q, rfl⟩ : ∃ q, k' = q + 1 := ⟨k' - 1, by omega⟩
    have ih := callFn_le A k q (by omega)
    simp only [callFn] at h ⊢
    split at h
    · cases h
    · split at h
      · rename_i hx; rw [evalCode_le ih hf (by omega) hx]; exact h
      · rename_i hx; rw [evalCode_le ih hf (by omega) hx]; exact h
      · cases h

/-! ### what a call, a statement, operations come to -/
variable {A : Nat → Option AFn} {fl : Nat}

structure AC (A : Nat → Option AFn) (fl f : Nat) (args : List AV) (H : AHeap) (Q : AV → AHeap → Prop) : Prop where
  ex : ∃ k v H', callFn A k fl f args H = some (v, H') ∧ Q v H'
structure AW (A : Nat → Option AFn) (fl : Nat) (c : ACode) (fr : AFrame) (H : AHeap) (Q : AExit → AFrame → AHeap → Prop) : Prop where
  ex : ∃ k e fr' H', evalCode (callFn A k) fl k c fr H = some (e, fr', H') ∧ Q e fr' H'
structure AO (A : Nat → Option AFn) (fl : Nat) (ops : List AOper) (fr : AFrame) (H : AHeap) (Q : AFrame → AHeap → Prop) : Prop where
  ex : ∃ k fr' H', evalOps (callFn A k) fl ops fr H = some (fr', H') ∧ Q fr' H'
structure AHd (A : Nat → Option AFn) (ops : List AOper) (fr : AFrame) (H : AHeap) (Q : AFrame → AHeap → Prop) : Prop where
  ex : ∃ k fr' H', evalHead (callFn A k) ops fr H = some (fr', H') ∧ Q fr' H'

theorem AC.mono {f : Nat} {args : List AV} {H : AHeap} {Q Q' : AV → AHeap → Prop} (h : AC A fl f args H Q) (hq : ∀ v H', Q v H' → Q' v H') : AC A fl f args H Q' := by
  obtain ⟨k, v, H', h1, h2⟩ := h; exact ⟨k, v, H', h1, hq _ _ h2⟩
theorem AW.mono {c : ACode} {fr : AFrame} {H : AHeap} {Q Q' : AExit → AFrame → AHeap → Prop} (h : AW A fl c fr H Q) (hq : ∀ e fr' H', Q e fr' H' → Q' e fr' H') : AW A fl c fr H Q' := by
  obtain ⟨k, v, f, H', h1, h2⟩ := h; exact ⟨k, v, f, H', h1, hq _ _ _ h2⟩
theorem AO.mono {ops : List AOper} {fr : AFrame} {H : AHeap} {Q Q' : AFrame → AHeap → Prop} (h : AO A fl ops fr H Q) (hq : ∀ fr' H', Q fr' H' → Q' fr' H') : AO A fl ops fr H Q' := by
  obtain ⟨k, f, H', h1, h2⟩ := h; exact ⟨k, f, H', h1, hq _ _ h2⟩

/-- a call that may change nothing that is there may be made where it might: and nothing is changed -/
theorem AC.kept {f : Nat} {args : List AV} {H : AHeap} {Q : AV → AHeap → Prop} {fl0 : Nat} (h : AC A fl0 f args H Q) (hf : fl ≤ fl0) : AC A fl f args H (fun v H' => Q v H' ∧ Kept fl0 H H') := by
  obtain ⟨k, v, H', h1, h2⟩ := h
  exact ⟨k, v, H', callFn_le A k k (Nat.le_refl _) _ _ _ _ _ _ hf h1, h2, callFn_kept A k _ _ _ _ _ _ h1⟩
theorem AC.floor {f : Nat} {args : List AV} {H : AHeap} {Q : AV → AHeap → Prop} {fl0 : Nat} (h : AC A fl0 f args H Q) (hf : fl ≤ fl0) : AC A fl f args H Q := (h.kept hf).mono fun _ _ h => h.1
theorem AC.keeps {f : Nat} {args : List AV} {H : AHeap} {Q : AV → AHeap → Prop} (h : AC A fl f args H Q) : AC A fl f args H (fun v H' => Q v H' ∧ Kept fl H H') := h.kept (Nat.le_refl _)

/-! ### functions -/
def exitQ (rs : List ARes) (Q : AV → AHeap → Prop) : AExit → AFrame → AHeap → Prop
  | .normal, fr, H => ∃ v, outA fr H rs = some v ∧ Q v H
  | .ret, fr, H => ∃ v, outA fr H rs = some v ∧ Q v H
  | _, _, _ => False

theorem AC_enter {f : Nat} {fn : AFn} {args : List AV} {H : AHeap} {Q : AV → AHeap → Prop} (hA : A f = some fn) (h : AW A fl fn.body (enterA fn args) H (exitQ fn.results Q)) : AC A fl f args H Q := by
  obtain ⟨k, e, fr, H', h1, h2⟩ := h
  cases e with
  | normal =>
    obtain ⟨v, hv, hq⟩ := h2
    exact ⟨k + 1, v, H', by simp only [callFn, hA, h1, hv]; rfl, hq⟩
  | ret =>
    obtain ⟨v, hv, hq⟩ := h2
    exact ⟨k + 1, v, H', by simp only [callFn, hA, h1, hv]; rfl, hq⟩
  | exit id => exact h2.elim

/-! ### statements -/
def thenQ (A : Nat → Option AFn) (fl : Nat) (b : ACode) (Q : AExit → AFrame → AHeap → Prop) : AExit → AFrame → AHeap → Prop
  | .normal, fr, H => AW A fl b fr H Q
  | e, fr, H => Q e fr H

theorem AW_seq {a b : ACode} {fr : AFrame} {H : AHeap} {Q : AExit → AFrame → AHeap → Prop} (h : AW A fl a fr H (thenQ A fl b Q)) : AW A fl (.seq a b) fr H Q := by
  obtain ⟨k, e, fr1, H1, h1, h2⟩ := h
  cases e with
  | normal =>
    obtain ⟨k2, e2, fr2, H2, h3, h4⟩ := h2
    refine ⟨max k k2, e2, fr2, H2, ?_, h4⟩
    simp only [evalCode]
    rw [evalCode_le (callFn_le A k _ (Nat.le_max_left _ _)) (Nat.le_refl _) (Nat.le_max_left _ _) h1]
    exact evalCode_le (callFn_le A k2 _ (Nat.le_max_right _ _)) (Nat.le_refl _) (Nat.le_max_right _ _) h3
  | exit id => exact ⟨k, _, fr1, H1, by simp only [evalCode]; rw [h1], h2⟩
  | ret => exact ⟨k, _, fr1, H1, by simp only [evalCode]; rw [h1], h2⟩

/-- a deferred call: its arguments now, the call behind all that follows -/
def defersQ (A : Nat → Option AFn) (fl f : Nat) (vs : List AV) (Q : AExit → AFrame → AHeap → Prop) : AExit → AFrame → AHeap → Prop :=
  fun e fr H => AC A fl f vs H (fun _ H' => Q e fr H')
theorem AW_defers {ops : List AOper} {f : Nat} {args : List AOpd} {rest : ACode} {fr : AFrame} {H : AHeap} {Q : AExit → AFrame → AHeap → Prop}
    (h : AO A fl ops fr H (fun fr1 H1 => AW A fl rest fr1 H1 (defersQ A fl f (args.map (·.ev fr1)) Q))) : AW A fl (.defers ops f args rest) fr H Q := by
  obtain ⟨k, fr1, H1, h1, k2, e, fr2, H2, h2, k3, v, H3, h3, h4⟩ := h
  refine ⟨max k (max k2 k3), e, fr2, H3, ?_, h4⟩
  simp only [evalCode]
  rw [evalOps_le (callFn_le A k _ (Nat.le_max_left _ _)) (Nat.le_refl _) h1]
  simp only
  rw [evalCode_le (callFn_le A k2 _ (by omega)) (Nat.le_refl _) (by omega) h2]
  simp only
  rw [callFn_le A k3 _ (by omega) _ _ _ _ _ _ (Nat.le_refl _) h3]
theorem AW_cond {c : AOpd} {x y : ACode} {fr : AFrame} {H : AHeap} {Q : AExit → AFrame → AHeap → Prop} {t : Bool} (hc : c.ev fr = .c (.bool t)) (h1 : t = true → AW A fl x fr H Q) (h2 : t = false → AW A fl y fr H Q) : AW A fl (.cond c x y) fr H Q := by
  cases t with
  | true =>
    obtain ⟨k, e, fr', H', h3, h4⟩ := h1 rfl
    exact ⟨k, e, fr', H', by simp only [evalCode, hc]; exact h3, h4⟩
  | false =>
    obtain ⟨k, e, fr', H', h3, h4⟩ := h2 rfl
    exact ⟨k, e, fr', H', by simp only [evalCode, hc]; exact h3, h4⟩

def blockQ (id : Nat) (Q : AExit → AFrame → AHeap → Prop) : AExit → AFrame → AHeap → Prop
  | .exit i, fr, H => if i = id then Q .normal fr H else Q (.exit i) fr H
  | e, fr, H => Q e fr H

theorem AW_block {id : Nat} {c : ACode} {fr : AFrame} {H : AHeap} {Q : AExit → AFrame → AHeap → Prop} (h : AW A fl c fr H (blockQ id Q)) : AW A fl (.block id c) fr H Q := by
  obtain ⟨k, e, fr1, H1, h1, h2⟩ := h
  cases e with
  | normal => exact ⟨k, _, fr1, H1, by simp only [evalCode]; rw [h1], h2⟩
  | ret => exact ⟨k, _, fr1, H1, by simp only [evalCode]; rw [h1], h2⟩
  | exit i =>
    simp only [blockQ] at h2
    by_cases hi : i = id
    · rw [if_pos hi] at h2
      exact ⟨k, _, fr1, H1, by simp only [evalCode]; rw [h1]; simp [hi], h2⟩
    · rw [if_neg hi] at h2
      exact ⟨k, _, fr1, H1, by simp only [evalCode]; rw [h1]; simp [hi], h2⟩

theorem AW_skip {fr : AFrame} {H : AHeap} {Q : AExit → AFrame → AHeap → Prop} (h : Q .normal fr H) : AW A fl .skip fr H Q := ⟨0, _, fr, H, rfl, h⟩
theorem AW_exit {id : Nat} {fr : AFrame} {H : AHeap} {Q : AExit → AFrame → AHeap → Prop} (h : Q (.exit id) fr H) : AW A fl (.exit id) fr H Q := ⟨0, _, fr, H, rfl, h⟩
theorem AW_ret {fr : AFrame} {H : AHeap} {Q : AExit → AFrame → AHeap → Prop} (h : Q .ret fr H) : AW A fl .ret fr H Q := ⟨0, _, fr, H, rfl, h⟩

/-- a loop: what holds at each round's head, and a measure -/
theorem AW_loop {c : ACode} {fr : AFrame} {H : AHeap} {Q : AExit → AFrame → AHeap → Prop} (I : AFrame → AHeap → Prop) (μ : AFrame → AHeap → Nat) (h0 : I fr H)
    (hr : ∀ fr H, I fr H → AW A fl c fr H (fun e fr' H' => match e with | .normal => I fr' H' ∧ μ fr' H' < μ fr H | e => Q e fr' H')) : AW A fl (.loop c) fr H Q := by
  have key : ∀ m fr H, μ fr H = m → I fr H → ∃ k e fr' H', (∀ k', k ≤ k' → iterA (evalCode (callFn A k') fl k' c) k fr H = some (e, fr', H')) ∧ Q e fr' H' := by
    intro m
    induction m using Nat.strongRecOn with
    | _ m ih =>
      intro fr H hm hI
      obtain ⟨k, e, fr1, H1, h1, h2⟩ := hr fr H hI
      cases e with
      | normal =>
        obtain ⟨hI1, hlt⟩ := h2
        obtain ⟨k2, e2, fr2, H2, h3, h4⟩ := ih _ (by rw [← hm]; exact hlt) fr1 H1 rfl hI1
        refine ⟨max k k2 + 1, e2, fr2, H2, fun k' hk' => ?_, h4⟩
        simp only [iterA]
        rw [evalCode_le (callFn_le A k k' (by omega)) (Nat.le_refl _) (by omega) h1]
        have h5 := h3 k' (by omega)
        have key2 : ∀ (m m' : Nat), m ≤ m' → ∀ {fr : AFrame} {H : AHeap} {r : AExit × AFrame × AHeap}, iterA (evalCode (callFn A k') fl k' c) m fr H = some r → iterA (evalCode (callFn A k') fl k' c) m' fr H = some r := by
          intro m
          induction m with
          | zero => intro m' _ fr H r h; simp [iterA] at h
          | succ m ihm =>
            intro m' hmm fr H r h
            obtain ⟨m'', rfl⟩ : ∃ q, m' = q + 1 := ⟨m' - 1, by omega⟩
            simp only [iterA] at h ⊢
            split at h
            · rename_i hx; exact ihm m'' (by omega) h
            · exact h
        exact key2 k2 _ (Nat.le_max_right _ _) h5
      | exit id =>
        refine ⟨k + 1, _, fr1, H1, fun k' hk' => ?_, h2⟩
        simp only [iterA]
        rw [evalCode_le (callFn_le A k k' (by omega)) (Nat.le_refl _) (by omega) h1]
      | ret =>
        refine ⟨k + 1, _, fr1, H1, fun k' hk' => ?_, h2⟩
        simp only [iterA]
        rw [evalCode_le (callFn_le A k k' (by omega)) (Nat.le_refl _) (by omega) h1]
  obtain ⟨k, e, fr', H', h1, h2⟩ := key _ fr H rfl h0
  exact ⟨k, e, fr', H', by simp only [evalCode]; exact h1 k (Nat.le_refl _), h2⟩

/-! ### operations -/
/-- calls nothing -/
def noCall : ACall := fun _ _ _ _ => none
theorem noCall_le (call : ACall) : CallLe noCall call := fun _ _ _ _ _ _ _ h => by simp [noCall] at h

theorem AO_nil {fr : AFrame} {H : AHeap} {Q : AFrame → AHeap → Prop} (h : Q fr H) : AO A fl [] fr H Q := ⟨0, fr, H, rfl, h⟩

theorem evalOps_append (call : ACall) : ∀ (l m : List AOper) (fr : AFrame) (H : AHeap), evalOps call fl (l ++ m) fr H = match evalOps call fl l fr H with | some (fr', H') => evalOps call fl m fr' H' | none => none
  | [], m, fr, H => rfl
  | o :: l, m, fr, H => by
    simp only [List.cons_append, evalOps]
    split
    · split
      · exact evalOps_append call l m _ _
      · rfl
    · exact evalOps_append call l m _ _
theorem evalHead_append (call : ACall) : ∀ (l m : List AOper) (fr : AFrame) (H : AHeap), evalHead call (l ++ m) fr H = match evalHead call l fr H with | some (fr', H') => evalHead call m fr' H' | none => none
  | [], m, fr, H => rfl
  | o :: l, m, fr, H => by
    simp only [List.cons_append, evalHead]
    split
    · split
      · exact evalHead_append call l m _ _
      · rfl
    · exact evalHead_append call l m _ _

/-- the first n operations call nothing: they are reckoned -/
theorem AO_take (n : Nat) {ops : List AOper} {fr fr' : AFrame} {H H' : AHeap} {Q : AFrame → AHeap → Prop} (h1 : evalOps noCall fl (ops.take n) fr H = some (fr', H')) (h2 : AO A fl (ops.drop n) fr' H' Q) : AO A fl ops fr H Q := by
  obtain ⟨k, fr2, H2, h3, h4⟩ := h2
  refine ⟨k, fr2, H2, ?_, h4⟩
  rw [← List.take_append_drop n ops, evalOps_append, evalOps_le (noCall_le _) (Nat.le_refl _) h1]
  exact h3
theorem AHd_take (n : Nat) {ops : List AOper} {fr fr' : AFrame} {H H' : AHeap} {Q : AFrame → AHeap → Prop} (h1 : evalHead noCall (ops.take n) fr H = some (fr', H')) (h2 : AHd A (ops.drop n) fr' H' Q) : AHd A ops fr H Q := by
  obtain ⟨k, fr2, H2, h3, h4⟩ := h2
  refine ⟨k, fr2, H2, ?_, h4⟩
  rw [← List.take_append_drop n ops, evalHead_append, evalHead_le (noCall_le _) h1]
  exact h3
theorem AHd_nil {fr : AFrame} {H : AHeap} {Q : AFrame → AHeap → Prop} (h : Q fr H) : AHd A [] fr H Q := ⟨0, fr, H, rfl, h⟩

/-- one operation that calls nothing, by a fact -/
theorem AO_step {o : AOper} {rest : List AOper} {fr : AFrame} {H H' : AHeap} {v : AV} {Q : AFrame → AHeap → Prop} (hw : wantedA fr o.guard = true) (h1 : execA noCall fl fr H o.op = some (v, H')) (h2 : AO A fl rest (putA fr o.dst v) H' Q) : AO A fl (o :: rest) fr H Q := by
  obtain ⟨k, fr2, H2, h3, h4⟩ := h2
  refine ⟨k, fr2, H2, ?_, h4⟩
  simp only [evalOps]
  rw [if_pos hw, execA_le (noCall_le _) (Nat.le_refl _) h1]
  exact h3
theorem AO_skip {o : AOper} {rest : List AOper} {fr : AFrame} {H : AHeap} {Q : AFrame → AHeap → Prop} (hw : wantedA fr o.guard = false) (h2 : AO A fl rest (putA fr o.dst aundef) H Q) : AO A fl (o :: rest) fr H Q := by
  obtain ⟨k, fr2, H2, h3, h4⟩ := h2
  refine ⟨k, fr2, H2, ?_, h4⟩
  simp only [evalOps]
  rw [if_neg (by rw [hw]; simp)]
  exact h3

/-- a call -/
theorem AO_call {d : Option Nat} {f : Nat} {as : List AOpd} {g : Option (Nat × Bool)} {rest : List AOper} {fr : AFrame} {H : AHeap} {R : AV → AHeap → Prop} {Q : AFrame → AHeap → Prop} (hw : wantedA fr g = true)
    (h1 : AC A fl f (as.map (·.ev fr)) H R) (h2 : ∀ v H', R v H' → AO A fl rest (putA fr d v) H' Q) : AO A fl (⟨d, .call f as, g⟩ :: rest) fr H Q := by
  obtain ⟨k, v, H1, h3, h4⟩ := h1
  obtain ⟨k2, fr2, H2, h5, h6⟩ := h2 v H1 h4
  refine ⟨max k k2, fr2, H2, ?_, h6⟩
  simp only [evalOps, execA]
  rw [if_pos hw, callFn_le A k _ (Nat.le_max_left _ _) _ _ _ _ _ _ (Nat.le_refl _) h3]
  exact evalOps_le (callFn_le A k2 _ (Nat.le_max_right _ _)) (Nat.le_refl _) h5
theorem AO_callV {d : Option Nat} {f : Nat} {x : AOpd} {as : List AOpd} {g : Option (Nat × Bool)} {rest : List AOper} {fr : AFrame} {H : AHeap} {R : AV → AHeap → Prop} {Q : AFrame → AHeap → Prop} (hw : wantedA fr g = true) (hx : x.ev fr = .c (.fn f))
    (h1 : AC A fl f (as.map (·.ev fr)) H R) (h2 : ∀ v H', R v H' → AO A fl rest (putA fr d v) H' Q) : AO A fl (⟨d, .callV x as, g⟩ :: rest) fr H Q := by
  obtain ⟨k, v, H1, h3, h4⟩ := h1
  obtain ⟨k2, fr2, H2, h5, h6⟩ := h2 v H1 h4
  refine ⟨max k k2, fr2, H2, ?_, h6⟩
  simp only [evalOps, execA, hx]
  rw [if_pos hw, callFn_le A k _ (Nat.le_max_left _ _) _ _ _ _ _ _ (Nat.le_refl _) h3]
  exact evalOps_le (callFn_le A k2 _ (Nat.le_max_right _ _)) (Nat.le_refl _) h5

theorem AO_callClo {d : Option Nat} {f : Nat} {x : AOpd} {caps : List Cell} {as : List AOpd} {g : Option (Nat × Bool)} {rest : List AOper} {fr : AFrame} {H : AHeap} {R : AV → AHeap → Prop} {Q : AFrame → AHeap → Prop} (hw : wantedA fr g = true) (hx : x.ev fr = .clo f caps)
    (h1 : AC A fl f (as.map (·.ev fr) ++ caps.map AV.c) H R) (h2 : ∀ v H', R v H' → AO A fl rest (putA fr d v) H' Q) : AO A fl (⟨d, .callV x as, g⟩ :: rest) fr H Q := by
  obtain ⟨k, v, H1, h3, h4⟩ := h1
  obtain ⟨k2, fr2, H2, h5, h6⟩ := h2 v H1 h4
  refine ⟨max k k2, fr2, H2, ?_, h6⟩
  simp only [evalOps, execA, hx]
  rw [if_pos hw, callFn_le A k _ (Nat.le_max_left _ _) _ _ _ _ _ _ (Nat.le_refl _) h3]
  exact evalOps_le (callFn_le A k2 _ (Nat.le_max_right _ _)) (Nat.le_refl _) h5

theorem AHd_step {o : AOper} {rest : List AOper} {fr : AFrame} {H H' : AHeap} {v : AV} {Q : AFrame → AHeap → Prop} (hw : wantedA fr o.guard = true) (h1 : execA noCall H.length fr H o.op = some (v, H')) (h2 : AHd A rest (putA fr o.dst v) H' Q) : AHd A (o :: rest) fr H Q := by
  obtain ⟨k, fr2, H2, h3, h4⟩ := h2
  refine ⟨k, fr2, H2, ?_, h4⟩
  simp only [evalHead]
  rw [if_pos hw, execA_le (noCall_le _) (Nat.le_refl _) h1]
  exact h3
theorem AHd_skip {o : AOper} {rest : List AOper} {fr : AFrame} {H : AHeap} {Q : AFrame → AHeap → Prop} (hw : wantedA fr o.guard = false) (h2 : AHd A rest (putA fr o.dst aundef) H Q) : AHd A (o :: rest) fr H Q := by
  obtain ⟨k, fr2, H2, h3, h4⟩ := h2
  refine ⟨k, fr2, H2, ?_, h4⟩
  simp only [evalHead]
  rw [if_neg (by rw [hw]; simp)]
  exact h3
theorem AHd_call {d : Option Nat} {f : Nat} {as : List AOpd} {g : Option (Nat × Bool)} {rest : List AOper} {fr : AFrame} {H : AHeap} {R : AV → AHeap → Prop} {Q : AFrame → AHeap → Prop} (hw : wantedA fr g = true)
    (h1 : AC A H.length f (as.map (·.ev fr)) H R) (h2 : ∀ v H', R v H' → Kept H.length H H' → AHd A rest (putA fr d v) H' Q) : AHd A (⟨d, .call f as, g⟩ :: rest) fr H Q := by
  obtain ⟨k, v, H1, h3, h4⟩ := h1
  obtain ⟨k2, fr2, H2, h5, h6⟩ := h2 v H1 h4 (callFn_kept A k _ _ _ _ _ _ h3)
  refine ⟨max k k2, fr2, H2, ?_, h6⟩
  simp only [evalHead, execA]
  rw [if_pos hw, callFn_le A k _ (Nat.le_max_left _ _) _ _ _ _ _ _ (Nat.le_refl _) h3]
  exact evalHead_le (callFn_le A k2 _ (Nat.le_max_right _ _)) h5
theorem AHd_callV {d : Option Nat} {f : Nat} {x : AOpd} {as : List AOpd} {g : Option (Nat × Bool)} {rest : List AOper} {fr : AFrame} {H : AHeap} {R : AV → AHeap → Prop} {Q : AFrame → AHeap → Prop} (hw : wantedA fr g = true) (hx : x.ev fr = .c (.fn f))
    (h1 : AC A H.length f (as.map (·.ev fr)) H R) (h2 : ∀ v H', R v H' → Kept H.length H H' → AHd A rest (putA fr d v) H' Q) : AHd A (⟨d, .callV x as, g⟩ :: rest) fr H Q := by
  obtain ⟨k, v, H1, h3, h4⟩ := h1
  obtain ⟨k2, fr2, H2, h5, h6⟩ := h2 v H1 h4 (callFn_kept A k _ _ _ _ _ _ h3)
  refine ⟨max k k2, fr2, H2, ?_, h6⟩
  simp only [evalHead, execA, hx]
  rw [if_pos hw, callFn_le A k _ (Nat.le_max_left _ _) _ _ _ _ _ _ (Nat.le_refl _) h3]
  exact evalHead_le (callFn_le A k2 _ (Nat.le_max_right _ _)) h5

theorem AW_ops {ops : List AOper} {fr : AFrame} {H : AHeap} {Q : AExit → AFrame → AHeap → Prop} (h : AO A fl ops fr H (Q .normal)) : AW A fl (.region ops) fr H Q := by
  obtain ⟨k, fr', H', h1, h2⟩ := h
  exact ⟨k, _, fr', H', by simp only [evalCode]; rw [h1], h2⟩
/-- a statement that calls nothing: it is reckoned -/
theorem AW_run {ops : List AOper} {fr fr' : AFrame} {H H' : AHeap} {Q : AExit → AFrame → AHeap → Prop} (h1 : evalOps noCall fl ops fr H = some (fr', H')) (h2 : Q .normal fr' H') : AW A fl (.region ops) fr H Q :=
  AW_ops ⟨0, fr', H', evalOps_le (noCall_le _) (Nat.le_refl _) h1, h2⟩
theorem AW_draw {hd tl : List AOper} {fr : AFrame} {H : AHeap} {Q : AExit → AFrame → AHeap → Prop} (h : AHd A hd fr H (fun fr1 H1 => AO A fl tl fr1 H1 (Q .normal))) : AW A fl (.draw hd tl) fr H Q := by
  obtain ⟨k, fr1, H1, h1, k2, fr', H', h2, h3⟩ := h
  refine ⟨max k k2, _, fr', H', ?_, h3⟩
  simp only [evalCode]
  rw [evalHead_le (callFn_le A k _ (Nat.le_max_left _ _)) h1]
  simp only
  rw [evalOps_le (callFn_le A k2 _ (Nat.le_max_right _ _)) (Nat.le_refl _) h2]
theorem AW_drawA {ops : List AOper} {z : List Cell} {q d n : Nat} {fr : AFrame} {H : AHeap} {Q : AExit → AFrame → AHeap → Prop} (h : AHd A ((atBlk q d H.length ops).take n) fr (H ++ [.own z]) (fun fr1 H1 => AO A fl ((atBlk q d H.length ops).drop n) fr1 H1 (Q .normal))) : AW A fl (.drawA z q d ops n) fr H Q := by
  obtain ⟨k, fr1, H1, h1, k2, fr', H', h2, h3⟩ := h
  refine ⟨max k k2, _, fr', H', ?_, h3⟩
  simp only [evalCode]
  rw [evalHead_le (callFn_le A k _ (Nat.le_max_left _ _)) h1]
  simp only
  rw [evalOps_le (callFn_le A k2 _ (Nat.le_max_right _ _)) (Nat.le_refl _) h2]
theorem AW_draw3 {hd tl : List AOper} {fr : AFrame} {H : AHeap} {Q : AExit → AFrame → AHeap → Prop} (h : AO A H.length hd fr H (fun fr1 H1 => AO A fl tl fr1 H1 (Q .normal))) : AW A fl (.draw3 hd tl) fr H Q := by
  obtain ⟨k, fr1, H1, h1, k2, fr', H', h2, h3⟩ := h
  refine ⟨max k k2, _, fr', H', ?_, h3⟩
  simp only [evalCode]
  rw [evalOps_le (callFn_le A k _ (Nat.le_max_left _ _)) (Nat.le_refl _) h1]
  simp only
  rw [evalOps_le (callFn_le A k2 _ (Nat.le_max_right _ _)) (Nat.le_refl _) h2]
theorem AW_drun {hd tl : List AOper} {fr fr1 fr' : AFrame} {H H1 H' : AHeap} {Q : AExit → AFrame → AHeap → Prop} (h1 : evalHead noCall hd fr H = some (fr1, H1)) (h2 : evalOps noCall fl tl fr1 H1 = some (fr', H')) (h3 : Q .normal fr' H') : AW A fl (.draw hd tl) fr H Q :=
  AW_draw ⟨0, fr1, H1, evalHead_le (noCall_le _) h1, 0, fr', H', evalOps_le (noCall_le _) (Nat.le_refl _) h2, h3⟩

/-- a whole call, reckoned -/
theorem AC_eval (k : Nat) {f : Nat} {args : List AV} {H : AHeap} {v : AV} (h : (callFn A k fl f args H).map (·.1) = some v) : AC A fl f args H (fun v' _ => v' = v) := by
  obtain ⟨⟨v', H'⟩, h1, h2⟩ := map_some h
  exact ⟨k, v', H', h1, h2⟩

/-! ### to the model -/
theorem abs_calls {P : Program} (hm : P.follows .mixedOrders = true) {f : Nat} {args : List AV} {H : AHeap} {Q : AV → AHeap → Prop} (h : AC (tableA P) fl f args H Q) {base : Nat} {ρ : List Reg} {w : World} {vs : Array Value} (hH : HR base ρ H w) (hL : L2 (VR ρ) args vs.toList) :
    Calls P f vs w fun e w' => ∃ u v H' ρ', e = .returned u ∧ Q v H' ∧ HR base ρ' H' w' ∧ RExt ρ ρ' ∧ VR ρ' v u ∧ Below base w w' := by
  obtain ⟨k, v, H', h1, h2⟩ := h
  have hs := call_sound P (fun k ih => ⟨draw_sound hm ih (callFn_kept _ k), drawA_sound hm ih (callFn_kept _ k), draw3_sound hm ih (callFn_kept _ k)⟩) k
  exact ((hs fl f args H v H' h1 base ρ w vs hH hL).2).mono fun e w' ⟨u, ρ', he, g1, g2, g3, g4⟩ => ⟨u, v, H', ρ', he, h2, g1, g2, g3, g4⟩

/-- for a law: it answers true -/
theorem law_calls {P : Program} (hm : P.follows .mixedOrders = true) {f : Nat} {args : List AV} {H : AHeap} (h : AC (tableA P) 0 f args H (fun v _ => v = .c (.bool true))) {ρ : List Reg} {w : World} {vs : Array Value} (hH : HR w.heap.size ρ H w) (hL : L2 (VR ρ) args vs.toList) :
    Calls P f vs w fun e w' => e = .returned (.bool true) ∧ Below w.heap.size w w' :=
  (abs_calls hm h hH hL).mono fun e w' ⟨u, v, H', ρ', he, hv, _, _, hu, hb⟩ => by
    subst hv
    have hu : u = .bool true := hu
    subst hu
    exact ⟨he, hb⟩

theorem HR.nil (w : World) : HR w.heap.size [] [] w := ⟨rfl, fun b x r h => by simp at h, fun b b' cs cs' g f c f' c' h => by simp at h, Nat.le_refl _⟩
end PAbs

/- Reckoning straight code by rewriting: each operation's own arguments first. -/
namespace PAbs
open Go
set_option linter.unusedSimpArgs false
set_option linter.unusedVariables false

def contA (call : ACall) (fl : Nat) (d : Option Nat) (rest : List AOper) (fr : AFrame) : Option (AV × AHeap) → Option (AFrame × AHeap)
  | some (v, H) => evalOps call fl rest (putA fr d v) H
  | none => none
def gateA (call : ACall) (fl : Nat) (d : Option Nat) (op : AOp) (rest : List AOper) (fr : AFrame) (H : AHeap) : Bool → Option (AFrame × AHeap)
  | true => contA call fl d rest fr (execA call fl fr H op)
  | false => evalOps call fl rest (putA fr d aundef) H
def contH (call : ACall) (d : Option Nat) (rest : List AOper) (fr : AFrame) : Option (AV × AHeap) → Option (AFrame × AHeap)
  | some (v, H) => evalHead call rest (putA fr d v) H
  | none => none
def gateH (call : ACall) (d : Option Nat) (op : AOp) (rest : List AOper) (fr : AFrame) (H : AHeap) : Bool → Option (AFrame × AHeap)
  | true => contH call d rest fr (execA call H.length fr H op)
  | false => evalHead call rest (putA fr d aundef) H

section
variable {call : ACall} {fl : Nat} {d : Option Nat} {op : AOp} {rest : List AOper} {fr : AFrame} {H : AHeap} {v : AV} {g : Nat × Bool}
theorem run_nil : evalOps call fl [] fr H = some (fr, H) := rfl
theorem run_cons : evalOps call fl (⟨d, op, none⟩ :: rest) fr H = contA call fl d rest fr (execA call fl fr H op) := by
  simp only [evalOps, wantedA, if_true]; split <;> simp_all [contA]
theorem run_gate : evalOps call fl (⟨d, op, some g⟩ :: rest) fr H = gateA call fl d op rest fr H (wantedA fr (some g)) := by
  simp only [evalOps]
  cases hw : wantedA fr (some g) with
  | true => simp only [if_true, gateA]; split <;> simp_all [contA]
  | false => simp [gateA]
theorem cont_some : contA call fl d rest fr (some (v, H)) = evalOps call fl rest (putA fr d v) H := rfl
theorem gate_true : gateA call fl d op rest fr H true = contA call fl d rest fr (execA call fl fr H op) := rfl
theorem gate_false : gateA call fl d op rest fr H false = evalOps call fl rest (putA fr d aundef) H := rfl
theorem hrun_nil : evalHead call [] fr H = some (fr, H) := rfl
theorem hrun_cons : evalHead call (⟨d, op, none⟩ :: rest) fr H = contH call d rest fr (execA call H.length fr H op) := by
  simp only [evalHead, wantedA, if_true]; split <;> simp_all [contH]
theorem hrun_gate : evalHead call (⟨d, op, some g⟩ :: rest) fr H = gateH call d op rest fr H (wantedA fr (some g)) := by
  simp only [evalHead]
  cases hw : wantedA fr (some g) with
  | true => simp only [if_true, gateH]; split <;> simp_all [contH]
  | false => simp [gateH]
theorem hcont_some : contH call d rest fr (some (v, H)) = evalHead call rest (putA fr d v) H := rfl
theorem hgate_true : gateH call d op rest fr H true = contH call d rest fr (execA call H.length fr H op) := rfl
theorem hgate_false : gateH call d op rest fr H false = evalHead call rest (putA fr d aundef) H := rfl
theorem put_some {i : Nat} : putA fr (some i) v = fr.set i v := rfl
theorem put_none : putA fr none v = fr := rfl
theorem ev_t {i : Nat} : (AOpd.t i).ev fr = fr.getD i aundef := rfl
theorem ev_k : (AOpd.k v).ev fr = v := rfl
theorem exec_mv_c {x : AOpd} {c : Cell} (h : x.ev fr = .c c) : execA call fl fr H (.mv x) = some (.c c, H) := by simp only [execA, stepA, h]
theorem exec_mv_agg {x : AOpd} {c : List Cell} (h : x.ev fr = .agg c) : execA call fl fr H (.mv x) = some (.agg c, H) := by simp only [execA, stepA, h]
end

theorem AW_mid {A : Nat → Option AFn} {fl : Nat} {c : ACode} {fr : AFrame} {H : AHeap} {Q : AExit → AFrame → AHeap → Prop} (R : AExit → AFrame → AHeap → Prop) (h : AW A fl c fr H R) (hq : ∀ e fr' H', R e fr' H' → Q e fr' H') : AW A fl c fr H Q := h.mono hq

/-- a loop: what holds at each round's head, with a number that goes down -/
theorem AW_loopN {A : Nat → Option AFn} {fl : Nat} {c : ACode} {fr : AFrame} {H : AHeap} {Q : AExit → AFrame → AHeap → Prop} (I : Nat → AFrame → AHeap → Prop) (m : Nat) (h0 : I m fr H)
    (hr : ∀ m fr H, I m fr H → AW A fl c fr H (fun e fr' H' => match e with | .normal => ∃ m', m' < m ∧ I m' fr' H' | e => Q e fr' H')) : AW A fl (.loop c) fr H Q := by
  classical
  have least : ∀ (P : Nat → Prop), (∃ m, P m) → ∃ m, P m ∧ ∀ m', P m' → m ≤ m' := by
    intro P ⟨m, hm⟩
    induction m using Nat.strongRecOn with
    | _ m ih =>
      by_cases h : ∃ m', m' < m ∧ P m'
      · obtain ⟨m', h1, h2⟩ := h; exact ih m' h1 h2
      · exact ⟨m, hm, fun m' h' => Nat.le_of_not_lt fun hl => h ⟨m', hl, h'⟩⟩
  refine AW_loop (fun fr H => ∃ m, I m fr H) (fun fr H => if h : ∃ m, I m fr H then (least _ h).choose else 0) ⟨m, h0⟩ ?_
  intro fr H hI
  have hs := (least _ hI).choose_spec
  refine (hr _ _ _ hs.1).mono fun e fr' H' h => ?_
  cases e with
  | normal =>
    obtain ⟨m', h1, h2⟩ := h
    have hI' : ∃ m, I m fr' H' := ⟨m', h2⟩
    refine ⟨hI', ?_⟩
    simp only [dif_pos hI, dif_pos hI']
    exact Nat.lt_of_le_of_lt ((least _ hI').choose_spec.2 m' h2) h1
  | exit id => exact h
  | ret => exact h
end PAbs
