/- Statements whose order is open: whatever the order, the abstract machine's own is met. -/
import Derived.Test.YtebccciodmlikaaSound
import Derived.Orders
namespace PAbs
open Go Go.RowKit
set_option linter.unusedSimpArgs false
set_option linter.unusedVariables false

/-! ### what an operation looks at -/
theorem stepA_congr {fl : Nat} {H : AHeap} {e1 e2 : AOpd → AV} (p : AOp) (h : ∀ x ∈ p.opds, e1 x = e2 x) : stepA fl H e1 p = stepA fl H e2 p := by
  have parts : ∀ ps : List (Nat × Nat × AOpd), (∀ x ∈ ps.map (·.2.2), e1 x = e2 x) → (ps.map fun (o, n, x) => (o, n, e1 x)) = ps.map fun (o, n, x) => (o, n, e2 x) := fun ps hp =>
    List.map_congr_left fun q hq => by
      obtain ⟨o, n, x⟩ := q
      simp only [hp x (List.mem_map.2 ⟨(o, n, x), hq, rfl⟩)]
  have opt : ∀ x : Option AOpd, (∀ y ∈ x.toList, e1 y = e2 y) → x.map e1 = x.map e2 := fun x hx => by cases x <;> simp_all
  cases p <;> simp only [AOp.opds] at h <;> simp only [stepA]
  case build z ps => rw [parts ps h]
  case buildSlice z sz len ps => rw [parts ps h]
  case sliceS sz x lo hi =>
    rw [h x (by simp), opt lo fun y hy => h y (by simp at hy; simp [hy]), opt hi fun y hy => h y (by simp at hy; simp [hy])]
  case sliceStr x lo hi =>
    rw [h x (by simp), opt lo fun y hy => h y (by simp at hy; simp [hy]), opt hi fun y hy => h y (by simp at hy; simp [hy])]
  case sliceArr n sz x lo hi =>
    rw [h x (by simp), opt lo fun y hy => h y (by simp at hy; simp [hy]), opt hi fun y hy => h y (by simp at hy; simp [hy])]
  case max xs => rw [List.map_congr_left h]
  case min xs => rw [List.map_congr_left h]
  all_goals (try (simp only [List.mem_cons, List.not_mem_nil, or_false, forall_eq_or_imp, forall_eq] at h)) <;> (try simp only [h])

theorem execA_congr {call : ACall} {fl : Nat} {H : AHeap} {f1 f2 : AFrame} (p : AOp) (h : ∀ x ∈ p.opds, x.ev f1 = x.ev f2) : execA call fl f1 H p = execA call fl f2 H p := by
  cases p <;> simp only [execA]
  case call f as => rw [List.map_congr_left (f := (·.ev f1)) (g := (·.ev f2)) fun x hx => h x (by simpa [AOp.opds] using hx)]
  case callV f as =>
    rw [h f (by simp [AOp.opds]), List.map_congr_left (f := (·.ev f1)) (g := (·.ev f2)) fun x hx => h x (by simp [AOp.opds, hx])]
  all_goals exact stepA_congr _ h

/-! ### what is kept -/
def Kept (fl : Nat) (H H' : AHeap) : Prop := H.length ≤ H'.length ∧ ∀ b, b < fl → b < H.length → H'[b]? = H[b]?

theorem Kept.refl (fl : Nat) (H : AHeap) : Kept fl H H := ⟨Nat.le_refl _, fun _ _ _ => rfl⟩
theorem Kept.trans {fl : Nat} {A B C : AHeap} (h : Kept fl A B) (k : Kept fl B C) : Kept fl A C :=
  ⟨Nat.le_trans h.1 k.1, fun b h1 h2 => (k.2 b h1 (Nat.lt_of_lt_of_le h2 h.1)).trans (h.2 b h1 h2)⟩
theorem Kept.mono {fl fl' : Nat} {A B : AHeap} (h : Kept fl A B) (hf : fl' ≤ fl) : Kept fl' A B := ⟨h.1, fun b h1 h2 => h.2 b (by omega) h2⟩
theorem Kept.all {A B : AHeap} (h : Kept A.length A B) (fl : Nat) : Kept fl A B := ⟨h.1, fun b _ h2 => h.2 b h2 h2⟩
theorem Kept.push (fl : Nat) (H l : AHeap) : Kept fl H (H ++ l) := ⟨by simp, fun b _ h => by rw [List.getElem?_append, if_pos h]⟩
theorem Kept.set {fl : Nat} {H : AHeap} {b : Nat} {x : Blk} (h : fl ≤ b) : Kept fl H (H.set b x) := ⟨by simp, fun i h1 _ => by rw [List.getElem?_set, if_neg (by omega)]⟩

theorem writeN_kept {fl : Nat} {H H' : AHeap} {b o : Nat} {vs : List Cell} (h : writeN fl H b o vs = some H') : Kept fl H H' := by
  simp only [writeN] at h
  split at h
  · split at h
    · rename_i hc
      simp only [Option.some.injEq] at h; subst h
      exact Kept.set hc.1
    · cases h
  · cases h

theorem appendA_kept {fl : Nat} {H H' : AHeap} {z : List Cell} {bytes : Nat} {s x v : AV} (h : appendA fl H z bytes s x = some (v, H')) : Kept fl H H' := by
  simp only [appendA] at h
  split at h
  · cases h
  · split at h
    · split at h
      · simp at h; obtain ⟨_, rfl⟩ := h; exact Kept.push _ _ _
      · cases h
    · split at h
      · split at h
        · rename_i hc
          simp at h; obtain ⟨_, rfl⟩ := h
          exact (Kept.set hc.1).trans (Kept.push _ _ _)
        · cases h
      · cases h
    · cases h

theorem stepA_kept {fl : Nat} {H H' : AHeap} {ev : AOpd → AV} {p : AOp} {v : AV} (h : stepA fl H ev p = some (v, H')) : Kept fl H H' := by
  cases p <;> simp only [stepA] at h
  case append z b s x => exact appendA_kept h
  case store n a x =>
    split at h
    · split at h
      · obtain ⟨H1, h1, e⟩ := map_some h; simp at e; obtain ⟨_, rfl⟩ := e; exact writeN_kept h1
      · cases h
    · cases h
  case copy sz d s =>
    split at h
    · split at h
      · obtain ⟨H1, h1, e⟩ := map_some h; simp at e; obtain ⟨_, rfl⟩ := e; exact writeN_kept h1
      · cases h
    · cases h
  all_goals
    repeat' first
      | (cases h; done)
      | (obtain ⟨_, _, e⟩ := map_some h; simp only [Prod.mk.injEq] at e; obtain ⟨_, rfl⟩ := e; exact Kept.refl _ _)
      | (simp only [Option.some.injEq, Prod.mk.injEq] at h; obtain ⟨_, rfl⟩ := h; first | exact Kept.refl _ _ | exact Kept.push _ _ _)
      | split at h

def KeptSpec (call : ACall) : Prop := ∀ fl f args H v H', call fl f args H = some (v, H') → Kept fl H H'

section
variable {call : ACall} (hk : KeptSpec call)
include hk
theorem execA_kept {fl : Nat} {fr : AFrame} {H H' : AHeap} {p : AOp} {v : AV} (h : execA call fl fr H p = some (v, H')) : Kept fl H H' := by
  cases p <;> simp only [execA] at h
  case call f as => exact hk _ _ _ _ _ _ h
  case callV f as =>
    split at h
    · exact hk _ _ _ _ _ _ h
    · cases h
  all_goals exact stepA_kept h
theorem evalOps_kept {fl : Nat} : ∀ {l : List AOper} {fr fr' : AFrame} {H H' : AHeap}, evalOps call fl l fr H = some (fr', H') → Kept fl H H'
  | [], fr, fr', H, H', h => by simp [evalOps] at h; obtain ⟨_, rfl⟩ := h; exact Kept.refl _ _
  | o :: l, fr, fr', H, H', h => by
    simp only [evalOps] at h
    split at h
    · split at h
      · rename_i hx; exact (execA_kept hk hx).trans (evalOps_kept h)
      · cases h
    · exact evalOps_kept h
theorem evalHead_kept {fl : Nat} : ∀ {l : List AOper} {fr fr' : AFrame} {H H' : AHeap}, evalHead call l fr H = some (fr', H') → Kept fl H H'
  | [], fr, fr', H, H', h => by simp [evalHead] at h; obtain ⟨_, rfl⟩ := h; exact Kept.refl _ _
  | o :: l, fr, fr', H, H', h => by
    simp only [evalHead] at h
    split at h
    · split at h
      · rename_i hx; exact ((execA_kept hk hx).all fl).trans (evalHead_kept h)
      · cases h
    · exact evalHead_kept h
theorem evalCode_kept {fl n : Nat} : ∀ {c : ACode} {fr fr' : AFrame} {H H' : AHeap} {e : AExit}, evalCode call fl n c fr H = some (e, fr', H') → Kept fl H H' := by
  intro c
  induction c with
  | skip => intro fr fr' H H' e h; simp [evalCode] at h; obtain ⟨_, _, rfl⟩ := h; exact Kept.refl _ _
  | ret => intro fr fr' H H' e h; simp [evalCode] at h; obtain ⟨_, _, rfl⟩ := h; exact Kept.refl _ _
  | exit id => intro fr fr' H H' e h; simp [evalCode] at h; obtain ⟨_, _, rfl⟩ := h; exact Kept.refl _ _
  | region ops =>
    intro fr fr' H H' e h
    simp only [evalCode] at h
    split at h
    · rename_i hx; simp at h; obtain ⟨_, _, rfl⟩ := h; exact evalOps_kept hk hx
    · cases h
  | draw hd tl =>
    intro fr fr' H H' e h
    simp only [evalCode] at h
    split at h
    · rename_i hx
      split at h
      · rename_i hy; simp at h; obtain ⟨_, _, rfl⟩ := h; exact (evalHead_kept hk hx).trans (evalOps_kept hk hy)
      · cases h
    · cases h
  | seq a b iha ihb =>
    intro fr fr' H H' e h
    simp only [evalCode] at h
    split at h
    · rename_i hx; exact (iha hx).trans (ihb h)
    · exact iha h
  | cond c a b iha ihb =>
    intro fr fr' H H' e h
    simp only [evalCode] at h
    split at h
    · exact iha h
    · exact ihb h
    · cases h
  | block id c ih =>
    intro fr fr' H H' e h
    simp only [evalCode] at h
    split at h
    · rename_i hx
      split at h <;> (simp at h; obtain ⟨_, _, rfl⟩ := h; exact ih hx)
    · exact ih h
  | loop c ih =>
    intro fr fr' H H' e h
    simp only [evalCode] at h
    have key : ∀ (m : Nat) {fr fr' : AFrame} {H H' : AHeap}, iterA (evalCode call fl n c) m fr H = some (e, fr', H') → Kept fl H H' := by
      intro m
      induction m with
      | zero => intro fr fr' H H' h; simp [iterA] at h
      | succ m ihm =>
        intro fr fr' H H' h
        simp only [iterA] at h
        split at h
        · rename_i hx; exact (ih hx).trans (ihm h)
        · exact ih h
    exact key n h
end

theorem callFn_kept (A : Nat → Option AFn) : ∀ k, KeptSpec (callFn A k)
  | 0 => fun fl f args H v H' h => by simp [callFn] at h
  | k + 1 => fun fl f args H v H' h => by
    simp only [callFn] at h
    split at h
    · cases h
    · split at h
      · rename_i hx; obtain ⟨_, _, e⟩ := map_some h; simp at e; obtain ⟨_, rfl⟩ := e; exact evalCode_kept (callFn_kept A k) hx
      · rename_i hx; obtain ⟨_, _, e⟩ := map_some h; simp at e; obtain ⟨_, rfl⟩ := e; exact evalCode_kept (callFn_kept A k) hx
      · cases h

/-! ### an operation that only looks, in another heap -/
def AV.blks : AV → List Nat
  | .c (.ptr b _) => [b]
  | .c (.slc b _ _ _) => [b]
  | _ => []

theorem readN_sub {H H2 : AHeap} {b o n : Nat} {cs : List Cell} (hs : ∀ cs, hcells H b = some cs → hcells H2 b = some cs) (h : readN H b o n = some cs) : readN H2 b o n = some cs := by
  simp only [readN] at h ⊢
  split at h
  · rename_i q hq; rw [hs _ hq]; exact h
  · cases h

theorem sliceCells_sub {H H2 : AHeap} {x : AV} {n : Nat} {cs : List Cell} (hs : ∀ b ∈ x.blks, ∀ cs, hcells H b = some cs → hcells H2 b = some cs) (h : sliceCells H n x = some cs) : sliceCells H2 n x = some cs := by
  unfold sliceCells at h ⊢
  split at h
  · exact h
  · split at h
    · rename_i hz; rw [if_pos hz]; exact readN_sub (hs _ (by simp [AV.blks])) h
    · cases h
  · exact h
  · cases h

theorem eqA_sub {H H2 : AHeap} {t : EqT} {x y : AV} {r : Bool} (hx : ∀ b ∈ x.blks, ∀ cs, hcells H b = some cs → hcells H2 b = some cs) (hy : ∀ b ∈ y.blks, ∀ cs, hcells H b = some cs → hcells H2 b = some cs) (h : eqA H t x y = some r) : eqA H2 t x y = some r := by
  unfold eqA at h ⊢
  split at h
  · exact h
  · exact h
  · obtain ⟨cs, h1, rfl⟩ := map_some h; rw [hx _ (by simp [AV.blks]) _ h1]; rfl
  · obtain ⟨cs, h1, rfl⟩ := map_some h; rw [hy _ (by simp [AV.blks]) _ h1]; rfl
  · exact h
  · split at h
    · cases h
    · rename_i hn; rw [if_neg hn]; obtain ⟨cs, h1, rfl⟩ := map_some h; rw [hx _ (by simp [AV.blks]) _ h1]; rfl
  · exact h
  · cases h

/-- it gives the same where the blocks that it looks at are the same -/
theorem look_sub {fl fl' : Nat} {H H2 H' : AHeap} {ev : AOpd → AV} {p : AOp} {v : AV} (hm : p.makes = false) (hs : ∀ x ∈ p.opds, ∀ b ∈ (ev x).blks, ∀ cs, hcells H b = some cs → hcells H2 b = some cs)
    (h : stepA fl H ev p = some (v, H')) : H' = H ∧ stepA fl' H2 ev p = some (v, H2) := by
  cases p <;> simp [AOp.makes] at hm <;> simp only [AOp.opds, List.mem_cons, List.not_mem_nil, or_false, forall_eq_or_imp, forall_eq] at hs <;> simp only [stepA] at h ⊢
  case load1 a =>
    split at h
    · rename_i b o e
      rw [e] at hs
      split at h
      · rename_i cs hc
        rw [hs b (by simp [AV.blks]) _ hc]
        obtain ⟨x, hx, e'⟩ := map_some h
        simp at e'; obtain ⟨rfl, rfl⟩ := e'
        exact ⟨rfl, by simp [hx]⟩
      · cases h
    · cases h
  case loadN n a =>
    split at h
    · rename_i b o e
      rw [e] at hs
      obtain ⟨x, hx, e'⟩ := map_some h
      simp at e'; obtain ⟨rfl, rfl⟩ := e'
      exact ⟨rfl, by rw [readN_sub (hs b (by simp [AV.blks])) hx]; rfl⟩
    · cases h
  case nilCheck x =>
    split at h
    · rename_i b o e
      rw [e] at hs
      obtain ⟨cs, hc, e'⟩ := map_some h
      simp at e'; obtain ⟨rfl, rfl⟩ := e'
      exact ⟨rfl, by rw [hs b (by simp [AV.blks]) _ hc]; rfl⟩
    · cases h
  case eq neg t x y =>
    obtain ⟨r, hr, e'⟩ := map_some h
    simp only [Prod.mk.injEq] at e'; obtain ⟨rfl, rfl⟩ := e'
    exact ⟨rfl, by rw [eqA_sub hs.1 hs.2 hr]; rfl⟩
  case bytesStr x =>
    split at h
    · cases h
    · split at h
      · rename_i cs hc
        rw [sliceCells_sub hs hc]
        obtain ⟨l, hl, e'⟩ := map_some h
        simp at e'; obtain ⟨rfl, rfl⟩ := e'
        exact ⟨rfl, by simp [hl]⟩
      · cases h
  case arrPtr n x =>
    split at h
    · rename_i b o m sz e
      rw [e] at hs
      split at h
      · rename_i hc
        rw [if_pos hc]
        obtain ⟨cs, hc, e'⟩ := map_some h
        simp at e'; obtain ⟨rfl, rfl⟩ := e'
        exact ⟨rfl, by rw [hs b (by simp [AV.blks]) _ hc]; rfl⟩
      · cases h
    · cases h
  case sliceS sz x lo hi =>
    have hs := hs.1
    split at h
    · rename_i b o n sz' e
      rw [e] at hs
      split at h
      · split at h
        · rename_i hc
          rw [if_pos hc]
          obtain ⟨cs, hc, e'⟩ := map_some h
          simp at e'; obtain ⟨rfl, rfl⟩ := e'
          exact ⟨rfl, by rw [hs b (by simp [AV.blks]) _ hc]; rfl⟩
        · cases h
      · cases h
    · split at h
      · split at h
        · rename_i hc
          rw [if_pos hc]
          simp at h; obtain ⟨rfl, rfl⟩ := h
          exact ⟨rfl, rfl⟩
        · cases h
      · cases h
    · cases h
  case sliceArr n sz x lo hi =>
    have hs := hs.1
    split at h
    · rename_i b o e
      rw [e] at hs
      split at h
      · rename_i hh l cs h1 h2 hc
        rw [hs b (by simp [AV.blks]) _ hc]
        split at h
        · rename_i hc'
          simp only [h1, h2]
          rw [if_pos hc']
          simp at h; obtain ⟨rfl, rfl⟩ := h
          exact ⟨rfl, rfl⟩
        · cases h
      · cases h
    · cases h
  case fieldAddr off x =>
    split at h
    · rename_i b o e
      rw [e] at hs
      obtain ⟨cs, hc, e'⟩ := map_some h
      simp at e'; obtain ⟨rfl, rfl⟩ := e'
      exact ⟨rfl, by rw [hs b (by simp [AV.blks]) _ hc]; rfl⟩
    · cases h
  case idxSlc sz x i =>
    split at h
    · rename_i b o n sz' k j e1 e2
      rw [e1] at hs
      split at h
      · rename_i hc
        rw [if_pos hc]
        obtain ⟨cs, hc, e'⟩ := map_some h
        simp at e'; obtain ⟨rfl, rfl⟩ := e'
        exact ⟨rfl, by rw [hs.1 b (by simp [AV.blks]) _ hc]; rfl⟩
      · cases h
    · cases h
  case idxArr n sz x i =>
    split at h
    · rename_i b o k j e1 e2
      rw [e1] at hs
      split at h
      · rename_i hc
        rw [if_pos hc]
        obtain ⟨cs, hc, e'⟩ := map_some h
        simp at e'; obtain ⟨rfl, rfl⟩ := e'
        exact ⟨rfl, by rw [hs.1 b (by simp [AV.blks]) _ hc]; rfl⟩
      · cases h
    · cases h
  case len st x =>
    split at h
    · simp at h; obtain ⟨rfl, rfl⟩ := h; exact ⟨rfl, rfl⟩
    · simp at h; obtain ⟨rfl, rfl⟩ := h; exact ⟨rfl, rfl⟩
    · rename_i b o n sz e
      rw [e] at hs
      obtain ⟨cs, hc, e'⟩ := map_some h
      simp at e'; obtain ⟨rfl, rfl⟩ := e'
      exact ⟨rfl, by rw [hs b (by simp [AV.blks]) _ hc]; rfl⟩
    · cases h
  all_goals
    clear hs
    repeat' first
      | (cases h; done)
      | (obtain ⟨q, hq, e'⟩ := map_some h; simp only [Prod.mk.injEq] at e'; obtain ⟨rfl, rfl⟩ := e'; exact ⟨rfl, by simp_all⟩)
      | (simp only [Option.some.injEq, Prod.mk.injEq] at h; obtain ⟨rfl, rfl⟩ := h; exact ⟨rfl, by simp_all⟩)
      | split at h
end PAbs
