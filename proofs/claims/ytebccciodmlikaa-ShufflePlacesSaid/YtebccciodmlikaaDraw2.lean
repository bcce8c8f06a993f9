/- Statements whose order is open: whatever the order, the abstract machine's own is met: the theorem. -/
import Derived.Test.YtebccciodmlikaaDraw
namespace PAbs
open Go Go.RowKit
set_option linter.unusedSimpArgs false
set_option linter.unusedVariables false

/-! ### what stands ahead -/
theorem force_eq {α : Type} (n : Nat) (f : Nat → α) : force n f = f n := by cases n <;> rfl

theorem fold_bit {acc : Nat → Nat} {j : Nat} : ∀ (l : List Edge) (s : Nat), (l.foldl (fun s e => if Region.binds .any e then s ||| 2 ^ e.on ||| acc e.on else s) s).testBit j = true →
    s.testBit j = true ∨ ∃ e ∈ l, Region.binds .any e = true ∧ (j = e.on ∨ (acc e.on).testBit j = true)
  | [], s, h => .inl h
  | e :: l, s, h => by
    simp only [List.foldl_cons] at h
    rcases fold_bit l _ h with h | ⟨e', he, hb⟩
    · split at h
      · rename_i hbind
        simp only [Nat.testBit_or, Nat.testBit_two_pow, Bool.or_eq_true, decide_eq_true_eq] at h
        rcases h with (h | h) | h
        · exact .inl h
        · exact .inr ⟨e, by simp, hbind, .inl h.symm⟩
        · exact .inr ⟨e, by simp, hbind, .inr h⟩
      · exact .inl h
    · exact .inr ⟨e', by simp [he], hb⟩

theorem oneA_bit {acc : Nat → Nat} {o : Oper} {j : Nat} (h : (oneA acc o).testBit j = true) : ∃ e ∈ o.after.toList, Region.binds .any e = true ∧ (j = e.on ∨ (acc e.on).testBit j = true) := by
  rcases fold_bit _ _ h with h | h
  · simp at h
  · exact h

theorem aheadA_prefix : ∀ (l : List Oper) (acc : List Nat), ∃ r, aheadA l acc = acc ++ r
  | [], acc => ⟨[], by simp [aheadA]⟩
  | o :: l, acc => by
    simp only [aheadA, force_eq]
    obtain ⟨r, hr⟩ := aheadA_prefix l (acc ++ [oneA (fun k => acc.getD k 0) o])
    exact ⟨_ :: r, by rw [hr]; simp; rfl⟩

theorem aheadA_get : ∀ (l : List Oper) (acc : List Nat) (p : Nat) (o : Oper), l[p]? = some o →
    (aheadA l acc).getD (acc.length + p) 0 = oneA (fun k => if k < acc.length + p then (aheadA l acc).getD k 0 else 0) o
  | [], acc, p, o, h => by simp at h
  | x :: l, acc, p, o, h => by
    simp only [aheadA, force_eq]
    cases p with
    | zero =>
      simp at h; subst h
      obtain ⟨r, hr⟩ := aheadA_prefix l (acc ++ [oneA (fun k => acc.getD k 0) x])
      rw [hr]
      have e1 : (acc ++ [oneA (fun k => acc.getD k 0) x] ++ r).getD (acc.length + 0) 0 = oneA (fun k => acc.getD k 0) x := by
        simp [List.getD_eq_getElem?_getD]
      rw [e1]
      congr 1
      funext k
      by_cases hk : k < acc.length + 0
      · rw [if_pos hk]
        have hk' : k < acc.length := by omega
        simp only [List.getD_eq_getElem?_getD, List.append_assoc]
        rw [List.getElem?_append_left hk']
      · rw [if_neg hk]
        have hk' : acc.length ≤ k := by omega
        simp only [List.getD_eq_getElem?_getD]
        rw [List.getElem?_eq_none hk']; rfl
    | succ p =>
      have := aheadA_get l (acc ++ [oneA (fun k => acc.getD k 0) x]) p o (by simpa using h)
      simp only [List.length_append, List.length_cons, List.length_nil, Nat.zero_add] at this
      rw [show acc.length + (p + 1) = acc.length + 1 + p by omega]
      exact this

theorem ahead_closed {ops : List Oper} {S : Nat → Bool} (hS : ∀ i o, ops[i]? = some o → S i = true → ∀ e ∈ o.after.toList, Region.binds .any e = true → S e.on = true) :
    ∀ (i : Nat) (o : Oper), ops[i]? = some o → (∀ e ∈ o.after.toList, Region.binds .any e = true → S e.on = true) → ∀ j, ((aheadA ops []).getD i 0).testBit j = true → S j = true := by
  intro i
  induction i using Nat.strongRecOn with
  | _ i ih =>
    intro o ho he j hj
    have hg := aheadA_get ops [] i o ho
    simp only [List.length_nil, Nat.zero_add] at hg
    rw [hg] at hj
    obtain ⟨e, hin, hb, rfl | h⟩ := oneA_bit hj
    · exact he e hin hb
    · by_cases hlt : e.on < i
      · simp only [hlt, if_true] at h
        have hlt' : e.on < ops.length := Nat.lt_trans hlt (List.getElem?_eq_some_iff.1 ho).1
        exact ih e.on hlt ops[e.on] (List.getElem?_eq_getElem hlt') (hS e.on _ (List.getElem?_eq_getElem hlt') (he e hin hb)) j h
      · simp [hlt] at h

theorem tailFrom_spec (lt : Bool) (as : List AOper) (bs : List Nat) : ∀ (m i : Nat), tailFrom lt as bs m ≤ i → i < m → lightAt lt as i = true ∨ lastOne lt as bs i = true
  | 0, i, _, h => by omega
  | m + 1, i, h1, h2 => by
    simp only [tailFrom] at h1
    split at h1
    · rename_i hl
      rcases Nat.lt_or_ge i m with h | h
      · exact tailFrom_spec lt as bs m i h1 h
      · have : i = m := by omega
        subst this; simpa using hl
    · omega

theorem tailFrom_le (lt : Bool) (as : List AOper) (bs : List Nat) : ∀ m, tailFrom lt as bs m ≤ m
  | 0 => Nat.le_refl _
  | m + 1 => by
    simp only [tailFrom]
    split
    · have := tailFrom_le lt as bs m; omega
    · omega

/-! ### light operations: what they answer hangs on the cells of no block -/
theorem light_makes {p : AOp} (h : p.light = true) : p.makes = false := by cases p <;> simp [AOp.light, AOp.makes] at h ⊢
theorem alive_map {α : Type} {H H2 : AHeap} {b : Nat} {x : α} {y : α} (hs : (hcells H b).isSome = true → (hcells H2 b).isSome = true) (h : (hcells H b).map (fun _ => x) = some y) : x = y ∧ (hcells H2 b).isSome = true := by
  cases hc : hcells H b with
  | none => rw [hc] at h; cases h
  | some l => rw [hc] at h; exact ⟨by simpa using h, hs (by rw [hc]; rfl)⟩
theorem some_map {α : Type} {H2 : AHeap} {b : Nat} {x : α} (h : (hcells H2 b).isSome = true) : (hcells H2 b).map (fun _ => x) = some x := by
  cases hc : hcells H2 b with
  | none => rw [hc] at h; cases h
  | some l => rfl
theorem light_sub {fl fl' : Nat} {H H2 H' : AHeap} {ev : AOpd → AV} {p : AOp} {v : AV} (hm : p.light = true) (hs : ∀ x ∈ p.opds, ∀ b ∈ (ev x).blks, (hcells H b).isSome = true → (hcells H2 b).isSome = true)
    (h : stepA fl H ev p = some (v, H')) : H' = H ∧ stepA fl' H2 ev p = some (v, H2) := by
  cases p <;> simp [AOp.light] at hm <;> simp only [AOp.opds, List.mem_cons, List.not_mem_nil, or_false, forall_eq_or_imp, forall_eq] at hs <;> simp only [stepA] at h ⊢
  case nilCheck x =>
    split at h
    · rename_i b o e
      rw [e] at hs
      obtain ⟨e', hl⟩ := alive_map (hs b (by simp [AV.blks])) h
      simp only [Prod.mk.injEq] at e'; obtain ⟨rfl, rfl⟩ := e'
      exact ⟨rfl, some_map hl⟩
    · cases h
  case fieldAddr off x =>
    split at h
    · rename_i b o e
      rw [e] at hs
      obtain ⟨e', hl⟩ := alive_map (hs b (by simp [AV.blks])) h
      simp only [Prod.mk.injEq] at e'; obtain ⟨rfl, rfl⟩ := e'
      exact ⟨rfl, some_map hl⟩
    · cases h
  case idxSlc sz x i =>
    split at h
    · rename_i b o n sz' k i e1 e2
      rw [e1] at hs
      split at h
      · rename_i hc
        obtain ⟨e', hl⟩ := alive_map (hs.1 b (by simp [AV.blks])) h
        simp only [Prod.mk.injEq] at e'; obtain ⟨rfl, rfl⟩ := e'
        exact ⟨rfl, by rw [if_pos hc]; exact some_map hl⟩
      · cases h
    · cases h
  case idxArr n sz x i =>
    split at h
    · rename_i b o k i e1 e2
      rw [e1] at hs
      split at h
      · rename_i hc
        obtain ⟨e', hl⟩ := alive_map (hs.1 b (by simp [AV.blks])) h
        simp only [Prod.mk.injEq] at e'; obtain ⟨rfl, rfl⟩ := e'
        exact ⟨rfl, by rw [if_pos hc]; exact some_map hl⟩
      · cases h
    · cases h
  all_goals
    clear hs
    repeat' first
      | (cases h; done)
      | (obtain ⟨q, hq, e'⟩ := map_some h; simp only [Prod.mk.injEq] at e'; obtain ⟨rfl, rfl⟩ := e'; exact ⟨rfl, by simp_all⟩)
      | (simp only [Option.some.injEq, Prod.mk.injEq] at h; obtain ⟨rfl, rfl⟩ := h; exact ⟨rfl, by simp_all⟩)
      | split at h

/-- what kills no block leaves each where it is -/
theorem step_alive {fl : Nat} {H H' : AHeap} {ev : AOpd → AV} {p : AOp} {v : AV} (hk : p.kills = false) (h : stepA fl H ev p = some (v, H')) : H.length ≤ H'.length ∧ ∀ b, b < H.length → (hcells H' b).isSome = (hcells H b).isSome := by
  have push : ∀ l : AHeap, H.length ≤ (H ++ l).length ∧ ∀ b, b < H.length → (hcells (H ++ l) b).isSome = (hcells H b).isSome := fun l => ⟨by simp, fun b hb => by simp [hcells, List.getElem?_append, hb]⟩
  have write : ∀ {b o vs H'}, writeN fl H b o vs = some H' → H.length ≤ H'.length ∧ ∀ b, b < H.length → (hcells H' b).isSome = (hcells H b).isSome := fun {b o vs H'} hw => by
    simp only [writeN] at hw
    split at hw
    · rename_i cs hc
      split at hw
      · simp only [Option.some.injEq] at hw
        subst hw
        refine ⟨by simp, fun c hc' => ?_⟩
        simp only [hcells, List.getElem?_set]
        by_cases e : b = c
        · subst e
          rw [if_pos rfl, if_pos hc']
          simp only [hown] at hc
          split at hc
          · rename_i hb; rw [hb]; rfl
          · cases hc
        · rw [if_neg e]
      · cases hw
    · cases hw
  by_cases hm : p.makes = true
  · cases p <;> simp [AOp.makes] at hm <;> simp [AOp.kills] at hk <;> simp only [stepA] at h
    case alloc z => simp only [Option.some.injEq, Prod.mk.injEq] at h; obtain ⟨_, rfl⟩ := h; exact push _
    case box x =>
      split at h
      · simp only [Option.some.injEq, Prod.mk.injEq] at h; obtain ⟨_, rfl⟩ := h; exact push _
      · cases h
    case buildSlice z sz l ps =>
      split at h
      · simp only [Option.some.injEq, Prod.mk.injEq] at h; obtain ⟨_, rfl⟩ := h; exact push _
      · cases h
    case store n a x =>
      split at h
      · split at h
        · obtain ⟨H1, h1, e⟩ := map_some h
          simp only [Prod.mk.injEq] at e; obtain ⟨_, rfl⟩ := e
          exact write h1
        · cases h
      · cases h
    case strBytes x =>
      split at h
      · simp only [Option.some.injEq, Prod.mk.injEq] at h; obtain ⟨_, rfl⟩ := h; exact push _
      · cases h
    case makeSlice z by_ l c =>
      split at h
      · split at h
        · simp only [Option.some.injEq, Prod.mk.injEq] at h; obtain ⟨_, rfl⟩ := h; exact push _
        · cases h
      · cases h
    case copy sz d s =>
      split at h
      · split at h
        · obtain ⟨H1, h1, e⟩ := map_some h
          simp only [Prod.mk.injEq] at e; obtain ⟨_, rfl⟩ := e
          exact write h1
        · cases h
      · cases h
  · have hm : p.makes = false := by simpa using hm
    have := (look_sub (fl' := 0) (H2 := H) hm (fun _ _ _ _ _ h => h) h).1
    subst this
    exact ⟨Nat.le_refl _, fun _ _ => rfl⟩


/-! ### the order of the text -/
structure Trace (call : ACall) (fl : Nat) (as : List AOper) (n : Nat) (F : Nat → AFrame) (G : Nat → AHeap) (V : Nat → AV) : Prop where
  step : ∀ (i : Nat) (o : AOper), as[i]? = some o →
    ((wantedA (F i) o.guard = true ∧ execA call (if i < n then (G i).length else fl) (F i) (G i) o.op = some (V i, G (i + 1))) ∨ (wantedA (F i) o.guard = false ∧ V i = aundef ∧ G (i + 1) = G i)) ∧ F (i + 1) = putA (F i) o.dst (V i)

theorem trace_ex {call : ACall} {fl : Nat} : ∀ (as : List AOper) (n : Nat) (fr fr1 fr' : AFrame) (H H1 H' : AHeap), evalHead call (as.take n) fr H = some (fr1, H1) → evalOps call fl (as.drop n) fr1 H1 = some (fr', H') →
    ∃ F G V, Trace call fl as n F G V ∧ F 0 = fr ∧ G 0 = H ∧ F as.length = fr' ∧ G as.length = H'
  | [], n, fr, fr1, fr', H, H1, H', h1, h2 => by
    simp [evalHead] at h1
    simp [evalOps] at h2
    obtain ⟨rfl, rfl⟩ := h1
    obtain ⟨rfl, rfl⟩ := h2
    exact ⟨fun _ => fr, fun _ => H, fun _ => aundef, ⟨fun i o h => by simp at h⟩, rfl, rfl, rfl, rfl⟩
  | o :: as, n, fr, fr1, fr', H, H1, H', h1, h2 => by
    -- the first step, and what is left
    have key : ∃ v H2 m, ((wantedA fr o.guard = true ∧ execA call (if 0 < n then H.length else fl) fr H o.op = some (v, H2)) ∨ (wantedA fr o.guard = false ∧ v = aundef ∧ H2 = H)) ∧
        (∃ g1 K1, evalHead call (as.take m) (putA fr o.dst v) H2 = some (g1, K1) ∧ evalOps call fl (as.drop m) g1 K1 = some (fr', H')) ∧ m = n - 1 := by
      cases n with
      | zero =>
        simp [evalHead] at h1
        obtain ⟨rfl, rfl⟩ := h1
        simp only [List.drop_zero, evalOps] at h2
        split at h2
        · rename_i hw
          split at h2
          · rename_i v H2 hx
            exact ⟨v, H2, 0, .inl ⟨hw, by simpa using hx⟩, ⟨_, _, rfl, h2⟩, rfl⟩
          · cases h2
        · rename_i hw
          exact ⟨aundef, H, 0, .inr ⟨by simpa using hw, rfl, rfl⟩, ⟨_, _, rfl, h2⟩, rfl⟩
      | succ n =>
        simp only [List.take_succ_cons, evalHead] at h1
        simp only [List.drop_succ_cons] at h2
        split at h1
        · rename_i hw
          split at h1
          · rename_i v H2 hx
            exact ⟨v, H2, n, .inl ⟨hw, by simpa using hx⟩, ⟨_, _, h1, h2⟩, rfl⟩
          · cases h1
        · rename_i hw
          exact ⟨aundef, H, n, .inr ⟨by simpa using hw, rfl, rfl⟩, ⟨_, _, h1, h2⟩, rfl⟩
    obtain ⟨v, H2, m, hstep, ⟨g1, K1, e1, e2⟩, hm⟩ := key
    obtain ⟨F, G, V, hT, hF0, hG0, hFe, hGe⟩ := trace_ex as m _ g1 fr' H2 K1 H' e1 e2
    refine ⟨fun i => match i with | 0 => fr | i + 1 => F i, fun i => match i with | 0 => H | i + 1 => G i, fun i => match i with | 0 => v | i + 1 => V i, ⟨?_⟩, rfl, rfl, hFe, hGe⟩
    intro i p hp
    cases i with
    | zero =>
      simp at hp; subst hp
      exact ⟨by simpa [hG0] using hstep, by simpa using hF0⟩
    | succ i =>
      have := hT.step i p (by simpa using hp)
      have hlt : (i < m) ↔ (i + 1 < n) := by omega
      simp only [hlt] at this
      exact this

/-! ### frames by parts -/
def dstAt (as : List AOper) (i : Nat) : Option Nat := (as[i]?).bind (·.dst)
def foldF (as : List AOper) (V : Nat → AV) (m : Nat → Bool) (fr : AFrame) : Nat → AFrame
  | 0 => fr
  | N + 1 => if m N then putA (foldF as V m fr N) (dstAt as N) (V N) else foldF as V m fr N

section
variable {as : List AOper} {V : Nat → AV} {fr : AFrame}
theorem putA_length (f : AFrame) (d : Option Nat) (v : AV) : (putA f d v).length = f.length := by cases d <;> simp [putA]
theorem foldF_length (m : Nat → Bool) : ∀ N, (foldF as V m fr N).length = fr.length
  | 0 => rfl
  | N + 1 => by simp only [foldF]; split <;> simp [putA_length, foldF_length m N]

theorem putA_other {f : AFrame} {d : Option Nat} {v : AV} {s : Nat} (h : d ≠ some s) : (putA f d v)[s]? = f[s]? := by
  cases d with
  | none => rfl
  | some d =>
    simp only [putA]
    rw [List.getElem?_set, if_neg (fun e => h (by rw [e]))]
theorem putA_same {f : AFrame} {v : AV} {s : Nat} : (putA f (some s) v)[s]? = if s < f.length then some v else none := by
  simp only [putA]
  rw [List.getElem?_set, if_pos rfl]

theorem foldF_slot {m m' : Nat → Bool} {s : Nat} : ∀ N, (∀ k, k < N → dstAt as k = some s → m k = m' k) → (foldF as V m fr N)[s]? = (foldF as V m' fr N)[s]?
  | 0, _ => rfl
  | N + 1, h => by
    have ih := foldF_slot (m := m) (m' := m') (s := s) N fun k hk hd => h k (by omega) hd
    simp only [foldF]
    by_cases hd : dstAt as N = some s
    · rw [h N (by omega) hd]
      split
      · rw [hd, putA_same, putA_same, foldF_length, foldF_length]
      · exact ih
    · split <;> split <;> (try simp only [putA_other hd]) <;> exact ih

theorem foldF_last {m : Nat → Bool} {s i : Nat} (hm : m i = true) (hd : dstAt as i = some s) : ∀ N, i < N → (∀ k, i < k → k < N → dstAt as k = some s → m k = false) →
    (foldF as V m fr N)[s]? = if s < fr.length then some (V i) else none
  | 0, h, _ => by omega
  | N + 1, h, hk => by
    simp only [foldF]
    by_cases hN : N = i
    · subst hN
      rw [if_pos hm, hd, putA_same, foldF_length]
    · have ih := foldF_last hm hd N (by omega) fun k h1 h2 => hk k h1 (by omega)
      by_cases hdN : dstAt as N = some s
      · rw [hk N (by omega) (by omega) hdN]; exact ih
      · split
        · rw [putA_other hdN]; exact ih
        · exact ih

theorem foldF_add {m : Nat → Bool} {i N : Nat} (hi : i < N) (hlater : ∀ d k, dstAt as i = some d → i < k → k < N → dstAt as k = some d → m k = false) :
    foldF as V (fun k => if k = i then true else m k) fr N = putA (foldF as V m fr N) (dstAt as i) (V i) := by
  apply List.ext_getElem?
  intro s
  by_cases hd : dstAt as i = some s
  · rw [hd, putA_same, foldF_length]
    refine foldF_last (i := i) (by simp) hd N hi fun k h1 h2 h3 => ?_
    rw [if_neg (by omega)]; exact hlater s k hd h1 h2 h3
  · rw [putA_other hd]
    refine foldF_slot N fun k _ hk => ?_
    rw [if_neg (fun e => hd (by rw [← e]; exact hk))]

theorem trace_F {call : ACall} {fl n : Nat} {F : Nat → AFrame} {G : Nat → AHeap} (hT : Trace call fl as n F G V) (hF0 : F 0 = fr) : ∀ i, i ≤ as.length → ∀ N, i ≤ N → F i = foldF as V (fun k => decide (k < i)) fr N := by
  have h1 : ∀ i, i ≤ as.length → ∀ q, i ≤ q → F i = foldF as V (fun k => decide (k < q)) fr i := by
    intro i
    induction i with
    | zero => intro _ q _; exact hF0
    | succ i ih =>
      intro hi q hq
      have hlt : i < as.length := by omega
      have hs := (hT.step i _ (List.getElem?_eq_getElem hlt)).2
      simp only [foldF]
      rw [if_pos (by simp; omega), ← ih (by omega) q (by omega), hs]
      simp [dstAt, hlt]
  intro i hi N hN
  induction N with
  | zero => have : i = 0 := by omega
            subst this; exact hF0
  | succ N ih =>
    by_cases hiN : i = N + 1
    · subst hiN; exact h1 _ hi _ (Nat.le_refl _)
    · simp only [foldF]
      rw [if_neg (by simp; omega)]
      exact ih (by omega)
end

theorem ev_same {f1 f2 : AFrame} {x : AOpd} (h : ∀ t, x = .t t → f1[t]? = f2[t]?) : x.ev f1 = x.ev f2 := by
  cases x with
  | t i => simp only [AOpd.ev, List.getD_eq_getElem?_getD, h i rfl]
  | k v => rfl

theorem countP_lt {p q : Nat → Bool} {i : Nat} : ∀ {l : List Nat}, (∀ x ∈ l, q x = true → p x = true) → i ∈ l → p i = true → q i = false → l.countP q + 1 ≤ l.countP p
  | [], _, h, _, _ => by simp at h
  | x :: l, hsub, hi, hp, hq => by
    have hle : ∀ {l : List Nat}, (∀ x ∈ l, q x = true → p x = true) → l.countP q ≤ l.countP p := fun {l} h => List.countP_mono_left h
    simp only [List.countP_cons]
    rcases List.mem_cons.1 hi with rfl | hi
    · have := hle (l := l) fun x hx => hsub x (by simp [hx])
      simp [hp, hq]; omega
    · have ih := countP_lt (fun x hx => hsub x (by simp [hx])) hi hp hq
      by_cases hx : q x = true
      · have := hsub x (by simp) hx
        simp [hx, this]; omega
      · simp at hx
        simp only [hx, Bool.false_eq_true, if_false, Nat.add_zero]
        omega
end PAbs
