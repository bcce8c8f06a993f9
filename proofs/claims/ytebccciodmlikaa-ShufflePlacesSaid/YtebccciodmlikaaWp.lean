/- Reasoning about the abstract machine's evaluator: more fuel gives the same; rules for statements; and the way to the model. -/
import Derived.Test.YtebccciodmlikaaDraw3
namespace PAbs
open Go Go.RowKit
set_option linter.unusedSimpArgs false
set_option linter.unusedVariables false

/-! ### more fuel, a lower floor -/
theorem writeN_floor {fl fl' : Nat} {H H' : AHeap} {b o : Nat} {vs : List Cell} (hf : fl' ≤ fl) (h : writeN fl H b o vs = some H') : writeN fl' H b o vs = some H' := by
  simp only [writeN] at h ⊢
  split at h
  · split at h
    · rename_i hc; rw [if_pos ⟨by omega, hc.2⟩]; exact h
    · cases h
  · cases h

theorem stepA_floor {fl fl' : Nat} {H : AHeap} {ev : AOpd → AV} {p : AOp} {r : AV × AHeap} (hf : fl' ≤ fl) (h : stepA fl H ev p = some r) : stepA fl' H ev p = some r := by
  cases p <;> simp only [stepA] at h ⊢ <;> try exact h
  case store n a x =>
    split at h
    · split at h
      · rename_i hc
        obtain ⟨H1, h1, e⟩ := map_some h
        rw [if_pos hc, writeN_floor hf h1]; simpa using e
      · cases h
    · cases h
  case copy sz d s =>
    split at h
    · split at h
      · rename_i hc
        obtain ⟨H1, h1, e⟩ := map_some h
        rw [if_pos hc, writeN_floor hf h1]; simpa using e
      · cases h
    · cases h
  case append z b s x =>
    simp only [appendA] at h ⊢
    split at h
    · cases h
    · split at h
      · exact h
      · split at h
        · split at h
          · rename_i hc
            rw [if_pos ⟨by omega, hc.2⟩]; exact h
          · cases h
        · cases h
      · cases h

/-- 'call'' answers whatever 'call' answers, also under a lower floor -/
def CallLe (call call' : ACall) : Prop := ∀ fl fl' f args H r, fl' ≤ fl → call fl f args H = some r → call' fl' f args H = some r

section
variable {call call' : ACall} (hc : CallLe call call')
include hc
theorem execA_le {fl fl' : Nat} {fr : AFrame} {H : AHeap} {p : AOp} {r : AV × AHeap} (hf : fl' ≤ fl) (h : execA call fl fr H p = some r) : execA call' fl' fr H p = some r := by
  cases p <;> simp only [execA] at h ⊢
  case call f as => exact hc _ _ _ _ _ _ hf h
  case callV f as =>
    split at h
    · exact hc _ _ _ _ _ _ hf h
    · cases h
  all_goals exact stepA_floor hf h
theorem evalOps_le {fl fl' : Nat} (hf : fl' ≤ fl) : ∀ {l : List AOper} {fr : AFrame} {H : AHeap} {r : AFrame × AHeap}, evalOps call fl l fr H = some r → evalOps call' fl' l fr H = some r
  | [], fr, H, r, h => h
  | o :: l, fr, H, r, h => by
    simp only [evalOps] at h ⊢
    split at h
    · rename_i hw
      rw [if_pos hw]
      split at h
      · rename_i hx; rw [execA_le hc hf hx]; exact evalOps_le hf h
      · cases h
    · rename_i hw
      rw [if_neg hw]; exact evalOps_le hf h
theorem evalHead_le : ∀ {l : List AOper} {fr : AFrame} {H : AHeap} {r : AFrame × AHeap}, evalHead call l fr H = some r → evalHead call' l fr H = some r
  | [], fr, H, r, h => h
  | o :: l, fr, H, r, h => by
    simp only [evalHead] at h ⊢
    split at h
    · rename_i hw
      rw [if_pos hw]
      split at h
      · rename_i hx; rw [execA_le hc (Nat.le_refl _) hx]; exact evalHead_le h
      · cases h
    · rename_i hw
      rw [if_neg hw]; exact evalHead_le h
theorem evalCode_le {fl fl' n n' : Nat} (hf : fl' ≤ fl) (hn : n ≤ n') : ∀ {c : ACode} {fr : AFrame} {H : AHeap} {r : AExit × AFrame × AHeap}, evalCode call fl n c fr H = some r → evalCode call' fl' n' c fr H = some r := by
  intro c
  induction c with
  | skip => intro fr H r h; exact h
  | ret => intro fr H r h; exact h
  | exit id => intro fr H r h; exact h
  | region ops =>
    intro fr H r h
    simp only [evalCode] at h ⊢
    split at h
    · rename_i hx; rw [evalOps_le hc hf hx]; exact h
    · cases h
  | draw hd tl =>
    intro fr H r h
    simp only [evalCode] at h ⊢
    split at h
    · rename_i hx
      rw [evalHead_le hc hx]
      split at h
      · rename_i hy; rw [evalOps_le hc hf hy]; exact h
      · cases h
    · cases h
  | seq a b iha ihb =>
    intro fr H r h
    simp only [evalCode] at h ⊢
    split at h
    · rename_i hx; rw [iha hx]; exact ihb h
    · rename_i hne
      rw [iha h]
      obtain ⟨e, f, g⟩ := r
      cases e with
      | normal => exact absurd h (hne _ _)
      | exit _ => rfl
      | ret => rfl
  | cond c a b iha ihb =>
    intro fr H r h
    simp only [evalCode] at h ⊢
    split at h
    · exact iha h
    · exact ihb h
    · cases h
  | block id c ih =>
    intro fr H r h
    simp only [evalCode] at h ⊢
    split at h
    · rename_i hx; rw [ih hx]; exact h
    · rename_i hne
      rw [ih h]
      obtain ⟨e, f, g⟩ := r
      cases e with
      | exit _ => exact absurd h (hne _ _ _)
      | normal => rfl
      | ret => rfl
  | loop c ih =>
    intro fr H r h
    simp only [evalCode] at h ⊢
    have key : ∀ (m m' : Nat), m ≤ m' → ∀ {fr : AFrame} {H : AHeap} {r : AExit × AFrame × AHeap}, iterA (evalCode call fl n c) m fr H = some r → iterA (evalCode call' fl' n' c) m' fr H = some r := by
      intro m
      induction m with
      | zero => intro m' _ fr H r h; simp [iterA] at h
      | succ m ihm =>
        intro m' hm fr H r h
        obtain ⟨m'', rfl⟩ : ∃ q, m' = q + 1 := ⟨m' - 1, by omega⟩
        simp only [iterA] at h ⊢
        split at h
        · rename_i hx; rw [ih hx]; exact ihm m'' (by omega) h
        · rename_i hne
          rw [ih h]
          obtain ⟨e, f, g⟩ := r
          cases e with
          | normal => exact absurd h (hne _ _)
          | exit _ => rfl
          | ret => rfl
    exact key n n' hn h
end

theorem callFn_le (A : Nat → Option AFn) : ∀ k k', k ≤ k' → CallLe (callFn A k) (callFn A k')
  | 0, _, _ => fun fl fl' f args H r _ h => by simp [callFn] at h
  | k + 1, k', hk => fun fl fl' f args H r hf h => by
    obtain ⟨q, rfl⟩ : ∃ q, k' = q + 1 := ⟨k' - 1, by omega⟩
    have ih := callFn_le A k q (by omega)
    simp only [callFn] at h ⊢
    split at h
    · cases h
    · split at h
      · rename_i hx; rw [evalCode_le ih hf (by omega) hx]; exact h
      · rename_i hx; rw [evalCode_le ih hf (by omega) hx]; exact h
      · cases h

/-! ### what a call, a statement, operations come to -/
variable {A : Nat → Option AFn} {fl : Nat}

structure AC (A : Nat → Option AFn) (fl f : Nat) (args : List AV) (H : AHeap) (Q : AV → AHeap → Prop) : Prop where
  ex : ∃ k v H', callFn A k fl f args H = some (v, H') ∧ Q v H'
structure AW (A : Nat → Option AFn) (fl : Nat) (c : ACode) (fr : AFrame) (H : AHeap) (Q : AExit → AFrame → AHeap → Prop) : Prop where
  ex : ∃ k e fr' H', evalCode (callFn A k) fl k c fr H = some (e, fr', H') ∧ Q e fr' H'
structure AO (A : Nat → Option AFn) (fl : Nat) (ops : List AOper) (fr : AFrame) (H : AHeap) (Q : AFrame → AHeap → Prop) : Prop where
  ex : ∃ k fr' H', evalOps (callFn A k) fl ops fr H = some (fr', H') ∧ Q fr' H'
structure AHd (A : Nat → Option AFn) (ops : List AOper) (fr : AFrame) (H : AHeap) (Q : AFrame → AHeap → Prop) : Prop where
  ex : ∃ k fr' H', evalHead (callFn A k) ops fr H = some (fr', H') ∧ Q fr' H'

theorem AC.mono {f : Nat} {args : List AV} {H : AHeap} {Q Q' : AV → AHeap → Prop} (h : AC A fl f args H Q) (hq : ∀ v H', Q v H' → Q' v H') : AC A fl f args H Q' := by
  obtain ⟨k, v, H', h1, h2⟩ := h; exact ⟨k, v, H', h1, hq _ _ h2⟩
theorem AW.mono {c : ACode} {fr : AFrame} {H : AHeap} {Q Q' : AExit → AFrame → AHeap → Prop} (h : AW A fl c fr H Q) (hq : ∀ e fr' H', Q e fr' H' → Q' e fr' H') : AW A fl c fr H Q' := by
  obtain ⟨k, v, f, H', h1, h2⟩ := h; exact ⟨k, v, f, H', h1, hq _ _ _ h2⟩
theorem AO.mono {ops : List AOper} {fr : AFrame} {H : AHeap} {Q Q' : AFrame → AHeap → Prop} (h : AO A fl ops fr H Q) (hq : ∀ fr' H', Q fr' H' → Q' fr' H') : AO A fl ops fr H Q' := by
  obtain ⟨k, f, H', h1, h2⟩ := h; exact ⟨k, f, H', h1, hq _ _ h2⟩

/-- a call that may change nothing that is there may be made where it might: and nothing is changed -/
theorem AC.kept {f : Nat} {args : List AV} {H : AHeap} {Q : AV → AHeap → Prop} {fl0 : Nat} (h : AC A fl0 f args H Q) (hf : fl ≤ fl0) : AC A fl f args H (fun v H' => Q v H' ∧ Kept fl0 H H') := by
  obtain ⟨k, v, H', h1, h2⟩ := h
  exact ⟨k, v, H', callFn_le A k k (Nat.le_refl _) _ _ _ _ _ _ hf h1, h2, callFn_kept A k _ _ _ _ _ _ h1⟩
theorem AC.floor {f : Nat} {args : List AV} {H : AHeap} {Q : AV → AHeap → Prop} {fl0 : Nat} (h : AC A fl0 f args H Q) (hf : fl ≤ fl0) : AC A fl f args H Q := (h.kept hf).mono fun _ _ h => h.1
theorem AC.keeps {f : Nat} {args : List AV} {H : AHeap} {Q : AV → AHeap → Prop} (h : AC A fl f args H Q) : AC A fl f args H (fun v H' => Q v H' ∧ Kept fl H H') := h.kept (Nat.le_refl _)

/-! ### functions -/
def exitQ (rs : List ARes) (Q : AV → AHeap → Prop) : AExit → AFrame → AHeap → Prop
  | .normal, fr, H => ∃ v, outA fr H rs = some v ∧ Q v H
  | .ret, fr, H => ∃ v, outA fr H rs = some v ∧ Q v H
  | _, _, _ => False

theorem AC_enter {f : Nat} {fn : AFn} {args : List AV} {H : AHeap} {Q : AV → AHeap → Prop} (hA : A f = some fn) (h : AW A fl fn.body (enterA fn args) H (exitQ fn.results Q)) : AC A fl f args H Q := by
  obtain ⟨k, e, fr, H', h1, h2⟩ := h
  cases e with
  | normal =>
    obtain ⟨v, hv, hq⟩ := h2
    exact ⟨k + 1, v, H', by simp only [callFn, hA, h1, hv]; rfl, hq⟩
  | ret =>
    obtain ⟨v, hv, hq⟩ := h2
    exact ⟨k + 1, v, H', by simp only [callFn, hA, h1, hv]; rfl, hq⟩
  | exit id => exact h2.elim

/-! ### statements -/
def thenQ (A : Nat → Option AFn) (fl : Nat) (b : ACode) (Q : AExit → AFrame → AHeap → Prop) : AExit → AFrame → AHeap → Prop
  | .normal, fr, H => AW A fl b fr H Q
  | e, fr, H => Q e fr H

theorem AW_seq {a b : ACode} {fr : AFrame} {H : AHeap} {Q : AExit → AFrame → AHeap → Prop} (h : AW A fl a fr H (thenQ A fl b Q)) : AW A fl (.seq a b) fr H Q := by
  obtain ⟨k, e, fr1, H1, h1, h2⟩ := h
  cases e with
  | normal =>
    obtain ⟨k2, e2, fr2, H2, h3, h4⟩ := h2
    refine ⟨max k k2, e2, fr2, H2, ?_, h4⟩
    simp only [evalCode]
    rw [evalCode_le (callFn_le A k _ (Nat.le_max_left _ _)) (Nat.le_refl _) (Nat.le_max_left _ _) h1]
    exact evalCode_le (callFn_le A k2 _ (Nat.le_max_right _ _)) (Nat.le_refl _) (Nat.le_max_right _ _) h3
  | exit id => exact ⟨k, _, fr1, H1, by simp only [evalCode]; rw [h1], h2⟩
  | ret => exact ⟨k, _, fr1, H1, by simp only [evalCode]; rw [h1], h2⟩

theorem AW_cond {c : AOpd} {x y : ACode} {fr : AFrame} {H : AHeap} {Q : AExit → AFrame → AHeap → Prop} {t : Bool} (hc : c.ev fr = .c (.bool t)) (h1 : t = true → AW A fl x fr H Q) (h2 : t = false → AW A fl y fr H Q) : AW A fl (.cond c x y) fr H Q := by
  cases t with
  | true =>
    obtain ⟨k, e, fr', H', h3, h4⟩ := h1 rfl
    exact ⟨k, e, fr', H', by simp only [evalCode, hc]; exact h3, h4⟩
  | false =>
    obtain ⟨k, e, fr', H', h3, h4⟩ := h2 rfl
    exact ⟨k, e, fr', H', by simp only [evalCode, hc]; exact h3, h4⟩

def blockQ (id : Nat) (Q : AExit → AFrame → AHeap → Prop) : AExit → AFrame → AHeap → Prop
  | .exit i, fr, H => if i = id then Q .normal fr H else Q (.exit i) fr H
  | e, fr, H => Q e fr H

theorem AW_block {id : Nat} {c : ACode} {fr : AFrame} {H : AHeap} {Q : AExit → AFrame → AHeap → Prop} (h : AW A fl c fr H (blockQ id Q)) : AW A fl (.block id c) fr H Q := by
  obtain ⟨k, e, fr1, H1, h1, h2⟩ := h
  cases e with
  | normal => exact ⟨k, _, fr1, H1, by simp only [evalCode]; rw [h1], h2⟩
  | ret => exact ⟨k, _, fr1, H1, by simp only [evalCode]; rw [h1], h2⟩
  | exit i =>
    simp only [blockQ] at h2
    by_cases hi : i = id
    · rw [if_pos hi] at h2
      exact ⟨k, _, fr1, H1, by simp only [evalCode]; rw [h1]; simp [hi], h2⟩
    · rw [if_neg hi] at h2
      exact ⟨k, _, fr1, H1, by simp only [evalCode]; rw [h1]; simp [hi], h2⟩

theorem AW_skip {fr : AFrame} {H : AHeap} {Q : AExit → AFrame → AHeap → Prop} (h : Q .normal fr H) : AW A fl .skip fr H Q := ⟨0, _, fr, H, rfl, h⟩
theorem AW_exit {id : Nat} {fr : AFrame} {H : AHeap} {Q : AExit → AFrame → AHeap → Prop} (h : Q (.exit id) fr H) : AW A fl (.exit id) fr H Q := ⟨0, _, fr, H, rfl, h⟩
theorem AW_ret {fr : AFrame} {H : AHeap} {Q : AExit → AFrame → AHeap → Prop} (h : Q .ret fr H) : AW A fl .ret fr H Q := ⟨0, _, fr, H, rfl, h⟩

/-- a loop: what holds at each round's head, and a measure -/
theorem AW_loop {c : ACode} {fr : AFrame} {H : AHeap} {Q : AExit → AFrame → AHeap → Prop} (I : AFrame → AHeap → Prop) (μ : AFrame → AHeap → Nat) (h0 : I fr H)
    (hr : ∀ fr H, I fr H → AW A fl c fr H (fun e fr' H' => match e with | .normal => I fr' H' ∧ μ fr' H' < μ fr H | e => Q e fr' H')) : AW A fl (.loop c) fr H Q := by
  have key : ∀ m fr H, μ fr H = m → I fr H → ∃ k e fr' H', (∀ k', k ≤ k' → iterA (evalCode (callFn A k') fl k' c) k fr H = some (e, fr', H')) ∧ Q e fr' H' := by
    intro m
    induction m using Nat.strongRecOn with
    | _ m ih =>
      intro fr H hm hI
      obtain ⟨k, e, fr1, H1, h1, h2⟩ := hr fr H hI
      cases e with
      | normal =>
        obtain ⟨hI1, hlt⟩ := h2
        obtain ⟨k2, e2, fr2, H2, h3, h4⟩ := ih _ (by rw [← hm]; exact hlt) fr1 H1 rfl hI1
        refine ⟨max k k2 + 1, e2, fr2, H2, fun k' hk' => ?_, h4⟩
        simp only [iterA]
        rw [evalCode_le (callFn_le A k k' (by omega)) (Nat.le_refl _) (by omega) h1]
        have h5 := h3 k' (by omega)
        have key2 : ∀ (m m' : Nat), m ≤ m' → ∀ {fr : AFrame} {H : AHeap} {r : AExit × AFrame × AHeap}, iterA (evalCode (callFn A k') fl k' c) m fr H = some r → iterA (evalCode (callFn A k') fl k' c) m' fr H = some r := by
          intro m
          induction m with
          | zero => intro m' _ fr H r h; simp [iterA] at h
          | succ m ihm =>
            intro m' hmm fr H r h
            obtain ⟨m'', rfl⟩ : ∃ q, m' = q + 1 := ⟨m' - 1, by omega⟩
            simp only [iterA] at h ⊢
            split at h
            · rename_i hx; exact ihm m'' (by omega) h
            · exact h
        exact key2 k2 _ (Nat.le_max_right _ _) h5
      | exit id =>
        refine ⟨k + 1, _, fr1, H1, fun k' hk' => ?_, h2⟩
        simp only [iterA]
        rw [evalCode_le (callFn_le A k k' (by omega)) (Nat.le_refl _) (by omega) h1]
      | ret =>
        refine ⟨k + 1, _, fr1, H1, fun k' hk' => ?_, h2⟩
        simp only [iterA]
        rw [evalCode_le (callFn_le A k k' (by omega)) (Nat.le_refl _) (by omega) h1]
  obtain ⟨k, e, fr', H', h1, h2⟩ := key _ fr H rfl h0
  exact ⟨k, e, fr', H', by simp only [evalCode]; exact h1 k (Nat.le_refl _), h2⟩

/-! ### operations -/
/-- calls nothing -/
def noCall : ACall := fun _ _ _ _ => none
theorem noCall_le (call : ACall) : CallLe noCall call := fun _ _ _ _ _ _ _ h => by simp [noCall] at h

theorem AO_nil {fr : AFrame} {H : AHeap} {Q : AFrame → AHeap → Prop} (h : Q fr H) : AO A fl [] fr H Q := ⟨0, fr, H, rfl, h⟩

theorem evalOps_append (call : ACall) : ∀ (l m : List AOper) (fr : AFrame) (H : AHeap), evalOps call fl (l ++ m) fr H = match evalOps call fl l fr H with | some (fr', H') => evalOps call fl m fr' H' | none => none
  | [], m, fr, H => rfl
  | o :: l, m, fr, H => by
    simp only [List.cons_append, evalOps]
    split
    · split
      · exact evalOps_append call l m _ _
      · rfl
    · exact evalOps_append call l m _ _
theorem evalHead_append (call : ACall) : ∀ (l m : List AOper) (fr : AFrame) (H : AHeap), evalHead call (l ++ m) fr H = match evalHead call l fr H with | some (fr', H') => evalHead call m fr' H' | none => none
  | [], m, fr, H => rfl
  | o :: l, m, fr, H => by
    simp only [List.cons_append, evalHead]
    split
    · split
      · exact evalHead_append call l m _ _
      · rfl
    · exact evalHead_append call l m _ _

/-- the first n operations call nothing: they are reckoned -/
theorem AO_take (n : Nat) {ops : List AOper} {fr fr' : AFrame} {H H' : AHeap} {Q : AFrame → AHeap → Prop} (h1 : evalOps noCall fl (ops.take n) fr H = some (fr', H')) (h2 : AO A fl (ops.drop n) fr' H' Q) : AO A fl ops fr H Q := by
  obtain ⟨k, fr2, H2, h3, h4⟩ := h2
  refine ⟨k, fr2, H2, ?_, h4⟩
  rw [← List.take_append_drop n ops, evalOps_append, evalOps_le (noCall_le _) (Nat.le_refl _) h1]
  exact h3
theorem AHd_take (n : Nat) {ops : List AOper} {fr fr' : AFrame} {H H' : AHeap} {Q : AFrame → AHeap → Prop} (h1 : evalHead noCall (ops.take n) fr H = some (fr', H')) (h2 : AHd A (ops.drop n) fr' H' Q) : AHd A ops fr H Q := by
  obtain ⟨k, fr2, H2, h3, h4⟩ := h2
  refine ⟨k, fr2, H2, ?_, h4⟩
  rw [← List.take_append_drop n ops, evalHead_append, evalHead_le (noCall_le _) h1]
  exact h3
theorem AHd_nil {fr : AFrame} {H : AHeap} {Q : AFrame → AHeap → Prop} (h : Q fr H) : AHd A [] fr H Q := ⟨0, fr, H, rfl, h⟩

/-- one operation that calls nothing, by a fact -/
theorem AO_step {o : AOper} {rest : List AOper} {fr : AFrame} {H H' : AHeap} {v : AV} {Q : AFrame → AHeap → Prop} (hw : wantedA fr o.guard = true) (h1 : execA noCall fl fr H o.op = some (v, H')) (h2 : AO A fl rest (putA fr o.dst v) H' Q) : AO A fl (o :: rest) fr H Q := by
  obtain ⟨k, fr2, H2, h3, h4⟩ := h2
  refine ⟨k, fr2, H2, ?_, h4⟩
  simp only [evalOps]
  rw [if_pos hw, execA_le (noCall_le _) (Nat.le_refl _) h1]
  exact h3
theorem AO_skip {o : AOper} {rest : List AOper} {fr : AFrame} {H : AHeap} {Q : AFrame → AHeap → Prop} (hw : wantedA fr o.guard = false) (h2 : AO A fl rest (putA fr o.dst aundef) H Q) : AO A fl (o :: rest) fr H Q := by
  obtain ⟨k, fr2, H2, h3, h4⟩ := h2
  refine ⟨k, fr2, H2, ?_, h4⟩
  simp only [evalOps]
  rw [if_neg (by rw [hw]; simp)]
  exact h3

/-- a call -/
theorem AO_call {d : Option Nat} {f : Nat} {as : List AOpd} {g : Option (Nat × Bool)} {rest : List AOper} {fr : AFrame} {H : AHeap} {R : AV → AHeap → Prop} {Q : AFrame → AHeap → Prop} (hw : wantedA fr g = true)
    (h1 : AC A fl f (as.map (·.ev fr)) H R) (h2 : ∀ v H', R v H' → AO A fl rest (putA fr d v) H' Q) : AO A fl (⟨d, .call f as, g⟩ :: rest) fr H Q := by
  obtain ⟨k, v, H1, h3, h4⟩ := h1
  obtain ⟨k2, fr2, H2, h5, h6⟩ := h2 v H1 h4
  refine ⟨max k k2, fr2, H2, ?_, h6⟩
  simp only [evalOps, execA]
  rw [if_pos hw, callFn_le A k _ (Nat.le_max_left _ _) _ _ _ _ _ _ (Nat.le_refl _) h3]
  exact evalOps_le (callFn_le A k2 _ (Nat.le_max_right _ _)) (Nat.le_refl _) h5
theorem AO_callV {d : Option Nat} {f : Nat} {x : AOpd} {as : List AOpd} {g : Option (Nat × Bool)} {rest : List AOper} {fr : AFrame} {H : AHeap} {R : AV → AHeap → Prop} {Q : AFrame → AHeap → Prop} (hw : wantedA fr g = true) (hx : x.ev fr = .c (.fn f))
    (h1 : AC A fl f (as.map (·.ev fr)) H R) (h2 : ∀ v H', R v H' → AO A fl rest (putA fr d v) H' Q) : AO A fl (⟨d, .callV x as, g⟩ :: rest) fr H Q := by
  obtain ⟨k, v, H1, h3, h4⟩ := h1
  obtain ⟨k2, fr2, H2, h5, h6⟩ := h2 v H1 h4
  refine ⟨max k k2, fr2, H2, ?_, h6⟩
  simp only [evalOps, execA, hx]
  rw [if_pos hw, callFn_le A k _ (Nat.le_max_left _ _) _ _ _ _ _ _ (Nat.le_refl _) h3]
  exact evalOps_le (callFn_le A k2 _ (Nat.le_max_right _ _)) (Nat.le_refl _) h5

theorem AHd_step {o : AOper} {rest : List AOper} {fr : AFrame} {H H' : AHeap} {v : AV} {Q : AFrame → AHeap → Prop} (hw : wantedA fr o.guard = true) (h1 : execA noCall H.length fr H o.op = some (v, H')) (h2 : AHd A rest (putA fr o.dst v) H' Q) : AHd A (o :: rest) fr H Q := by
  obtain ⟨k, fr2, H2, h3, h4⟩ := h2
  refine ⟨k, fr2, H2, ?_, h4⟩
  simp only [evalHead]
  rw [if_pos hw, execA_le (noCall_le _) (Nat.le_refl _) h1]
  exact h3
theorem AHd_skip {o : AOper} {rest : List AOper} {fr : AFrame} {H : AHeap} {Q : AFrame → AHeap → Prop} (hw : wantedA fr o.guard = false) (h2 : AHd A rest (putA fr o.dst aundef) H Q) : AHd A (o :: rest) fr H Q := by
  obtain ⟨k, fr2, H2, h3, h4⟩ := h2
  refine ⟨k, fr2, H2, ?_, h4⟩
  simp only [evalHead]
  rw [if_neg (by rw [hw]; simp)]
  exact h3
theorem AHd_call {d : Option Nat} {f : Nat} {as : List AOpd} {g : Option (Nat × Bool)} {rest : List AOper} {fr : AFrame} {H : AHeap} {R : AV → AHeap → Prop} {Q : AFrame → AHeap → Prop} (hw : wantedA fr g = true)
    (h1 : AC A H.length f (as.map (·.ev fr)) H R) (h2 : ∀ v H', R v H' → Kept H.length H H' → AHd A rest (putA fr d v) H' Q) : AHd A (⟨d, .call f as, g⟩ :: rest) fr H Q := by
  obtain ⟨k, v, H1, h3, h4⟩ := h1
  obtain ⟨k2, fr2, H2, h5, h6⟩ := h2 v H1 h4 (callFn_kept A k _ _ _ _ _ _ h3)
  refine ⟨max k k2, fr2, H2, ?_, h6⟩
  simp only [evalHead, execA]
  rw [if_pos hw, callFn_le A k _ (Nat.le_max_left _ _) _ _ _ _ _ _ (Nat.le_refl _) h3]
  exact evalHead_le (callFn_le A k2 _ (Nat.le_max_right _ _)) h5
theorem AHd_callV {d : Option Nat} {f : Nat} {x : AOpd} {as : List AOpd} {g : Option (Nat × Bool)} {rest : List AOper} {fr : AFrame} {H : AHeap} {R : AV → AHeap → Prop} {Q : AFrame → AHeap → Prop} (hw : wantedA fr g = true) (hx : x.ev fr = .c (.fn f))
    (h1 : AC A H.length f (as.map (·.ev fr)) H R) (h2 : ∀ v H', R v H' → Kept H.length H H' → AHd A rest (putA fr d v) H' Q) : AHd A (⟨d, .callV x as, g⟩ :: rest) fr H Q := by
  obtain ⟨k, v, H1, h3, h4⟩ := h1
  obtain ⟨k2, fr2, H2, h5, h6⟩ := h2 v H1 h4 (callFn_kept A k _ _ _ _ _ _ h3)
  refine ⟨max k k2, fr2, H2, ?_, h6⟩
  simp only [evalHead, execA, hx]
  rw [if_pos hw, callFn_le A k _ (Nat.le_max_left _ _) _ _ _ _ _ _ (Nat.le_refl _) h3]
  exact evalHead_le (callFn_le A k2 _ (Nat.le_max_right _ _)) h5

theorem AW_ops {ops : List AOper} {fr : AFrame} {H : AHeap} {Q : AExit → AFrame → AHeap → Prop} (h : AO A fl ops fr H (Q .normal)) : AW A fl (.region ops) fr H Q := by
  obtain ⟨k, fr', H', h1, h2⟩ := h
  exact ⟨k, _, fr', H', by simp only [evalCode]; rw [h1], h2⟩
/-- a statement that calls nothing: it is reckoned -/
theorem AW_run {ops : List AOper} {fr fr' : AFrame} {H H' : AHeap} {Q : AExit → AFrame → AHeap → Prop} (h1 : evalOps noCall fl ops fr H = some (fr', H')) (h2 : Q .normal fr' H') : AW A fl (.region ops) fr H Q :=
  AW_ops ⟨0, fr', H', evalOps_le (noCall_le _) (Nat.le_refl _) h1, h2⟩
theorem AW_draw {hd tl : List AOper} {fr : AFrame} {H : AHeap} {Q : AExit → AFrame → AHeap → Prop} (h : AHd A hd fr H (fun fr1 H1 => AO A fl tl fr1 H1 (Q .normal))) : AW A fl (.draw hd tl) fr H Q := by
  obtain ⟨k, fr1, H1, h1, k2, fr', H', h2, h3⟩ := h
  refine ⟨max k k2, _, fr', H', ?_, h3⟩
  simp only [evalCode]
  rw [evalHead_le (callFn_le A k _ (Nat.le_max_left _ _)) h1]
  simp only
  rw [evalOps_le (callFn_le A k2 _ (Nat.le_max_right _ _)) (Nat.le_refl _) h2]
theorem AW_drun {hd tl : List AOper} {fr fr1 fr' : AFrame} {H H1 H' : AHeap} {Q : AExit → AFrame → AHeap → Prop} (h1 : evalHead noCall hd fr H = some (fr1, H1)) (h2 : evalOps noCall fl tl fr1 H1 = some (fr', H')) (h3 : Q .normal fr' H') : AW A fl (.draw hd tl) fr H Q :=
  AW_draw ⟨0, fr1, H1, evalHead_le (noCall_le _) h1, 0, fr', H', evalOps_le (noCall_le _) (Nat.le_refl _) h2, h3⟩

/-- a whole call, reckoned -/
theorem AC_eval (k : Nat) {f : Nat} {args : List AV} {H : AHeap} {v : AV} (h : (callFn A k fl f args H).map (·.1) = some v) : AC A fl f args H (fun v' _ => v' = v) := by
  obtain ⟨⟨v', H'⟩, h1, h2⟩ := map_some h
  exact ⟨k, v', H', h1, h2⟩

/-! ### to the model -/
theorem abs_calls {P : Program} (hm : P.follows .mixedOrders = true) {f : Nat} {args : List AV} {H : AHeap} {Q : AV → AHeap → Prop} (h : AC (tableA P) fl f args H Q) {base : Nat} {ρ : List Reg} {w : World} {vs : Array Value} (hH : HR base ρ H w) (hL : L2 (VR ρ) args vs.toList) :
    Calls P f vs w fun e w' => ∃ u v H' ρ', e = .returned u ∧ Q v H' ∧ HR base ρ' H' w' ∧ RExt ρ ρ' ∧ VR ρ' v u ∧ Below base w w' := by
  obtain ⟨k, v, H', h1, h2⟩ := h
  have hs := call_sound P (fun k ih => draw_sound hm ih (callFn_kept _ k)) k
  exact ((hs fl f args H v H' h1 base ρ w vs hH hL).2).mono fun e w' ⟨u, ρ', he, g1, g2, g3, g4⟩ => ⟨u, v, H', ρ', he, h2, g1, g2, g3, g4⟩

/-- for a law: it answers true -/
theorem law_calls {P : Program} (hm : P.follows .mixedOrders = true) {f : Nat} {args : List AV} {H : AHeap} (h : AC (tableA P) 0 f args H (fun v _ => v = .c (.bool true))) {ρ : List Reg} {w : World} {vs : Array Value} (hH : HR w.heap.size ρ H w) (hL : L2 (VR ρ) args vs.toList) :
    Calls P f vs w fun e w' => e = .returned (.bool true) ∧ Below w.heap.size w w' :=
  (abs_calls hm h hH hL).mono fun e w' ⟨u, v, H', ρ', he, hv, _, _, hu, hb⟩ => by
    subst hv
    have hu : u = .bool true := hu
    subst hu
    exact ⟨he, hb⟩

theorem HR.nil (w : World) : HR w.heap.size [] [] w := ⟨rfl, fun b x r h => by simp at h, fun b b' cs cs' g f c f' c' h => by simp at h, Nat.le_refl _⟩
end PAbs
