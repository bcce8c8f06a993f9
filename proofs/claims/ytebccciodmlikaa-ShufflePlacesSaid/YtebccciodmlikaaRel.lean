/- What the abstract machine's values and heaps stand for in a world of the model; how this is kept. -/
import Derived.Test.YtebccciodmlikaaRes
namespace PAbs
open Go Go.RowKit
set_option linter.unusedSimpArgs false
set_option linter.unusedVariables false

/-! ### lists, side by side -/
def L2 {α β : Type} (R : α → β → Prop) (l : List α) (l' : List β) : Prop :=
  l.length = l'.length ∧ ∀ (i : Nat) (x : α), l[i]? = some x → ∃ y, l'[i]? = some y ∧ R x y

section
variable {α β : Type} {R : α → β → Prop} {l : List α} {l' : List β}
theorem L2.nil : L2 R [] [] := ⟨rfl, fun i x h => by simp at h⟩
theorem L2.get (h : L2 R l l') {i : Nat} {x : α} (hx : l[i]? = some x) : ∃ y, l'[i]? = some y ∧ R x y := h.2 i x hx
theorem L2.none (h : L2 R l l') {i : Nat} (hx : l[i]? = none) : l'[i]? = none := by
  rw [List.getElem?_eq_none_iff] at hx ⊢; have := h.1; omega
theorem L2.mono {R' : α → β → Prop} (h : L2 R l l') (hr : ∀ x y, R x y → R' x y) : L2 R' l l' :=
  ⟨h.1, fun i x hx => by obtain ⟨y, hy, hR⟩ := h.2 i x hx; exact ⟨y, hy, hr _ _ hR⟩⟩
theorem L2.cons {x : α} {y : β} (h : L2 R l l') (hxy : R x y) : L2 R (x :: l) (y :: l') := by
  refine ⟨by simp [h.1], fun i z hz => ?_⟩
  cases i with
  | zero => simp at hz; subst hz; exact ⟨y, by simp, hxy⟩
  | succ i => simpa using h.2 i z (by simpa using hz)
theorem L2.set (h : L2 R l l') (i : Nat) {x : α} {y : β} (hxy : R x y) : L2 R (l.set i x) (l'.set i y) := by
  refine ⟨by simp [h.1], fun j z hz => ?_⟩
  rw [List.getElem?_set] at hz
  by_cases hij : i = j
  · subst hij
    rw [if_pos rfl] at hz
    split at hz
    · rename_i hlt
      have : z = x := by simpa using hz.symm
      subst this
      exact ⟨y, by rw [List.getElem?_set, if_pos rfl, if_pos (by have := h.1; omega)], hxy⟩
    · cases hz
  · rw [if_neg hij] at hz
    obtain ⟨u, hu, hR⟩ := h.2 j z hz
    exact ⟨u, by rw [List.getElem?_set, if_neg hij]; exact hu, hR⟩
theorem L2.append {m : List α} {m' : List β} (h : L2 R l l') (k : L2 R m m') : L2 R (l ++ m) (l' ++ m') := by
  refine ⟨by simp [h.1, k.1], fun i x hx => ?_⟩
  rw [List.getElem?_append] at hx
  split at hx
  · obtain ⟨y, hy, hR⟩ := h.2 i x hx
    exact ⟨y, by rw [List.getElem?_append, if_pos (by have := h.1; omega)]; exact hy, hR⟩
  · obtain ⟨y, hy, hR⟩ := k.2 _ x hx
    exact ⟨y, by rw [List.getElem?_append, if_neg (by have := h.1; omega), ← h.1]; exact hy, hR⟩
theorem L2.drop (h : L2 R l l') (n : Nat) : L2 R (l.drop n) (l'.drop n) := by
  refine ⟨by simp [h.1], fun i x hx => ?_⟩
  rw [List.getElem?_drop] at hx
  obtain ⟨y, hy, hR⟩ := h.2 _ x hx
  exact ⟨y, by rw [List.getElem?_drop]; exact hy, hR⟩
theorem L2.take (h : L2 R l l') (n : Nat) : L2 R (l.take n) (l'.take n) := by
  refine ⟨by simp [h.1], fun i x hx => ?_⟩
  rw [List.getElem?_take] at hx
  split at hx
  · rename_i hi
    obtain ⟨y, hy, hR⟩ := h.2 _ x hx
    exact ⟨y, by rw [List.getElem?_take, if_pos hi]; exact hy, hR⟩
  · cases hx
theorem L2.replicate {x : α} {y : β} (n : Nat) (h : R x y) : L2 R (List.replicate n x) (List.replicate n y) := by
  refine ⟨by simp, fun i z hz => ?_⟩
  rw [List.getElem?_replicate] at hz
  split at hz
  · rename_i hi
    have : z = x := by simpa using hz.symm
    subst this
    exact ⟨y, by rw [List.getElem?_replicate, if_pos hi], h⟩
  · cases hz
theorem L2.map {γ δ : Type} {S : γ → δ → Prop} {f : α → γ} {g : β → δ} (h : L2 R l l') (hr : ∀ x y, R x y → S (f x) (g y)) : L2 S (l.map f) (l'.map g) := by
  refine ⟨by simp [h.1], fun i z hz => ?_⟩
  rw [List.getElem?_map] at hz
  cases hx : l[i]? with
  | none => rw [hx] at hz; cases hz
  | some x =>
    rw [hx] at hz
    have : z = f x := by simpa using hz.symm
    subst this
    obtain ⟨y, hy, hR⟩ := h.2 i x hx
    exact ⟨g y, by rw [List.getElem?_map, hy]; rfl, hr _ _ hR⟩
end

/-! ### regions: where a block lies -/
inductive Reg where
  | dead
  | empty
  | at (g f c : Nat)
  deriving DecidableEq, Inhabited

def CR (ρ : List Reg) : Cell → Value → Prop
  | .bool b, v => v = .bool b
  | .int k n, v => v = .int k n
  | .str s, v => v = .string ⟨s.toArray⟩
  | .pnil, v => v = .pointer none
  | .ptr b o, v =>
    match ρ[b]? with
    | some (.at g f _) => v = .pointer (some ⟨g, f + o, none⟩)
    | some .dead => ∃ a, v = .pointer a
    | _ => False
  | .snil, v => v = .slice none 0 0
  | .slc b o n sz, v =>
    match ρ[b]? with
    | some (.at g f c) => (∃ k, v = .slice (some ⟨g, f + o, none⟩) n k ∧ n ≤ k ∧ o + k * sz ≤ c) ∨ (n = 0 ∧ ∃ a, v = .slice a 0 0)
    | some .empty => n = 0 ∧ ∃ a, v = .slice a 0 0
    | some .dead => ∃ a m k, v = .slice a m k
    | none => False
  | .fnil, v => v = .nilFunc
  | .fn f, v => v = .func (.func f) #[] #[]

theorem CR.one {ρ : List Reg} {x : Cell} {v : Value} (h : CR ρ x v) : v.oneCell' = true := by
  cases x <;> simp only [CR] at h
  case ptr b o => split at h <;> first | (subst h; rfl) | (obtain ⟨a, rfl⟩ := h; rfl) | exact h.elim
  case slc b o n sz =>
    split at h
    · rcases h with ⟨k, rfl, _⟩ | ⟨_, a, rfl⟩ <;> rfl
    · obtain ⟨_, a, rfl⟩ := h; rfl
    · obtain ⟨a, m, k, rfl⟩ := h; rfl
    · exact h.elim
  all_goals (subst h; rfl)

theorem CR.cells {ρ : List Reg} {x : Cell} {v : Value} (h : CR ρ x v) : v.cells = #[v] := by
  have := h.one
  cases v <;> first | rfl | (simp [Value.oneCell'] at this)

def AggR (ρ : List Reg) (cs : List Cell) (v : Value) : Prop := ∃ l : List Value, v = .agg l.toArray ∧ L2 (CR ρ) cs l

def TR (ρ : List Reg) : TV → Value → Prop
  | .c x, v => CR ρ x v
  | .agg cs, v => AggR ρ cs v

def VR (ρ : List Reg) : AV → Value → Prop
  | .c x, v => CR ρ x v
  | .agg cs, v => AggR ρ cs v
  | .tup vs, v => ∃ l : List Value, v = .tuple l.toArray ∧ L2 (TR ρ) vs l

theorem TR.av {ρ : List Reg} {t : TV} {v : Value} (h : TR ρ t v) : VR ρ t.av v := by cases t <;> exact h
theorem VR.tv {ρ : List Reg} {x : AV} {t : TV} {v : Value} (h : VR ρ x v) (e : x.tv = some t) : TR ρ t v := by
  cases x <;> simp [AV.tv] at e <;> subst e <;> exact h
theorem VR.undef (ρ : List Reg) : VR ρ aundef undef := ⟨[], rfl, L2.nil⟩
theorem VR.cells {ρ : List Reg} {x : AV} {v : Value} {cs : List Cell} (h : VR ρ x v) (e : x.cells = some cs) : L2 (CR ρ) cs v.cells.toList := by
  cases x with
  | c x =>
    simp [AV.cells] at e; subst e
    rw [CR.cells h]
    exact L2.cons L2.nil h
  | agg l =>
    simp [AV.cells] at e; subst e
    obtain ⟨m, rfl, hm⟩ := h
    simpa [Value.cells] using hm
  | tup _ => simp [AV.cells] at e

/-- Later regions: more of them, some of them dead. -/
def RExt (ρ ρ' : List Reg) : Prop := ∀ (b : Nat) (r : Reg), ρ[b]? = some r → ρ'[b]? = some r ∨ ρ'[b]? = some .dead

theorem RExt.refl (ρ : List Reg) : RExt ρ ρ := fun _ _ h => .inl h
theorem RExt.trans {a b c : List Reg} (h : RExt a b) (k : RExt b c) : RExt a c := fun i r hr => by
  rcases h i r hr with h | h
  · exact k i r h
  · rcases k i _ h with h | h <;> exact .inr h
theorem RExt.push (ρ : List Reg) (r : List Reg) : RExt ρ (ρ ++ r) := fun i x h => .inl (by
  rw [List.getElem?_append, if_pos (List.getElem?_eq_some_iff.1 h).1]; exact h)
theorem RExt.kill (ρ : List Reg) (b : Nat) : RExt ρ (ρ.set b .dead) := fun i x h => by
  rw [List.getElem?_set]
  by_cases hb : b = i
  · subst hb; exact .inr (by rw [if_pos rfl, if_pos (List.getElem?_eq_some_iff.1 h).1])
  · exact .inl (by rw [if_neg hb]; exact h)

theorem CR.ext {ρ ρ' : List Reg} {x : Cell} {v : Value} (h : CR ρ x v) (e : RExt ρ ρ') : CR ρ' x v := by
  cases x <;> simp only [CR] at h ⊢ <;> try exact h
  case ptr b o =>
    cases hb : ρ[b]? with
    | none => rw [hb] at h; exact h.elim
    | some r =>
      rw [hb] at h
      rcases e b r hb with e | e <;> rw [e]
      · exact h
      · cases r <;> simp only at h ⊢
        · exact h
        · exact ⟨_, h⟩
  case slc b o n sz =>
    cases hb : ρ[b]? with
    | none => rw [hb] at h; exact h.elim
    | some r =>
      rw [hb] at h
      rcases e b r hb with e | e <;> rw [e]
      · exact h
      · cases r <;> simp only at h ⊢
        · exact h
        · obtain ⟨_, a, rfl⟩ := h; exact ⟨_, _, _, rfl⟩
        · rcases h with ⟨k, rfl, _⟩ | ⟨_, a, rfl⟩ <;> exact ⟨_, _, _, rfl⟩

theorem AggR.ext {ρ ρ' : List Reg} {x : List Cell} {v : Value} (h : AggR ρ x v) (e : RExt ρ ρ') : AggR ρ' x v := by
  obtain ⟨l, rfl, hl⟩ := h; exact ⟨l, rfl, hl.mono fun _ _ h => h.ext e⟩
theorem TR.ext {ρ ρ' : List Reg} {x : TV} {v : Value} (h : TR ρ x v) (e : RExt ρ ρ') : TR ρ' x v := by
  cases x with
  | c x => exact CR.ext h e
  | agg l => exact AggR.ext h e
theorem VR.ext {ρ ρ' : List Reg} {x : AV} {v : Value} (h : VR ρ x v) (e : RExt ρ ρ') : VR ρ' x v := by
  cases x with
  | c x => exact CR.ext h e
  | agg l => exact AggR.ext h e
  | tup l => obtain ⟨m, rfl, hm⟩ := h; exact ⟨m, rfl, hm.mono fun _ _ h => h.ext e⟩

/-! ### frames and operands -/
def FR (ρ : List Reg) (fr : AFrame) (tmps : Array Value) : Prop := L2 (VR ρ) fr tmps.toList

theorem FR.ext {ρ ρ' : List Reg} {fr : AFrame} {tmps : Array Value} (h : FR ρ fr tmps) (e : RExt ρ ρ') : FR ρ' fr tmps := L2.mono h fun _ _ h => h.ext e
theorem FR.getD {ρ : List Reg} {fr : AFrame} {tmps : Array Value} (h : FR ρ fr tmps) (i : Nat) : VR ρ (fr.getD i aundef) (tmps.getD i undef) := by
  rw [List.getD_eq_getElem?_getD, Array.getD_eq_getD_getElem?]
  cases hx : fr[i]? with
  | none =>
    have : tmps[i]? = none := by simpa using L2.none h hx
    rw [this]; exact VR.undef ρ
  | some x =>
    obtain ⟨y, hy, hR⟩ := L2.get h hx
    have : tmps[i]? = some y := by simpa using hy
    rw [this]; exact hR
theorem FR.put {ρ : List Reg} {fr : AFrame} {a : Act} {x : AV} {v : Value} (h : FR ρ fr a.tmps) (dst : Option Nat) (hv : VR ρ x v) : FR ρ (putA fr dst x) (a.put dst v).tmps := by
  cases dst with
  | none => exact h
  | some d =>
    have := L2.set h d hv
    simpa [putA, Act.put, FR] using this

theorem optMap_L2 {α β : Type} {f : α → Option β} {R : β → α → Prop} (hf : ∀ a b, f a = some b → R b a) : ∀ {l : List α} {r : List β}, optMap f l = some r → L2 R r l
  | [], r, h => by simp [optMap] at h; subst h; exact L2.nil
  | a :: l, r, h => by
    simp only [optMap] at h
    split at h
    · rename_i b r' h1 h2
      simp at h; subst h
      exact L2.cons (optMap_L2 hf h2) (hf _ _ h1)
    · cases h

theorem absCell_CR {ρ : List Reg} {v : Value} {x : Cell} (h : absCell v = some x) : CR ρ x v := by
  unfold absCell at h
  split at h
  case h_7 f a b =>
    split at h
    · rename_i hab
      simp at h; subst h
      obtain ⟨ha, hb⟩ := hab
      have ha : a = #[] := by simpa using ha
      have hb : b = #[] := by simpa using hb
      subst ha hb; rfl
    · cases h
  all_goals first | (simp at h; subst h; first | rfl | simp [CR]) | cases h

theorem absVal_VR {ρ : List Reg} {v : Value} {x : AV} (h : absVal v = some x) : VR ρ x v := by
  unfold absVal at h
  split at h
  · rename_i cs
    cases ho : optMap absCell cs.toList with
    | none => rw [ho] at h; cases h
    | some l =>
      rw [ho] at h; simp at h; subst h
      exact ⟨cs.toList, by simp, optMap_L2 (R := CR ρ) (fun _ _ h => absCell_CR h) ho⟩
  · rename_i vs
    split at h
    · rename_i hs
      have hs : vs = #[] := by simpa using hs
      simp at h; subst h hs; exact VR.undef ρ
    · cases h
  · cases ho : absCell v with
    | none => rw [ho] at h; cases h
    | some c => rw [ho] at h; simp at h; subst h; exact absCell_CR (ρ := ρ) ho

theorem absOpd_VR {ρ : List Reg} {fr : AFrame} {a : Act} {x : Operand} {y : AOpd} (hF : FR ρ fr a.tmps) (h : absOpd x = some y) : VR ρ (y.ev fr) (a.eval x) := by
  cases x <;> simp only [absOpd] at h
  case tmp t => simp at h; subst h; exact hF.getD t
  case const v =>
    cases ho : absVal v with
    | none => rw [ho] at h; cases h
    | some z => rw [ho] at h; simp at h; subst h; exact absVal_VR ho
  case func f => simp at h; subst h; simp [AOpd.ev, Act.eval, VR, CR]
  case global g => cases h

theorem absOpd_evs {ρ : List Reg} {fr : AFrame} {a : Act} {xs : List Operand} {ys : List AOpd} (hF : FR ρ fr a.tmps) (h : optMap absOpd xs = some ys) :
    L2 (VR ρ) (ys.map (·.ev fr)) (xs.map a.eval) := by
  have := optMap_L2 (R := fun y x => VR ρ (y.ev fr) (a.eval x)) (fun x y h => absOpd_VR hF h) h
  exact this.map fun _ _ h => h

/-! ### heaps -/
def Holds (ρ : List Reg) (arr : Array Value) (f : Nat) (cs : List Cell) : Prop := ∀ (i : Nat) (x : Cell), cs[i]? = some x → ∃ v, arr[f + i]? = some v ∧ CR ρ x v

theorem Holds.ext {ρ ρ' : List Reg} {arr : Array Value} {f : Nat} {cs : List Cell} (h : Holds ρ arr f cs) (e : RExt ρ ρ') : Holds ρ' arr f cs :=
  fun i x hx => by obtain ⟨v, hv, hc⟩ := h i x hx; exact ⟨v, hv, hc.ext e⟩

def Thawed (fz : Nat × Nat) (n : Nat) : Prop := ∀ o, o < n → ¬ (fz.1 ≤ o ∧ o < fz.2)

def BR (base : Nat) (ρ : List Reg) (w : World) : Reg → Blk → Prop
  | .at g f c, .own cs => base ≤ g ∧ ∃ arr ty fz, w.heap[g]? = some (.cells arr ty fz) ∧ Thawed fz arr.size ∧ f + c ≤ arr.size ∧ cs.length ≤ c ∧ Holds ρ arr f cs
  | .at g f c, .ro cs => g < base ∧ cs.length ≤ c ∧ ∃ arr ty fz, w.heap[g]? = some (.cells arr ty fz) ∧ Holds ρ arr f cs
  | .empty, .own cs => cs = []
  | .empty, .ro cs => cs = []
  | .dead, .dead => True
  | _, _ => False

structure HR (base : Nat) (ρ : List Reg) (H : AHeap) (w : World) : Prop where
  len : ρ.length = H.length
  blk : ∀ (b : Nat) (x : Blk) (r : Reg), H[b]? = some x → ρ[b]? = some r → BR base ρ w r x
  apart : ∀ (b b' : Nat) (cs cs' : List Cell) (g f c f' c' : Nat), H[b]? = some (.own cs) → H[b']? = some (.own cs') → ρ[b]? = some (.at g f c) → ρ[b']? = some (.at g f' c') → b = b'
  base_le : base ≤ w.heap.size

theorem HR.reg {base : Nat} {ρ : List Reg} {H : AHeap} {w : World} (h : HR base ρ H w) {b : Nat} {x : Blk} (hb : H[b]? = some x) : ∃ r, ρ[b]? = some r ∧ BR base ρ w r x := by
  have hlt : b < ρ.length := by rw [h.len]; exact (List.getElem?_eq_some_iff.1 hb).1
  exact ⟨_, List.getElem?_eq_getElem hlt, h.blk b x _ hb (List.getElem?_eq_getElem hlt)⟩

theorem hcells_some {H : AHeap} {b : Nat} {cs : List Cell} (h : hcells H b = some cs) : H[b]? = some (.ro cs) ∨ H[b]? = some (.own cs) := by
  unfold hcells at h
  split at h <;> first | (simp at h; subst h; simp [*]) | cases h
theorem hown_some {H : AHeap} {b : Nat} {cs : List Cell} (h : hown H b = some cs) : H[b]? = some (.own cs) := by
  unfold hown at h
  split at h <;> first | (simp at h; subst h; simp [*]) | cases h

/-- A block that may be read, and a pointer into it. -/
theorem HR.at_ptr {base : Nat} {ρ : List Reg} {H : AHeap} {w : World} (h : HR base ρ H w) {b o : Nat} {cs : List Cell} {v : Value} (hc : hcells H b = some cs) (hv : CR ρ (.ptr b o) v) :
    ∃ g f c, ρ[b]? = some (.at g f c) ∧ v = .pointer (some ⟨g, f + o, none⟩) ∧ ∃ arr ty fz, w.heap[g]? = some (.cells arr ty fz) ∧ Holds ρ arr f cs := by
  simp only [CR] at hv
  rcases hcells_some hc with hb | hb <;> obtain ⟨r, hr, hB⟩ := h.reg hb <;> rw [hr] at hv <;> cases r <;> simp only [BR] at hB hv <;>
    first
    | exact hB.elim
    | exact hv.elim
    | (obtain ⟨_, _, arr, ty, fz, h1, h2⟩ := hB; exact ⟨_, _, _, hr, hv, arr, ty, fz, h1, h2⟩)
    | (obtain ⟨_, arr, ty, fz, h1, _, _, _, h2⟩ := hB; exact ⟨_, _, _, hr, hv, arr, ty, fz, h1, h2⟩)

/-- A block that may be read, and a slice of it that is not empty. -/
theorem HR.at_slc {base : Nat} {ρ : List Reg} {H : AHeap} {w : World} (h : HR base ρ H w) {b o n sz : Nat} {cs : List Cell} {v : Value} (hc : hcells H b = some cs) (hv : CR ρ (.slc b o n sz) v) :
    (∃ g f c k, ρ[b]? = some (.at g f c) ∧ v = .slice (some ⟨g, f + o, none⟩) n k ∧ n ≤ k ∧ o + k * sz ≤ c ∧ ∃ arr ty fz, w.heap[g]? = some (.cells arr ty fz) ∧ Holds ρ arr f cs) ∨
    (n = 0 ∧ ∃ a, v = .slice a 0 0) := by
  simp only [CR] at hv
  rcases hcells_some hc with hb | hb <;> obtain ⟨r, hr, hB⟩ := h.reg hb <;> rw [hr] at hv <;> cases r <;> simp only [BR] at hB hv <;>
    first
    | exact hB.elim
    | exact .inr hv
    | (rcases hv with ⟨k, h1, h2, h3⟩ | hv
       · first
         | (obtain ⟨_, _, arr, ty, fz, h4, h5⟩ := hB; exact .inl ⟨_, _, _, k, hr, h1, h2, h3, arr, ty, fz, h4, h5⟩)
         | (obtain ⟨_, arr, ty, fz, h4, _, _, _, h5⟩ := hB; exact .inl ⟨_, _, _, k, hr, h1, h2, h3, arr, ty, fz, h4, h5⟩)
       · exact .inr hv)

theorem cell_of {w : World} {g o : Nat} {arr : Array Value} {ty : TypeId} {fz : Nat × Nat} (h : w.heap[g]? = some (.cells arr ty fz)) : w.cell? ⟨g, o, none⟩ = arr[o]? := by
  simp [World.cell?, h]
theorem addr_add (g f n : Nat) : (⟨g, f, none⟩ : Addr).add n = ⟨g, f + n, none⟩ := by unfold Addr.add; split <;> simp_all

/-- n cells read in a row -/
theorem HR.reads {base : Nat} {ρ : List Reg} {H : AHeap} {w : World} {b g f c : Nat} {cs : List Cell} {arr : Array Value} {ty : TypeId} {fz : Nat × Nat} {o n : Nat}
    (_h : HR base ρ H w) (_hr : ρ[b]? = some (.at g f c)) (hg : w.heap[g]? = some (.cells arr ty fz)) (hh : Holds ρ arr f cs) (hn : o + n ≤ cs.length) :
    ∃ l : List Value, L2 (CR ρ) ((cs.drop o).take n) l ∧ l.length = n ∧ ∀ j v, l[j]? = some v → w.cell? ((⟨g, f + o, none⟩ : Addr).add j) = some v := by
  have hx : ∀ i, i < n → ∃ v, arr[f + o + i]? = some v ∧ CR ρ (cs[o + i]?.getD .pnil) v := fun i hi => by
    have hlt : o + i < cs.length := by omega
    obtain ⟨v, h1, h2⟩ := hh (o + i) _ (List.getElem?_eq_getElem hlt)
    exact ⟨v, by rw [Nat.add_assoc]; exact h1, by rw [List.getElem?_eq_getElem hlt]; exact h2⟩
  refine ⟨(arr.toList.drop (f + o)).take n, ⟨?_, ?_⟩, ?_, ?_⟩
  · have h1 : f + o + n ≤ arr.size ∨ n = 0 := by
      rcases Nat.eq_zero_or_pos n with h0 | h0
      · exact .inr h0
      · obtain ⟨v, hv, _⟩ := hx (n - 1) (by omega)
        have := (Array.getElem?_eq_some_iff.1 hv).1
        exact .inl (by omega)
    simp only [List.length_take, List.length_drop, Array.length_toList]
    omega
  · intro i x hi
    rw [List.getElem?_take] at hi
    split at hi
    · rename_i hin
      rw [List.getElem?_drop] at hi
      obtain ⟨v, h1, h2⟩ := hx i hin
      rw [hi] at h2
      exact ⟨v, by rw [List.getElem?_take, if_pos hin, List.getElem?_drop, Array.getElem?_toList]; exact h1, h2⟩
    · cases hi
  · have h1 : f + o + n ≤ arr.size ∨ n = 0 := by
      rcases Nat.eq_zero_or_pos n with h0 | h0
      · exact .inr h0
      · obtain ⟨v, hv, _⟩ := hx (n - 1) (by omega)
        have := (Array.getElem?_eq_some_iff.1 hv).1
        exact .inl (by omega)
    simp only [List.length_take, List.length_drop, Array.length_toList]
    omega
  · intro j v hj
    rw [List.getElem?_take] at hj
    split at hj
    · rw [List.getElem?_drop, Array.getElem?_toList] at hj
      rw [addr_add, cell_of hg]; exact hj
    · cases hj

/-! ### what the steps do to a heap -/
section
variable {base : Nat} {ρ : List Reg} {H : AHeap} {w : World}

theorem BR.ext {ρ' : List Reg} {r : Reg} {x : Blk} (h : BR base ρ w r x) (e : RExt ρ ρ') : BR base ρ' w r x := by
  cases r <;> cases x <;> simp only [BR] at h ⊢ <;> try exact h
  · obtain ⟨h1, h0, arr, ty, fz, h2, h3⟩ := h; exact ⟨h1, h0, arr, ty, fz, h2, h3.ext e⟩
  · obtain ⟨h1, arr, ty, fz, h2, h3, h4, h5, h6⟩ := h; exact ⟨h1, arr, ty, fz, h2, h3, h4, h5, h6.ext e⟩

theorem BR.world {w' : World} {r : Reg} {x : Blk} (h : BR base ρ w r x) (hw : ∀ g f c, r = .at g f c → w'.heap[g]? = w.heap[g]?) : BR base ρ w' r x := by
  cases r <;> cases x <;> simp only [BR] at h ⊢ <;> try exact h
  · obtain ⟨h1, h0, arr, ty, fz, h2, h3⟩ := h; exact ⟨h1, h0, arr, ty, fz, (hw _ _ _ rfl).trans h2, h3⟩
  · obtain ⟨h1, arr, ty, fz, h2, h3, h4, h5, h6⟩ := h; exact ⟨h1, arr, ty, fz, (hw _ _ _ rfl).trans h2, h3, h4, h5, h6⟩

theorem BR.lt {g f c : Nat} {x : Blk} (h : BR base ρ w (.at g f c) x) : g < w.heap.size := by
  cases x <;> simp only [BR] at h
  · obtain ⟨_, _, arr, ty, fz, h2, _⟩ := h; exact (Array.getElem?_eq_some_iff.1 h2).1
  · obtain ⟨_, arr, ty, fz, h2, _⟩ := h; exact (Array.getElem?_eq_some_iff.1 h2).1

theorem HR.drew (h : HR base ρ H w) : HR base ρ H w.drew :=
  ⟨h.len, fun b x r hx hr => (h.blk b x r hx hr).world fun _ _ _ _ => rfl, h.apart, h.base_le⟩

theorem HR.world (h : HR base ρ H w) {w' : World} (hs : w.heap.size ≤ w'.heap.size) (hw : ∀ g, g < w.heap.size → w'.heap[g]? = w.heap[g]?) : HR base ρ H w' :=
  ⟨h.len, fun b x r hx hr => (h.blk b x r hx hr).world fun g f c e => hw g (by subst e; exact (h.blk b x _ hx hr).lt), h.apart, Nat.le_trans h.base_le hs⟩

/-- A new block of the call's own. -/
theorem HR.push (h : HR base ρ H w) {arr : Array Value} {ty : TypeId} {fz : Nat × Nat} {cs : List Cell} {c : Nat} (hfz : Thawed fz arr.size) (hc : c ≤ arr.size) (hl : cs.length ≤ c)
    (hh : Holds ρ arr 0 cs) : HR base (ρ ++ [.at w.heap.size 0 c]) (H ++ [.own cs]) (w.alloc (.cells arr ty fz)) := by
  have hx := RExt.push ρ [.at w.heap.size 0 c]
  refine ⟨by simp [h.len], fun b x r hb hr => ?_, ?_, ?_⟩
  · rw [List.getElem?_append] at hb hr
    by_cases hlt : b < H.length
    · rw [if_pos hlt] at hb
      rw [if_pos (by rw [h.len]; exact hlt)] at hr
      refine ((h.blk b x r hb hr).world fun g f c e => ?_).ext hx
      subst e
      exact Below.heap_alloc w _ g (h.blk b x _ hb hr).lt
    · rw [if_neg hlt] at hb
      rw [if_neg (by rw [h.len]; exact hlt), h.len] at hr
      have hb0 : b - H.length = 0 := by
        have := (List.getElem?_eq_some_iff.1 hb).1; simp at this; omega
      rw [hb0] at hb hr
      simp at hb hr
      subst hb hr
      exact ⟨h.base_le, arr, ty, fz, heap_alloc_new w _, hfz, by omega, hl, hh.ext hx⟩
  · intro b b' cs1 cs2 g f c1 f' c2 hb hb' hr hr'
    rw [List.getElem?_append] at hb hb' hr hr'
    rw [h.len] at hr hr'
    by_cases h1 : b < H.length <;> by_cases h2 : b' < H.length
    · rw [if_pos h1] at hb hr; rw [if_pos h2] at hb' hr'
      exact h.apart _ _ _ _ _ _ _ _ _ hb hb' hr hr'
    · rw [if_pos h1] at hb hr; rw [if_neg h2] at hb' hr'
      have h0 : b' - H.length = 0 := by have := (List.getElem?_eq_some_iff.1 hb').1; simp at this; omega
      rw [h0] at hr'; simp at hr'
      have := (h.blk _ _ _ hb hr).lt
      omega
    · rw [if_neg h1] at hb hr; rw [if_pos h2] at hb' hr'
      have h0 : b - H.length = 0 := by have := (List.getElem?_eq_some_iff.1 hb).1; simp at this; omega
      rw [h0] at hr; simp at hr
      have := (h.blk _ _ _ hb' hr').lt
      omega
    · rw [if_neg h1] at hb; rw [if_neg h2] at hb'
      have := (List.getElem?_eq_some_iff.1 hb).1
      have := (List.getElem?_eq_some_iff.1 hb').1
      simp at *; omega
  · have := h.base_le; simp; omega

/-- An empty block that lies nowhere. -/
theorem HR.push_empty (h : HR base ρ H w) : HR base (ρ ++ [.empty]) (H ++ [.own []]) w := by
  have hx := RExt.push ρ [.empty]
  refine ⟨by simp [h.len], fun b x r hb hr => ?_, ?_, h.base_le⟩
  · rw [List.getElem?_append] at hb hr
    by_cases hlt : b < H.length
    · rw [if_pos hlt] at hb
      rw [if_pos (by rw [h.len]; exact hlt)] at hr
      exact (h.blk b x r hb hr).ext hx
    · rw [if_neg hlt] at hb
      rw [if_neg (by rw [h.len]; exact hlt), h.len] at hr
      have hb0 : b - H.length = 0 := by
        have := (List.getElem?_eq_some_iff.1 hb).1; simp at this; omega
      rw [hb0] at hb hr
      simp at hb hr
      subst hb hr
      rfl
  · intro b b' cs1 cs2 g f c1 f' c2 hb hb' hr hr'
    rw [List.getElem?_append] at hb hb' hr hr'
    rw [h.len] at hr hr'
    by_cases h1 : b < H.length <;> by_cases h2 : b' < H.length
    · rw [if_pos h1] at hb hr; rw [if_pos h2] at hb' hr'
      exact h.apart _ _ _ _ _ _ _ _ _ hb hb' hr hr'
    · rw [if_neg h2] at hr'
      have h0 : b' - H.length = 0 := by have := (List.getElem?_eq_some_iff.1 hr').1; simp at this; omega
      rw [h0] at hr'; simp at hr'
    · rw [if_neg h1] at hr
      have h0 : b - H.length = 0 := by have := (List.getElem?_eq_some_iff.1 hr).1; simp at this; omega
      rw [h0] at hr; simp at hr
    · rw [if_neg h1] at hr
      have h0 : b - H.length = 0 := by have := (List.getElem?_eq_some_iff.1 hr).1; simp at this; omega
      rw [h0] at hr; simp at hr

/-- A block that is looked at no more. -/
theorem HR.kill (h : HR base ρ H w) (b : Nat) : HR base (ρ.set b .dead) (H.set b .dead) w := by
  have hx := RExt.kill ρ b
  refine ⟨by simp [h.len], fun i x r hi hr => ?_, ?_, h.base_le⟩
  · rw [List.getElem?_set] at hi hr
    by_cases hbi : b = i
    · subst hbi
      rw [if_pos rfl] at hi hr
      split at hi <;> split at hr <;> simp at hi hr
      subst hi hr; trivial
    · rw [if_neg hbi] at hi hr
      exact (h.blk i x r hi hr).ext hx
  · intro i i' cs1 cs2 g f c1 f' c2 hi hi' hr hr'
    rw [List.getElem?_set] at hi hi' hr hr'
    by_cases h1 : b = i
    · rw [if_pos h1] at hi; split at hi <;> simp at hi
    · by_cases h2 : b = i'
      · rw [if_pos h2] at hi'; split at hi' <;> simp at hi'
      · rw [if_neg h1] at hi hr; rw [if_neg h2] at hi' hr'
        exact h.apart _ _ _ _ _ _ _ _ _ hi hi' hr hr'

/-- cells, written over -/
def overAt (arr : Array Value) (k : Nat) (vs : List Value) : Array Value := (arr.toList.take k ++ vs ++ arr.toList.drop (k + vs.length)).toArray

theorem overAt_size (arr : Array Value) (k : Nat) (vs : List Value) (h : k + vs.length ≤ arr.size) : (overAt arr k vs).size = arr.size := by
  simp only [overAt, List.size_toArray, List.length_append, List.length_take, List.length_drop, Array.length_toList]; omega

theorem overAt_get (arr : Array Value) (k : Nat) (vs : List Value) (h : k + vs.length ≤ arr.size) (j : Nat) :
    (overAt arr k vs)[j]? = if j < k then arr[j]? else if j < k + vs.length then vs[j - k]? else arr[j]? := by
  simp only [overAt, List.getElem?_toArray, List.getElem?_append, List.getElem?_take, List.length_take, List.getElem?_drop, List.length_append, Array.length_toList, Array.getElem?_toList]
  have hk : min k arr.size = k := by omega
  rw [hk]
  by_cases h1 : j < k
  · rw [if_pos (by omega), if_pos h1, if_pos h1, if_pos h1]
  · by_cases h2 : j < k + vs.length
    · rw [if_pos (by omega), if_neg h1, if_neg h1, if_pos h2]
    · rw [if_neg (by omega), if_neg h1, if_neg h2]; congr 1; omega

theorem run_storeCells_thawed (P : Program) (g o : Nat) (t : TypeId) (fz : Nat × Nat) : ∀ (vs : List Value) (i : Nat) (cur : Array Value) (w : World), w.heap[g]? = some (.cells cur t fz) → Thawed fz cur.size → o + i + vs.length ≤ cur.size → (∀ v ∈ vs, v.oneCell' = true) →
    (storeCells ⟨g, o, none⟩ vs i).run P w = .ok () (w.setRow g (overAt cur (o + i) vs))
  | [], i, cur, w, hg, _, _, _ => by
    simp only [storeCells, overAt, List.append_nil, List.length_nil, Nat.add_zero, List.take_append_drop, Array.toArray_toList]
    rw [setRow_self w g cur t fz hg]
    rfl
  | v :: rest, i, cur, w, hg, hz, hl, h1 => by
    have hi : o + i < cur.size := by simp at hl; omega
    have hcell : w.cell? ⟨g, o + i, none⟩ = some cur[o + i] := by simp [World.cell?, hg, hi]
    have hfro : w.frozen? ⟨g, o + i, none⟩ = false := by
      have := hz (o + i) hi
      simp only [World.frozen?, hg]
      simp only [not_and, Nat.not_lt] at this
      by_cases h : fz.1 ≤ o + i
      · have := this h; simp; omega
      · simp; omega
    have hst : (store ((⟨g, o, none⟩ : Addr).add i) v).run P w = .ok () (w.setRow g (cur.setIfInBounds (o + i) v)) := by
      rw [addr_add, run_store P w _ v _ (h1 v (by simp)), hcell]
      simp [hfro, setCell_eq_setRow w g (o + i) cur t fz v hg]
    have ih := run_storeCells_thawed P g o t fz rest (i + 1) (cur.setIfInBounds (o + i) v) (w.setRow g (cur.setIfInBounds (o + i) v)) (setRow_heap w g cur _ t _ hg) (by simpa using hz) (by simp at hl ⊢; omega) (fun x hx => h1 x (by simp [hx]))
    simp only [storeCells, Sem.run_bind, hst, Result.andThen_ok, ih, setRow_setRow]
    have e := list_seg_step cur.toList (o + i) v rest (by simp at hl ⊢; omega)
    have e' : overAt (cur.setIfInBounds (o + i) v) (o + (i + 1)) rest = overAt cur (o + i) (v :: rest) := by
      unfold overAt
      congr 1
      simpa [Array.toList_setIfInBounds, Nat.add_assoc] using e
    rw [e']

theorem L2.one {cs : List Cell} {l : List Value} (h : L2 (CR ρ) cs l) : ∀ v ∈ l, v.oneCell' = true := by
  intro v hv
  obtain ⟨i, hi, rfl⟩ := List.mem_iff_getElem.1 hv
  have hlt : i < cs.length := by rw [h.1]; exact hi
  obtain ⟨y, hy, hR⟩ := h.2 i _ (List.getElem?_eq_getElem hlt)
  rw [List.getElem?_eq_getElem hi] at hy
  have : l[i] = y := by simpa using hy
  rw [this]; exact hR.one

/-- A write into a block of the call's own. -/
theorem HR.write (h : HR base ρ H w) {b g f c o : Nat} {cs : List Cell} {vs : List Cell} {l : List Value} {arr : Array Value} {ty : TypeId} {fz : Nat × Nat}
    (hb : H[b]? = some (.own cs)) (hr : ρ[b]? = some (.at g f c)) (hg : w.heap[g]? = some (.cells arr ty fz)) (hl : L2 (CR ρ) vs l) (ho : o + vs.length ≤ cs.length) :
    HR base ρ (H.set b (.own (cs.take o ++ vs ++ cs.drop (o + vs.length)))) (w.setRow g (overAt arr (f + o) l)) := by
  have hB := h.blk b _ _ hb hr
  simp only [BR] at hB
  obtain ⟨hbase, arr', ty', fz', hg', hz, hfc, hcl, hh⟩ := hB
  rw [hg] at hg'
  simp at hg'
  obtain ⟨rfl, rfl, rfl⟩ := hg'
  have hfit : f + o + l.length ≤ arr.size := by have := hl.1; omega
  have hlt : b < H.length := (List.getElem?_eq_some_iff.1 hb).1
  refine ⟨by simp [h.len], fun i x r hi hri => ?_, ?_, by simpa using h.base_le⟩
  · rw [List.getElem?_set] at hi
    by_cases hbi : b = i
    · subst hbi
      rw [if_pos rfl, if_pos hlt] at hi
      rw [hr] at hri
      have hx : x = .own (cs.take o ++ vs ++ cs.drop (o + vs.length)) := by simpa using hi.symm
      have hrr : r = .at g f c := by simpa using hri.symm
      subst hx hrr
      refine ⟨hbase, _, ty, fz, setRow_heap w g arr _ ty fz hg, by rw [overAt_size _ _ _ hfit]; exact hz, by rw [overAt_size _ _ _ hfit]; exact hfc, ?_, ?_⟩
      · simp only [List.length_append, List.length_take, List.length_drop]; omega
      · intro j y hj
        rw [List.append_assoc, List.getElem?_append, List.length_take] at hj
        have hmin : min o cs.length = o := by omega
        rw [hmin] at hj
        rw [overAt_get _ _ _ hfit]
        by_cases hjo : j < o
        · rw [if_pos hjo, List.getElem?_take, if_pos hjo] at hj
          rw [if_pos (by omega)]
          exact hh j y hj
        · rw [if_neg hjo, List.getElem?_append] at hj
          rw [if_neg (by omega)]
          by_cases hjv : j - o < vs.length
          · rw [if_pos hjv] at hj
            rw [if_pos (by have := hl.1; omega)]
            obtain ⟨v, hv, hc⟩ := hl.2 _ _ hj
            exact ⟨v, by rw [← hv]; congr 1; omega, hc⟩
          · rw [if_neg hjv, List.getElem?_drop] at hj
            rw [if_neg (by have := hl.1; omega)]
            refine hh j y ?_
            rw [← hj]; congr 1; omega
    · rw [if_neg hbi] at hi
      refine (h.blk i x r hi hri).world fun g' f' c' e => ?_
      subst e
      refine setRow_other w g g' _ fun e => hbi ?_
      subst e
      have hBi := h.blk i x _ hi hri
      cases x with
      | own cs' => exact h.apart b i _ _ _ _ _ _ _ hb hi hr hri
      | ro cs' => simp only [BR] at hBi; omega
      | dead => simp only [BR] at hBi
  · intro i i' cs1 cs2 g1 f1 c1 f2 c2 hi hi' hri hri'
    have key : ∀ {k : Nat} {x : List Cell}, (H.set b (.own (cs.take o ++ vs ++ cs.drop (o + vs.length))))[k]? = some (.own x) → ∃ y, H[k]? = some (.own y) := fun {k x} hk => by
      rw [List.getElem?_set] at hk
      by_cases hbk : b = k
      · subst hbk; exact ⟨cs, hb⟩
      · rw [if_neg hbk] at hk; exact ⟨x, hk⟩
    obtain ⟨y1, h1⟩ := key hi
    obtain ⟨y2, h2⟩ := key hi'
    exact h.apart _ _ _ _ _ _ _ _ _ h1 h2 hri hri'

/-- What an append leaves that found room: the old block is dead, a new one lies where its last cells lay. -/
theorem HR.moved (h : HR base ρ H w) {b g f c o m : Nat} {cs news : List Cell} {l : List Value} {arr : Array Value} {ty : TypeId} {fz : Nat × Nat}
    (hb : H[b]? = some (.own cs)) (hr : ρ[b]? = some (.at g f c)) (hg : w.heap[g]? = some (.cells arr ty fz)) (hl : L2 (CR ρ) news l) (ho : o ≤ cs.length) (hm : cs.length - o + news.length ≤ m) (hmc : o + m ≤ c) :
    HR base (ρ.set b .dead ++ [.at g (f + o) m]) (H.set b .dead ++ [.own (cs.drop o ++ news)]) (w.setRow g (overAt arr (f + cs.length) l)) := by
  have hB := h.blk b _ _ hb hr
  simp only [BR] at hB
  obtain ⟨hbase, arr', ty', fz', hg', hz, hfc, hcl, hh⟩ := hB
  rw [hg] at hg'
  simp at hg'
  obtain ⟨rfl, rfl, rfl⟩ := hg'
  have hfit : f + cs.length + l.length ≤ arr.size := by have := hl.1; omega
  have hlt : b < H.length := (List.getElem?_eq_some_iff.1 hb).1
  have hx : RExt ρ (ρ.set b .dead ++ [.at g (f + o) m]) := (RExt.kill ρ b).trans (RExt.push _ _)
  refine ⟨by simp [h.len], fun i x r hi hri => ?_, ?_, by simpa using h.base_le⟩
  · rw [List.getElem?_append] at hi hri
    simp only [List.length_set] at hi hri
    rw [h.len] at hri
    by_cases hiH : i < H.length
    · rw [if_pos hiH, List.getElem?_set] at hi hri
      by_cases hbi : b = i
      · subst hbi
        rw [if_pos rfl] at hi hri
        split at hi <;> split at hri <;> simp at hi hri <;> first | omega | (subst hi hri; trivial)
      · rw [if_neg hbi] at hi hri
        refine ((h.blk i x r hi hri).world fun g' f' c' e => ?_).ext hx
        subst e
        refine setRow_other w g g' _ fun e => hbi ?_
        subst e
        have hBi := h.blk i x _ hi hri
        cases x with
        | own cs' => exact h.apart b i _ _ _ _ _ _ _ hb hi hr hri
        | ro cs' => simp only [BR] at hBi; omega
        | dead => simp only [BR] at hBi
    · rw [if_neg hiH] at hi hri
      have h0 : i - H.length = 0 := by have := (List.getElem?_eq_some_iff.1 hi).1; simp at this; omega
      rw [h0] at hi hri
      simp at hi hri
      subst hi hri
      refine ⟨hbase, _, ty, fz, setRow_heap w g arr _ ty fz hg, by rw [overAt_size _ _ _ hfit]; exact hz, by rw [overAt_size _ _ _ hfit]; omega, ?_, ?_⟩
      · simp only [List.length_append, List.length_drop]; omega
      · intro j y hj
        rw [List.getElem?_append, List.length_drop] at hj
        rw [overAt_get _ _ _ hfit]
        by_cases hjo : j < cs.length - o
        · rw [if_pos hjo, List.getElem?_drop] at hj
          rw [if_pos (by omega)]
          obtain ⟨v, hv, hc⟩ := hh _ _ hj
          exact ⟨v, by rw [← hv]; congr 1; omega, hc.ext hx⟩
        · rw [if_neg hjo] at hj
          have hjl := (List.getElem?_eq_some_iff.1 hj).1
          rw [if_neg (by omega), if_pos (by have := hl.1; omega)]
          obtain ⟨v, hv, hc⟩ := hl.2 _ _ hj
          exact ⟨v, by rw [← hv]; congr 1; omega, hc.ext hx⟩
  · intro i i' cs1 cs2 g1 f1 c1 f2 c2 hi hi' hri hri'
    have key : ∀ {k : Nat} {x : List Cell} {g' f' c' : Nat}, (H.set b Blk.dead ++ [.own (cs.drop o ++ news)])[k]? = some (.own x) → (ρ.set b .dead ++ [.at g (f + o) m])[k]? = some (.at g' f' c') →
        (k < H.length ∧ k ≠ b ∧ H[k]? = some (.own x) ∧ ρ[k]? = some (.at g' f' c')) ∨ (k = H.length ∧ g' = g) := fun {k x g' f' c'} hk hrk => by
      rw [List.getElem?_append] at hk hrk
      simp only [List.length_set] at hk hrk
      rw [h.len] at hrk
      by_cases hkH : k < H.length
      · rw [if_pos hkH, List.getElem?_set] at hk hrk
        by_cases hbk : b = k
        · rw [if_pos hbk] at hk; split at hk <;> simp at hk
        · rw [if_neg hbk] at hk hrk
          exact .inl ⟨hkH, fun e => hbk e.symm, hk, hrk⟩
      · rw [if_neg hkH] at hk hrk
        have h0 : k - H.length = 0 := by have := (List.getElem?_eq_some_iff.1 hk).1; simp at this; omega
        rw [h0] at hrk
        simp at hrk
        exact .inr ⟨by omega, hrk.1.symm⟩
    rcases key hi hri with ⟨a1, a2, a3, a4⟩ | ⟨a1, a2⟩ <;> rcases key hi' hri' with ⟨b1, b2, b3, b4⟩ | ⟨b1, b2⟩
    · exact h.apart _ _ _ _ _ _ _ _ _ a3 b3 a4 b4
    · subst b2; exact absurd (h.apart _ _ _ _ _ _ _ _ _ hb a3 hr a4) (fun e => a2 e.symm)
    · subst a2; exact absurd (h.apart _ _ _ _ _ _ _ _ _ hb b3 hr b4) (fun e => b2 e.symm)
    · omega
end
end PAbs
