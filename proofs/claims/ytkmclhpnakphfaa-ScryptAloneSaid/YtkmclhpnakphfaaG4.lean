/- Texts of this claim, put together: Ext Step Fut. -/
import Derived.Test.YtkmclhpnakphfaaG3
import Derived.Laws.Externs
import Derived.Test.YtkmclhpnakphfaaG1
/- The library's sums with a carry: by what the model says of them. -/
namespace PAbs
open Go Go.RowKit
set_option linter.unusedSimpArgs false
set_option linter.unusedVariables false

def sub64Entry : Array Value → Sem Value := fun args => do
  let (x, y, b) ← Extern.MathBitsCarry.three "Sub64" args
  pure (Extern.MathBitsCarry.pair ((x + Extern.MathBitsCarry.m64 - y - b) % Extern.MathBitsCarry.m64) (if x < y + b then 1 else 0))
theorem noNext1 : Extern.allNextRows.lookup "math/bits.Add64" = none := by kernel_rfl
theorem noNext2 : Extern.allNextRows.lookup "math/bits.Sub64" = none := by kernel_rfl
theorem noNext3 : Extern.allNextRows.lookup "" = none := by kernel_rfl
theorem noGen1 : Extern.allGenericRows.lookup "math/bits.Add64" = none := by kernel_rfl
theorem noGen2 : Extern.allGenericRows.lookup "math/bits.Sub64" = none := by kernel_rfl
theorem noTyp1 : Extern.allTypedRows.lookup "math/bits.Add64" = none := by kernel_rfl
theorem noTyp2 : Extern.allTypedRows.lookup "math/bits.Sub64" = none := by kernel_rfl
theorem row1 : Extern.allRows.lookup "math/bits.Add64" = some add64Entry := by kernel_rfl
theorem row2 : Extern.allRows.lookup "math/bits.Sub64" = some sub64Entry := by kernel_rfl

theorem map_some' {α β : Type} {f : α → β} {x : Option α} {y : β} (h : x.map f = some y) : ∃ z, x = some z ∧ f z = y := by
  cases x with
  | none => cases h
  | some z => exact ⟨z, rfl, by simpa using h⟩

section
variable {P : Program} {o : Oper} {a : Act} {base fl : Nat} {ρ : List Reg} {H H' : AHeap} {w : World} {fr : AFrame} {v : AV}
theorem run_extern {f : Nat} {sub : Bool} (h : externA P f = some sub) (args : Array Value) (w : World) :
    (callFunc f args).run P w = (((if sub then sub64Entry else add64Entry) args).run P w).andThen fun v w' => .ok (.value v) w' := by
  unfold externA at h
  split at h
  · rename_i fn hf
    split at h
    · rename_i hc
      obtain ⟨hb, hor⟩ := hc
      split at h
      · rename_i hn
        cases h
        refine run_callFunc_extern hf (by rw [hn]; decide) hb ?_ ?_ args w
        · simp only [Extern.findNext, hn, hor, noNext1, noNext3]; rfl
        · simp only [Extern.find, hn, hor, noGen1, noTyp1, row1]; rfl
      · split at h
        · rename_i hn
          cases h
          refine run_callFunc_extern hf (by rw [hn]; decide) hb ?_ ?_ args w
          · simp only [Extern.findNext, hn, hor, noNext2, noNext3]; rfl
          · simp only [Extern.find, hn, hor, noGen2, noTyp2, row2]; rfl
        · cases h
    · cases h
  · cases h

theorem run_carry {sub : Bool} {x y k : Int} {t : AV} (h : carryA sub x y k = some t) (w : World) :
    ∃ u, ((if sub then sub64Entry else add64Entry) #[.int .u64 x, .int .u64 y, .int .u64 k]).run P w = .ok u w ∧ VR ρ t u := by
  unfold carryA at h
  split at h
  · rename_i hc
    obtain ⟨hx, hy, hk0, hk1, hyl⟩ := hc
    obtain ⟨X, rfl⟩ := Int.eq_ofNat_of_zero_le hx
    obtain ⟨Y, rfl⟩ := Int.eq_ofNat_of_zero_le hy
    obtain ⟨K, rfl⟩ := Int.eq_ofNat_of_zero_le hk0
    cases sub with
    | true =>
      simp only [if_true, Option.some.injEq] at h
      subst h
      have key : (sub64Entry #[.int .u64 (X : Int), .int .u64 (Y : Int), .int .u64 (K : Int)]).run P w = .ok (Extern.MathBitsCarry.pair ((X + Extern.MathBitsCarry.m64 - Y - K) % Extern.MathBitsCarry.m64) (if X < Y + K then 1 else 0)) w := by
        have : K = 0 ∨ K = 1 := by omega
        rcases this with rfl | rfl <;> rfl
      refine ⟨_, key, [_, _], rfl, rfl, fun i z hz => ?_⟩
      have e1 : ((X : Int) + 18446744073709551616 - Y - K) % 18446744073709551616 = (((X + 18446744073709551616 - Y - K) % 18446744073709551616 : Nat) : Int) := by omega
      have e2 : (if (X : Int) < (Y : Int) + (K : Int) then (1 : Int) else 0) = (((if X < Y + K then 1 else 0) : Nat) : Int) := by
        split <;> split <;> first | rfl | omega
      match i with
      | 0 => simp at hz; subst hz; exact ⟨_, rfl, by rw [e1]; exact (rfl : Value.int _ _ = _)⟩
      | 1 => simp at hz; subst hz; exact ⟨_, rfl, by rw [e2]; exact (rfl : Value.int _ _ = _)⟩
      | i + 2 => simp at hz
    | false =>
      simp only [Bool.false_eq_true, if_false, Option.some.injEq] at h
      subst h
      refine ⟨_, run_add64 _ _ _ hx hy hk0 hk1 w, [_, _], rfl, rfl, fun i z hz => ?_⟩
      match i with
      | 0 => simp at hz; subst hz; exact ⟨_, rfl, (rfl : Value.int _ _ = _)⟩
      | 1 => simp at hz; subst hz; exact ⟨_, rfl, (rfl : Value.int _ _ = _)⟩
      | i + 2 => simp at hz
  · cases h

theorem st_carry (hH : HR base ρ H w) (hF : FR ρ fr a.tmps) {f : Nat} {sub : Bool} {args : Array Operand} {ts : Array TypeId} {x y c : AOpd} (ho : o.op = .call { callee := .value (.func f), args := args, argTypes := ts })
    (has : optMap absOpd args.toList = some [x, y, c]) (he : externA P f = some sub) (h : stepA fl H (·.ev fr) (.carry sub x y c) = some (v, H')) : Stepped P o a base ρ w v H' := by
  simp only [stepA] at h
  split at h
  · rename_i p q k hx hy hc
    obtain ⟨t, ht, e⟩ := map_some' h
    cases e
    obtain ⟨u, hu, hV⟩ := run_carry (P := P) (ρ := ρ) ht w
    have hL := absOpd_evs (a := a) hF has
    simp only [List.map_cons, List.map_nil, hx, hy, hc] at hL
    have hargs : args.map a.eval = #[.int .u64 p, .int .u64 q, .int .u64 k] := by
      obtain ⟨l1, l2⟩ := hL
      have g0 := l2 0 _ rfl
      have g1 := l2 1 _ rfl
      have g2 := l2 2 _ rfl
      have hs : (args.toList.map a.eval).length = 3 := by simpa using l1.symm
      obtain ⟨v0, h0, r0⟩ := g0
      obtain ⟨v1, h1, r1⟩ := g1
      obtain ⟨v2, h2, r2⟩ := g2
      have r0 : v0 = .int .u64 p := r0
      have r1 : v1 = .int .u64 q := r1
      have r2 : v2 = .int .u64 k := r2
      subst r0 r1 r2
      apply Array.toList_inj.1
      rw [Array.toList_map]
      apply List.ext_getElem?
      intro i
      match i with
      | 0 => exact h0
      | 1 => exact h1
      | 2 => exact h2
      | i + 3 => rw [List.getElem?_eq_none (by omega)]; rfl
    refine ⟨u, w, ρ, .inl ?_, hH, RExt.refl ρ, hV, Below.refl _ _⟩
    simp only [execOp, ho, resolve, Act.eval, Deferred.ofValue, Sem.run_bind, Sem.run_pure, Result.andThen_ok, invoke, Array.empty_append, Array.append_empty]
    have hargs' : args.map (fun x => a.eval x) = #[.int .u64 p, .int .u64 q, .int .u64 k] := hargs
    rw [show Array.map a.eval args = #[.int .u64 p, .int .u64 q, .int .u64 k] from hargs, run_extern he, hu]; rfl
  · cases h
end
end PAbs

/- All operations together: what 'resOp' gives is stepped through as the model does. -/
namespace PAbs
open Go Go.RowKit
set_option linter.unusedSimpArgs false
set_option linter.unusedVariables false

section steps
variable {P : Program} {o : Oper} {a : Act} {base fl : Nat} {ρ : List Reg} {H H' : AHeap} {w : World} {fr : AFrame} {v : AV}

theorem map_some {α β : Type} {f : α → β} {x : Option α} {y : β} (h : x.map f = some y) : ∃ z, x = some z ∧ f z = y := by
  cases x with
  | none => cases h
  | some z => exact ⟨z, rfl, by simpa using h⟩

theorem bin_sound (hH : HR base ρ H w) (hF : FR ρ fr a.tmps) {op : BinOp} {t u : TypeId} {x z : Operand} {y q : AOpd} {p : AOp} (ho : o.op = .binOp op t x z u) (hx : absOpd x = some y) (hz : absOpd z = some q)
    (hres : resBin P op t y q = some p) (h : stepA fl H (·.ev fr) p = some (v, H')) : Stepped P o a base ρ w v H' := by
  unfold resBin at hres
  split at hres
  all_goals first
    | (simp only [Option.some.injEq] at hres; subst hres; exact st_bin hH hF ho hx hz h)
    | (rename_i hu; simp only [Option.some.injEq] at hres; subst hres; exact st_eqBool hH hF ho hx hz (by simp) hu h)
    | (rename_i hu; split at hres <;> first | (cases hres; done) | (rename_i hi; simp only [Option.some.injEq] at hres; subst hres; exact st_eqPtr hH hF ho hx hz (by simp) hu hi h))
    | (rename_i hu; simp only [Option.some.injEq] at hres; subst hres; exact st_eqSlice hH hF ho hx hz (by simp) hu h)
    | (cases hres; done)
    | skip
  all_goals
    split at hres
    · rename_i sh hsh hag
      split at hres
      · rename_i hg
        simp only [Option.some.injEq] at hres; subst hres
        exact st_eqAgg hH hF ho hx hz (by simp) hsh hag (by simpa using hg) h
      · cases hres
    · cases hres

theorem conv_sound (hH : HR base ρ H w) (hF : FR ρ fr a.tmps) {s t : TypeId} {x : Operand} {y : AOpd} {p : AOp} (ho : o.op = .convert s t x) (hx : absOpd x = some y)
    (hres : resConv P s t y = some p) (h : stepA fl H (·.ev fr) p = some (v, H')) : Stepped P o a base ρ w v H' := by
  unfold resConv at hres
  split at hres
  · rename_i k0 k hs ht
    simp only [Option.some.injEq] at hres; subst hres
    exact st_convInt hH hF ho hx hs ht h
  · rename_i hs ht
    simp only [Option.some.injEq] at hres; subst hres
    exact st_convStr hH hF ho hx hs ht h
  · rename_i e hs ht
    split at hres
    · rename_i he
      simp only [Option.some.injEq] at hres; subst hres
      exact st_strBytes hH hF ho hx hs ht he h
    · cases hres
  · rename_i e hs ht
    split at hres
    · rename_i he
      simp only [Option.some.injEq] at hres; subst hres
      exact st_bytesStr hH hF ho hx hs ht he h
    · cases hres
  · cases hres

theorem optMap_one {α β : Type} {f : α → Option β} {l : List α} {y : β} (h : optMap f l = some [y]) : ∃ x, l = [x] ∧ f x = some y := by
  cases l with
  | nil => simp [optMap] at h
  | cons x r =>
    simp only [optMap] at h
    split at h
    · rename_i b r' h1 h2
      simp at h
      obtain ⟨rfl, rfl⟩ := h
      cases r with
      | nil => exact ⟨x, rfl, h1⟩
      | cons z r => simp only [optMap] at h2; split at h2 <;> simp at h2
    · cases h

theorem optMap_two {α β : Type} {f : α → Option β} {l : List α} {y q : β} (h : optMap f l = some [y, q]) : ∃ x z, l = [x, z] ∧ f x = some y ∧ f z = some q := by
  cases l with
  | nil => simp [optMap] at h
  | cons x r =>
    simp only [optMap] at h
    split at h
    · rename_i b r' h1 h2
      simp at h
      obtain ⟨rfl, rfl⟩ := h
      obtain ⟨z, rfl, hz⟩ := optMap_one h2
      exact ⟨x, z, rfl, h1, hz⟩
    · cases h

theorem arr_eq {α : Type} {x : Array α} {l : List α} (h : x.toList = l) : x = l.toArray := by rw [← h]

theorem builtin_sound (hH : HR base ρ H w) (hF : FR ρ fr a.tmps) {b : Builtin} {args : Array Operand} {ts : Array TypeId} {as : List AOpd} {p : AOp} (ho : o.op = .call { callee := .builtin b, args := args, argTypes := ts }) (has : optMap absOpd args.toList = some as)
    (hres : resBuiltin P b ts.toList as = some p) (h : stepA fl H (·.ev fr) p = some (v, H')) : Stepped P o a base ρ w v H' := by
  unfold resBuiltin at hres
  split at hres
  · rename_i t x hts
    obtain ⟨xo, hxl, hx⟩ := optMap_one has
    rw [arr_eq hts, arr_eq hxl] at ho
    split at hres
    · rename_i hu
      simp only [Option.some.injEq] at hres; subst hres
      exact st_len hH hF ho hx (.inl ⟨rfl, hu⟩) h
    · rename_i e hu
      simp only [Option.some.injEq] at hres; subst hres
      exact st_len hH hF ho hx (.inr ⟨rfl, e, hu⟩) h
    · rename_i n e hu
      simp only [Option.some.injEq] at hres; subst hres
      exact st_lenK hH ho (.inl hu) h
    · rename_i t' hu
      split at hres
      · rename_i n e hut
        simp only [Option.some.injEq] at hres; subst hres
        exact st_lenK hH ho (.inr ⟨t', hu, hut⟩) h
      · cases hres
    · cases hres
  · rename_i t u s x hts
    obtain ⟨so, xo, hxl, hs, hx⟩ := optMap_two has
    rw [arr_eq hts, arr_eq hxl] at ho
    split at hres
    · rename_i e e' ht hu
      split at hres
      · rename_i z bb hz hb
        simp only [Option.some.injEq] at hres; subst hres
        exact st_append hH hF ho hs hx ht (.inl ⟨_, hu⟩) hz hb h
      · cases hres
    · rename_i e ht hu
      split at hres
      · rename_i z bb hz hb
        simp only [Option.some.injEq] at hres; subst hres
        exact st_append hH hF ho hs hx ht (.inr hu) hz hb h
      · cases hres
    · cases hres
  · rename_i t ts' d s hts
    obtain ⟨do_, so, hxl, hd, hs⟩ := optMap_two has
    rw [arr_eq hxl] at ho
    have hts' : ts = (t :: ts').toArray := arr_eq hts
    rw [hts'] at ho
    simp only [hts, List.headD_cons] at hres
    split at hres
    · rename_i e ht
      split at hres
      · rename_i n hn
        split at hres
        · rename_i hp
          simp only [Option.some.injEq] at hres; subst hres
          exact st_copy hH hF ho hd hs ht hn hp h
        · cases hres
      · cases hres
    · cases hres
  · simp only [Option.some.injEq] at hres; subst hres
    exact st_max hH hF ho has h
  · simp only [Option.some.injEq] at hres; subst hres
    exact st_min hH hF ho has h
  · cases hres

theorem cellsAV_rel : ∀ {l : List AV} {cs : List Cell} {vs : List Value}, cellsAV l = some cs → L2 (VR ρ) l vs → L2 (CR ρ) cs vs
  | [], cs, vs, h, hL => by
    simp [cellsAV] at h; subst h
    have := hL.1
    obtain rfl : vs = [] := List.length_eq_zero_iff.1 (by simpa using this.symm)
    exact L2.nil
  | .agg _ :: _, _, _, h, _ => by simp [cellsAV] at h
  | .tup _ :: _, _, _, h, _ => by simp [cellsAV] at h
  | .clo _ _ :: _, _, _, h, _ => by simp [cellsAV] at h
  | .c c :: r, cs, vs, h, hL => by
    simp only [cellsAV] at h
    split at h
    · rename_i l hl
      simp only [Option.some.injEq] at h; subst h
      cases vs with
      | nil => have := hL.1; simp at this
      | cons u vs =>
        obtain ⟨y, hy, hR⟩ := hL.2 0 (.c c) rfl
        simp at hy; subst hy
        refine L2.cons (cellsAV_rel hl ⟨by have := hL.1; simpa using this, fun i x hx => ?_⟩) hR
        obtain ⟨y, hy, hR⟩ := hL.2 (i + 1) x (by simpa using hx)
        exact ⟨y, by simpa using hy, hR⟩
    · cases h
theorem st_mkClo (hH : HR base ρ H w) (hF : FR ρ fr a.tmps) {f : Nat} {first caps : Array Operand} {cs : List AOpd} (ho : o.op = .makeFunc (.func f) first caps) (hfi : first.size = 0) (hcs : optMap absOpd caps.toList = some cs)
    (h : stepA fl H (·.ev fr) (.mkClo f cs) = some (v, H')) : Stepped P o a base ρ w v H' := by
  simp only [stepA] at h
  obtain ⟨l, hl, e⟩ := map_some h
  simp only [Prod.mk.injEq] at e
  obtain ⟨rfl, rfl⟩ := e
  have hL := cellsAV_rel hl (absOpd_evs (a := a) hF hcs)
  have hfi' : first = #[] := by simpa using hfi
  subst hfi'
  refine Stepped.pure hH (u := .func (.func f) #[] (caps.map a.eval)) ?_ ⟨caps.toList.map a.eval, ?_, hL⟩
  · simp [execOp, ho, Instr.makeFunc]
  · rw [← Array.toList_map]

/-- ALL OPERATIONS THAT CALL NOTHING. -/
theorem step_sound (hH : HR base ρ H w) (hF : FR ρ fr a.tmps) {p : AOp} (hres : resOp P o = some p) (h : stepA fl H (·.ev fr) p = some (v, H')) : Stepped P o a base ρ w v H' := by
  unfold resOp at hres
  split at hres
  case h_1 x ho => obtain ⟨y, hy, rfl⟩ := map_some hres; exact st_mv hH hF (.inl ho) hy h
  case h_2 x ho => obtain ⟨y, hy, rfl⟩ := map_some hres; exact st_mv hH hF (.inr ho) hy h
  case h_3 c x y ho =>
    split at hres
    · rename_i c' x' y' h1 h2 h3
      simp only [Option.some.injEq] at hres; subst hres
      exact st_pick hH hF ho h1 h2 h3 h
    · cases hres
  case h_4 t ho => obtain ⟨z, hz, rfl⟩ := map_some hres; exact st_alloc hH ho hz h
  case h_5 t x ho => obtain ⟨y, hy, rfl⟩ := map_some hres; exact st_box hH hF ho hy h
  case h_6 t ps ho =>
    split at hres
    · rename_i z fs hz hu
      split at hres
      · rename_i pl hpl
        obtain ⟨l, hl, rfl⟩ := map_some hres
        exact st_buildStruct hH hF ho hz hu hpl hl h
      · cases hres
    · rename_i z n e hz hu
      split at hres
      · rename_i m hm
        obtain ⟨l, hl, rfl⟩ := map_some hres
        exact st_buildArray hH hF ho hz hu hm hl h
      · cases hres
    · cases hres
  case h_7 t len ps ho =>
    split at hres
    · rename_i e hu
      split at hres
      · rename_i z hz
        split at hres
        · rename_i hle
          obtain ⟨l, hl, rfl⟩ := map_some hres
          exact st_buildSlice hH hF ho hu hz hle hl h
        · cases hres
      · cases hres
    · cases hres
  case h_8 t x ho =>
    split at hres
    · rename_i n y hag hn hy
      simp only [Option.some.injEq] at hres; subst hres
      exact st_loadN hH hF ho hy hag hn h
    · rename_i y hag hy
      simp only [Option.some.injEq] at hres; subst hres
      exact st_load1 hH hF ho hy hag h
    · cases hres
  case h_9 t x z ho =>
    split at hres
    · rename_i n y q hn hy hq
      simp only [Option.some.injEq] at hres; subst hres
      exact st_store hH hF ho hy hq hn h
    · cases hres
  case h_10 x ho => obtain ⟨y, hy, rfl⟩ := map_some hres; exact st_nilCheck hH hF ho hy h
  case h_11 op t x z u ho =>
    split at hres
    · rename_i y q hy hq
      exact bin_sound hH hF ho hy hq hres h
    · cases hres
  case h_12 op t x ho => obtain ⟨y, hy, rfl⟩ := map_some hres; exact st_un hH hF ho hy h
  case h_13 s t x ho =>
    split at hres
    · rename_i y hy
      exact conv_sound hH hF ho hy hres h
    · cases hres
  case h_14 t x ho =>
    split at hres
    · rename_i n e y hu hy
      simp only [Option.some.injEq] at hres; subst hres
      exact st_arrPtr hH hF ho hy hu h
    · cases hres
  case h_15 t l c ho =>
    split at hres
    · rename_i e y q hu hy hq
      split at hres
      · rename_i z b hz hb
        simp only [Option.some.injEq] at hres; subst hres
        exact st_makeSlice hH hF ho hy hq hu hz hb h
      · cases hres
    · cases hres
  case h_16 t x lo hi ho =>
    split at hres
    · rename_i e y lo' hi' hu hy hlo hhi
      split at hres
      · rename_i z hz
        simp only [Option.some.injEq] at hres; subst hres
        exact st_sliceS hH hF ho hy hlo hhi hu hz h
      · cases hres
    · rename_i y lo' hi' hu hy hlo hhi
      simp only [Option.some.injEq] at hres; subst hres
      exact st_sliceStr hH hF ho hy hlo hhi hu h
    · rename_i n e y lo' hi' hu hy hlo hhi
      split at hres
      · rename_i z hz
        simp only [Option.some.injEq] at hres; subst hres
        exact st_sliceArr hH hF ho hy hlo hhi (.inl hu) hz h
      · cases hres
    · rename_i t' y lo' hi' hu hy hlo hhi
      split at hres
      · rename_i n e hut
        split at hres
        · rename_i z hz
          simp only [Option.some.injEq] at hres; subst hres
          exact st_sliceArr hH hF ho hy hlo hhi (.inr ⟨t', hu, hut⟩) hz h
        · cases hres
      · cases hres
    · cases hres
  case h_17 t x n ho =>
    split at hres
    · rename_i fs y hu hy
      split at hres
      · rename_i fd hf
        split at hres
        · rename_i m hm
          simp only [Option.some.injEq] at hres; subst hres
          exact st_fieldAddr hH hF ho hy hu hf hm h
        · cases hres
      · cases hres
    · cases hres
  case h_18 t x n ho =>
    split at hres
    · rename_i fs y hu hy
      split at hres
      · rename_i fd hf
        split at hres
        · rename_i m hag hm
          simp only [Option.some.injEq] at hres; subst hres
          exact st_fieldN hH hF ho hy hu hf hag hm h
        · rename_i hag
          simp only [Option.some.injEq] at hres; subst hres
          exact st_field1 hH hF ho hy hu hf hag h
        · cases hres
      · cases hres
    · cases hres
  case h_19 t x i ho =>
    split at hres
    · rename_i n e y q hu hy hq
      obtain ⟨z, hz, rfl⟩ := map_some hres
      exact st_idxArr hH hF ho hy hq hu hz h
    · rename_i e y q hu hy hq
      obtain ⟨z, hz, rfl⟩ := map_some hres
      exact st_idxSlc hH hF ho hy hq hu hz h
    · cases hres
  case h_20 t x i ho =>
    split at hres
    · rename_i n e y q hu hy hq
      split at hres
      · rename_i z hag hz
        simp only [Option.some.injEq] at hres; subst hres
        exact st_elemN hH hF ho hy hq hu hag hz h
      · rename_i hag hz
        simp only [Option.some.injEq] at hres; subst hres
        exact st_elem1 hH hF ho hy hq hu hag hz h
      · cases hres
    · rename_i y q hu hy hq
      simp only [Option.some.injEq] at hres; subst hres
      exact st_elemStr hH hF ho hy hq hu h
    · cases hres
  case h_21 x i ho => obtain ⟨y, hy, rfl⟩ := map_some hres; exact st_extract hH hF ho hy h
  case h_22 b args ts ho =>
    split at hres
    · rename_i as has
      exact builtin_sound hH hF ho has hres h
    · cases hres
  case h_23 f args ts ho =>
    split at hres
    · rename_i as has
      unfold resCall at hres
      split at hres
      · simp only [Option.some.injEq] at hres; subst hres; simp [stepA] at h
      · rename_i sub he
        split at hres
        · simp only [Option.some.injEq] at hres; subst hres
          exact st_carry hH hF ho has he h
        · cases hres
    · cases hres
  case h_24 t args ts ho => obtain ⟨as, has, rfl⟩ := map_some hres; simp [stepA] at h
  case h_25 fn first caps ho =>
    unfold resClo at hres
    split at hres
    · split at hres
      · rename_i hfi
        obtain ⟨cs, hcs, rfl⟩ := map_some hres
        exact st_mkClo hH hF ho hfi hcs h
      · cases hres
    · cases hres
  case h_26 => cases hres
end steps
end PAbs

/- Blocks that are numbered before they are made: what is said of them until then, and when they are made. -/
namespace PAbs
open Go Go.RowKit
set_option linter.unusedSimpArgs false
set_option linter.unusedVariables false

section
variable {ρ : List Reg} {B : Nat} {r : Reg} (hB : ρ[B]? = some .future)
include hB
theorem CR.fill {x : Cell} {v : Value} (h : CR ρ x v) : CR (ρ.set B r) x v := by
  cases x
  case ptr b o =>
    by_cases e : B = b
    · subst e; simp only [CR, hB] at h
    · simp only [CR] at h ⊢; rw [List.getElem?_set, if_neg e]; exact h
  case slc b o n sz =>
    by_cases e : B = b
    · subst e; simp only [CR, hB] at h
    · simp only [CR] at h ⊢; rw [List.getElem?_set, if_neg e]; exact h
  all_goals exact h
theorem AggR.fill {x : List Cell} {v : Value} (h : AggR ρ x v) : AggR (ρ.set B r) x v := by
  obtain ⟨l, rfl, hl⟩ := h; exact ⟨l, rfl, hl.mono fun _ _ h => h.fill hB⟩
theorem TR.fill {x : TV} {v : Value} (h : TR ρ x v) : TR (ρ.set B r) x v := by cases x <;> first | exact CR.fill hB h | exact AggR.fill hB h
theorem VR.fill {x : AV} {v : Value} (h : VR ρ x v) : VR (ρ.set B r) x v := by
  cases x with
  | c x => exact CR.fill hB h
  | agg x => exact AggR.fill hB h
  | tup x => obtain ⟨l, rfl, hl⟩ := h; exact ⟨l, rfl, hl.mono fun _ _ h => TR.fill hB h⟩
  | clo f x => obtain ⟨l, rfl, hl⟩ := h; exact ⟨l, rfl, hl.mono fun _ _ h => CR.fill hB h⟩
theorem FR.fill {fr : AFrame} {tmps : Array Value} (h : FR ρ fr tmps) : FR (ρ.set B r) fr tmps := L2.mono h fun _ _ h => VR.fill hB h
theorem Holds.fill {arr : Array Value} {f : Nat} {cs : List Cell} (h : Holds ρ arr f cs) : Holds (ρ.set B r) arr f cs :=
  fun i x hx => by obtain ⟨v, hv, hc⟩ := h i x hx; exact ⟨v, hv, hc.fill hB⟩
theorem BR.fill {base : Nat} {w : World} {q : Reg} {x : Blk} (h : BR base ρ w q x) : BR base (ρ.set B r) w q x := by
  cases q <;> cases x <;> simp only [BR] at h ⊢ <;> first | exact h | skip
  · obtain ⟨h1, h2, arr, ty, fz, h3, h4⟩ := h; exact ⟨h1, h2, arr, ty, fz, h3, h4.fill hB⟩
  · obtain ⟨h1, arr, ty, fz, h3, h4, h5, h6, h7⟩ := h; exact ⟨h1, arr, ty, fz, h3, h4, h5, h6, h7.fill hB⟩
end

section
variable {base : Nat} {ρ : List Reg} {H : AHeap} {w : World}
/-- a number for a block to come -/
theorem HR.fut (h : HR base ρ H w) (z : List Cell) : HR base (ρ ++ [.future]) (H ++ [.own z]) w := by
  have hx := RExt.push ρ [.future]
  refine ⟨by simp [h.len], fun b x r hb hr => ?_, ?_, h.base_le⟩
  · rw [List.getElem?_append] at hb hr
    by_cases hlt : b < H.length
    · rw [if_pos hlt] at hb
      rw [if_pos (by rw [h.len]; exact hlt)] at hr
      exact (h.blk b x r hb hr).ext hx
    · rw [if_neg hlt] at hb
      rw [if_neg (by rw [h.len]; exact hlt), h.len] at hr
      have hb0 : b - H.length = 0 := by
        have := (List.getElem?_eq_some_iff.1 hb).1; simp at this; omega
      rw [hb0] at hb hr
      simp at hb hr
      subst hb hr
      trivial
  · intro b b' cs1 cs2 g f c1 f' c2 hb hb' hr hr'
    rw [List.getElem?_append] at hb hb' hr hr'
    rw [h.len] at hr hr'
    by_cases h1 : b < H.length <;> by_cases h2 : b' < H.length
    · rw [if_pos h1] at hb hr; rw [if_pos h2] at hb' hr'
      exact h.apart _ _ _ _ _ _ _ _ _ hb hb' hr hr'
    · rw [if_neg h2] at hr'
      have h0 : b' - H.length = 0 := by rw [if_neg h2] at hb'; have := (List.getElem?_eq_some_iff.1 hb').1; simp at this; omega
      rw [h0] at hr'; simp at hr'
    · rw [if_neg h1] at hr
      have h0 : b - H.length = 0 := by rw [if_neg h1] at hb; have := (List.getElem?_eq_some_iff.1 hb).1; simp at this; omega
      rw [h0] at hr; simp at hr
    · rw [if_neg h1] at hr
      have h0 : b - H.length = 0 := by rw [if_neg h1] at hb; have := (List.getElem?_eq_some_iff.1 hb).1; simp at this; omega
      rw [h0] at hr; simp at hr
/-- the block is made -/
theorem HR.fill (h : HR base ρ H w) {B : Nat} {z : List Cell} (hr : ρ[B]? = some .future) (hz : H[B]? = some (.own z)) {arr : Array Value} {ty : TypeId} {c : Nat} (hc : c ≤ arr.size) (hl : z.length ≤ c)
    (hh : Holds ρ arr 0 z) : HR base (ρ.set B (.at w.heap.size 0 c)) H (w.alloc (.cells arr ty)) := by
  have hlt : B < ρ.length := (List.getElem?_eq_some_iff.1 hr).1
  refine ⟨by rw [List.length_set]; exact h.len, fun b x r hb hrb => ?_, ?_, by have := h.base_le; simp; omega⟩
  · rw [List.getElem?_set] at hrb
    by_cases e : B = b
    · subst e
      rw [if_pos rfl, if_pos hlt] at hrb
      rw [hz] at hb
      simp at hb hrb
      subst hb hrb
      exact ⟨h.base_le, arr, ty, (0, 0), heap_alloc_new w _, fun o _ h => by omega, by omega, hl, hh.fill hr⟩
    · rw [if_neg e] at hrb
      refine ((h.blk b x r hb hrb).world fun g f c e => ?_).fill hr
      subst e
      exact Below.heap_alloc w _ g (h.blk b x _ hb hrb).lt
  · intro b b' cs1 cs2 g f c1 f' c2 hb hb' hr1 hr2
    rw [List.getElem?_set] at hr1 hr2
    by_cases e : B = b <;> by_cases e' : B = b'
    · omega
    · rw [if_pos e, if_pos hlt] at hr1
      rw [if_neg e'] at hr2
      simp at hr1
      have := (h.blk _ _ _ hb' hr2).lt
      omega
    · rw [if_neg e] at hr1
      rw [if_pos e', if_pos hlt] at hr2
      simp at hr2
      have := (h.blk _ _ _ hb hr1).lt
      omega
    · rw [if_neg e] at hr1
      rw [if_neg e'] at hr2
      exact h.apart _ _ _ _ _ _ _ _ _ hb hb' hr1 hr2
end

/-- an allocation whose block had its number -/
theorem st_fill {P : Program} {o : Oper} {a : Act} {base : Nat} {ρ : List Reg} {H : AHeap} {w : World} (hH : HR base ρ H w) {t : TypeId} {z : List Cell} {B : Nat} (ho : o.op = .alloc t) (hz : zeroA P t = some z) (hr : ρ[B]? = some .future) (hB : H[B]? = some (.own z)) :
    ∃ u w' r, (execOp a.eval o).run P w = .ok (.value u) w' ∧ HR base (ρ.set B r) H w' ∧ VR (ρ.set B r) (.c (.ptr B 0)) u ∧ Below base w w' := by
  obtain ⟨i, zv, hi, hzv, hl, hL⟩ := zeroA_info hz
  have hL := hL ρ
  have hlen : zv.cells.size = z.length := by have := hL.1; simpa using this.symm
  have hlt : B < ρ.length := (List.getElem?_eq_some_iff.1 hr).1
  refine ⟨.pointer (some ⟨w.heap.size, 0, none⟩), w.alloc (.cells zv.cells t), .at w.heap.size 0 z.length, ?_, ?_, ?_, (Below.refl _ _).alloc hH.base_le _⟩
  · simp [execOp, ho, Instr.alloc, run_zeroValue hi hzv, newVar, newRow]
  · exact hH.fill hr hB (by omega) (Nat.le_refl _) fun i x hx => by
      obtain ⟨y, hy, hR⟩ := hL.2 i x hx
      exact ⟨y, by simpa using hy, hR⟩
  · simp only [VR, CR]
    rw [List.getElem?_set, if_pos rfl, if_pos hlt]
end PAbs
