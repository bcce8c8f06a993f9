/- All operations together: what 'resOp' gives is stepped through as the model does. -/
import Derived.Test.YtebccciodmlikaaOps6
namespace PAbs
open Go Go.RowKit
set_option linter.unusedSimpArgs false
set_option linter.unusedVariables false

section steps
variable {P : Program} {o : Oper} {a : Act} {base fl : Nat} {ρ : List Reg} {H H' : AHeap} {w : World} {fr : AFrame} {v : AV}

theorem map_some {α β : Type} {f : α → β} {x : Option α} {y : β} (h : x.map f = some y) : ∃ z, x = some z ∧ f z = y := by
  cases x with
  | none => cases h
  | some z => exact ⟨z, rfl, by simpa using h⟩

theorem bin_sound (hH : HR base ρ H w) (hF : FR ρ fr a.tmps) {op : BinOp} {t u : TypeId} {x z : Operand} {y q : AOpd} {p : AOp} (ho : o.op = .binOp op t x z u) (hx : absOpd x = some y) (hz : absOpd z = some q)
    (hres : resBin P op t y q = some p) (h : stepA fl H (·.ev fr) p = some (v, H')) : Stepped P o a base ρ w v H' := by
  unfold resBin at hres
  split at hres
  all_goals first
    | (simp only [Option.some.injEq] at hres; subst hres; exact st_bin hH hF ho hx hz h)
    | (rename_i hu; simp only [Option.some.injEq] at hres; subst hres; exact st_eqBool hH hF ho hx hz (by simp) hu h)
    | (rename_i hu; simp only [Option.some.injEq] at hres; subst hres; exact st_eqPtr hH hF ho hx hz (by simp) hu h)
    | (rename_i hu; simp only [Option.some.injEq] at hres; subst hres; exact st_eqSlice hH hF ho hx hz (by simp) hu h)
    | (cases hres; done)
    | skip
  all_goals
    split at hres
    · rename_i sh hsh hag
      split at hres
      · rename_i hg
        simp only [Option.some.injEq] at hres; subst hres
        exact st_eqAgg hH hF ho hx hz (by simp) hsh hag (by simpa using hg) h
      · cases hres
    · cases hres

theorem conv_sound (hH : HR base ρ H w) (hF : FR ρ fr a.tmps) {s t : TypeId} {x : Operand} {y : AOpd} {p : AOp} (ho : o.op = .convert s t x) (hx : absOpd x = some y)
    (hres : resConv P s t y = some p) (h : stepA fl H (·.ev fr) p = some (v, H')) : Stepped P o a base ρ w v H' := by
  unfold resConv at hres
  split at hres
  · rename_i k0 k hs ht
    simp only [Option.some.injEq] at hres; subst hres
    exact st_convInt hH hF ho hx hs ht h
  · rename_i hs ht
    simp only [Option.some.injEq] at hres; subst hres
    exact st_convStr hH hF ho hx hs ht h
  · rename_i e hs ht
    split at hres
    · rename_i he
      simp only [Option.some.injEq] at hres; subst hres
      exact st_strBytes hH hF ho hx hs ht he h
    · cases hres
  · rename_i e hs ht
    split at hres
    · rename_i he
      simp only [Option.some.injEq] at hres; subst hres
      exact st_bytesStr hH hF ho hx hs ht he h
    · cases hres
  · cases hres

theorem optMap_one {α β : Type} {f : α → Option β} {l : List α} {y : β} (h : optMap f l = some [y]) : ∃ x, l = [x] ∧ f x = some y := by
  cases l with
  | nil => simp [optMap] at h
  | cons x r =>
    simp only [optMap] at h
    split at h
    · rename_i b r' h1 h2
      simp at h
      obtain ⟨rfl, rfl⟩ := h
      cases r with
      | nil => exact ⟨x, rfl, h1⟩
      | cons z r => simp only [optMap] at h2; split at h2 <;> simp at h2
    · cases h

theorem optMap_two {α β : Type} {f : α → Option β} {l : List α} {y q : β} (h : optMap f l = some [y, q]) : ∃ x z, l = [x, z] ∧ f x = some y ∧ f z = some q := by
  cases l with
  | nil => simp [optMap] at h
  | cons x r =>
    simp only [optMap] at h
    split at h
    · rename_i b r' h1 h2
      simp at h
      obtain ⟨rfl, rfl⟩ := h
      obtain ⟨z, rfl, hz⟩ := optMap_one h2
      exact ⟨x, z, rfl, h1, hz⟩
    · cases h

theorem arr_eq {α : Type} {x : Array α} {l : List α} (h : x.toList = l) : x = l.toArray := by rw [← h]

theorem builtin_sound (hH : HR base ρ H w) (hF : FR ρ fr a.tmps) {b : Builtin} {args : Array Operand} {ts : Array TypeId} {as : List AOpd} {p : AOp} (ho : o.op = .call { callee := .builtin b, args := args, argTypes := ts }) (has : optMap absOpd args.toList = some as)
    (hres : resBuiltin P b ts.toList as = some p) (h : stepA fl H (·.ev fr) p = some (v, H')) : Stepped P o a base ρ w v H' := by
  unfold resBuiltin at hres
  split at hres
  · rename_i t x hts
    obtain ⟨xo, hxl, hx⟩ := optMap_one has
    rw [arr_eq hts, arr_eq hxl] at ho
    split at hres
    · rename_i hu
      simp only [Option.some.injEq] at hres; subst hres
      exact st_len hH hF ho hx (.inl ⟨rfl, hu⟩) h
    · rename_i e hu
      simp only [Option.some.injEq] at hres; subst hres
      exact st_len hH hF ho hx (.inr ⟨rfl, e, hu⟩) h
    · rename_i n e hu
      simp only [Option.some.injEq] at hres; subst hres
      exact st_lenK hH ho (.inl hu) h
    · rename_i t' hu
      split at hres
      · rename_i n e hut
        simp only [Option.some.injEq] at hres; subst hres
        exact st_lenK hH ho (.inr ⟨t', hu, hut⟩) h
      · cases hres
    · cases hres
  · rename_i t u s x hts
    obtain ⟨so, xo, hxl, hs, hx⟩ := optMap_two has
    rw [arr_eq hts, arr_eq hxl] at ho
    split at hres
    · rename_i e e' ht hu
      split at hres
      · rename_i z bb hz hb
        simp only [Option.some.injEq] at hres; subst hres
        exact st_append hH hF ho hs hx ht (.inl ⟨_, hu⟩) hz hb h
      · cases hres
    · rename_i e ht hu
      split at hres
      · rename_i z bb hz hb
        simp only [Option.some.injEq] at hres; subst hres
        exact st_append hH hF ho hs hx ht (.inr hu) hz hb h
      · cases hres
    · cases hres
  · rename_i t ts' d s hts
    obtain ⟨do_, so, hxl, hd, hs⟩ := optMap_two has
    rw [arr_eq hxl] at ho
    have hts' : ts = (t :: ts').toArray := arr_eq hts
    rw [hts'] at ho
    simp only [hts, List.headD_cons] at hres
    split at hres
    · rename_i e ht
      split at hres
      · rename_i n hn
        split at hres
        · rename_i hp
          simp only [Option.some.injEq] at hres; subst hres
          exact st_copy hH hF ho hd hs ht hn hp h
        · cases hres
      · cases hres
    · cases hres
  · simp only [Option.some.injEq] at hres; subst hres
    exact st_max hH hF ho has h
  · simp only [Option.some.injEq] at hres; subst hres
    exact st_min hH hF ho has h
  · cases hres

/-- ALL OPERATIONS THAT CALL NOTHING. -/
theorem step_sound (hH : HR base ρ H w) (hF : FR ρ fr a.tmps) {p : AOp} (hres : resOp P o = some p) (h : stepA fl H (·.ev fr) p = some (v, H')) : Stepped P o a base ρ w v H' := by
  unfold resOp at hres
  split at hres
  case h_1 x ho => obtain ⟨y, hy, rfl⟩ := map_some hres; exact st_mv hH hF (.inl ho) hy h
  case h_2 x ho => obtain ⟨y, hy, rfl⟩ := map_some hres; exact st_mv hH hF (.inr ho) hy h
  case h_3 c x y ho =>
    split at hres
    · rename_i c' x' y' h1 h2 h3
      simp only [Option.some.injEq] at hres; subst hres
      exact st_pick hH hF ho h1 h2 h3 h
    · cases hres
  case h_4 t ho => obtain ⟨z, hz, rfl⟩ := map_some hres; exact st_alloc hH ho hz h
  case h_5 t x ho => obtain ⟨y, hy, rfl⟩ := map_some hres; exact st_box hH hF ho hy h
  case h_6 t ps ho =>
    split at hres
    · rename_i z fs hz hu
      split at hres
      · rename_i pl hpl
        obtain ⟨l, hl, rfl⟩ := map_some hres
        exact st_buildStruct hH hF ho hz hu hpl hl h
      · cases hres
    · rename_i z n e hz hu
      split at hres
      · rename_i m hm
        obtain ⟨l, hl, rfl⟩ := map_some hres
        exact st_buildArray hH hF ho hz hu hm hl h
      · cases hres
    · cases hres
  case h_7 t len ps ho =>
    split at hres
    · rename_i e hu
      split at hres
      · rename_i z hz
        split at hres
        · rename_i hle
          obtain ⟨l, hl, rfl⟩ := map_some hres
          exact st_buildSlice hH hF ho hu hz hle hl h
        · cases hres
      · cases hres
    · cases hres
  case h_8 t x ho =>
    split at hres
    · rename_i n y hag hn hy
      simp only [Option.some.injEq] at hres; subst hres
      exact st_loadN hH hF ho hy hag hn h
    · rename_i y hag hy
      simp only [Option.some.injEq] at hres; subst hres
      exact st_load1 hH hF ho hy hag h
    · cases hres
  case h_9 t x z ho =>
    split at hres
    · rename_i n y q hn hy hq
      simp only [Option.some.injEq] at hres; subst hres
      exact st_store hH hF ho hy hq hn h
    · cases hres
  case h_10 x ho => obtain ⟨y, hy, rfl⟩ := map_some hres; exact st_nilCheck hH hF ho hy h
  case h_11 op t x z u ho =>
    split at hres
    · rename_i y q hy hq
      exact bin_sound hH hF ho hy hq hres h
    · cases hres
  case h_12 op t x ho => obtain ⟨y, hy, rfl⟩ := map_some hres; exact st_un hH hF ho hy h
  case h_13 s t x ho =>
    split at hres
    · rename_i y hy
      exact conv_sound hH hF ho hy hres h
    · cases hres
  case h_14 t x ho =>
    split at hres
    · rename_i n e y hu hy
      simp only [Option.some.injEq] at hres; subst hres
      exact st_arrPtr hH hF ho hy hu h
    · cases hres
  case h_15 t l c ho =>
    split at hres
    · rename_i e y q hu hy hq
      split at hres
      · rename_i z b hz hb
        simp only [Option.some.injEq] at hres; subst hres
        exact st_makeSlice hH hF ho hy hq hu hz hb h
      · cases hres
    · cases hres
  case h_16 t x lo hi ho =>
    split at hres
    · rename_i e y lo' hi' hu hy hlo hhi
      split at hres
      · rename_i z hz
        simp only [Option.some.injEq] at hres; subst hres
        exact st_sliceS hH hF ho hy hlo hhi hu hz h
      · cases hres
    · rename_i y lo' hi' hu hy hlo hhi
      simp only [Option.some.injEq] at hres; subst hres
      exact st_sliceStr hH hF ho hy hlo hhi hu h
    · rename_i n e y lo' hi' hu hy hlo hhi
      split at hres
      · rename_i z hz
        simp only [Option.some.injEq] at hres; subst hres
        exact st_sliceArr hH hF ho hy hlo hhi (.inl hu) hz h
      · cases hres
    · rename_i t' y lo' hi' hu hy hlo hhi
      split at hres
      · rename_i n e hut
        split at hres
        · rename_i z hz
          simp only [Option.some.injEq] at hres; subst hres
          exact st_sliceArr hH hF ho hy hlo hhi (.inr ⟨t', hu, hut⟩) hz h
        · cases hres
      · cases hres
    · cases hres
  case h_17 t x n ho =>
    split at hres
    · rename_i fs y hu hy
      split at hres
      · rename_i fd hf
        split at hres
        · rename_i m hm
          simp only [Option.some.injEq] at hres; subst hres
          exact st_fieldAddr hH hF ho hy hu hf hm h
        · cases hres
      · cases hres
    · cases hres
  case h_18 t x n ho =>
    split at hres
    · rename_i fs y hu hy
      split at hres
      · rename_i fd hf
        split at hres
        · rename_i m hag hm
          simp only [Option.some.injEq] at hres; subst hres
          exact st_fieldN hH hF ho hy hu hf hag hm h
        · rename_i hag
          simp only [Option.some.injEq] at hres; subst hres
          exact st_field1 hH hF ho hy hu hf hag h
        · cases hres
      · cases hres
    · cases hres
  case h_19 t x i ho =>
    split at hres
    · rename_i n e y q hu hy hq
      obtain ⟨z, hz, rfl⟩ := map_some hres
      exact st_idxArr hH hF ho hy hq hu hz h
    · rename_i e y q hu hy hq
      obtain ⟨z, hz, rfl⟩ := map_some hres
      exact st_idxSlc hH hF ho hy hq hu hz h
    · cases hres
  case h_20 t x i ho =>
    split at hres
    · rename_i n e y q hu hy hq
      split at hres
      · rename_i z hag hz
        simp only [Option.some.injEq] at hres; subst hres
        exact st_elemN hH hF ho hy hq hu hag hz h
      · rename_i hag hz
        simp only [Option.some.injEq] at hres; subst hres
        exact st_elem1 hH hF ho hy hq hu hag hz h
      · cases hres
    · rename_i y q hu hy hq
      simp only [Option.some.injEq] at hres; subst hres
      exact st_elemStr hH hF ho hy hq hu h
    · cases hres
  case h_21 x i ho => obtain ⟨y, hy, rfl⟩ := map_some hres; exact st_extract hH hF ho hy h
  case h_22 b args ts ho =>
    split at hres
    · rename_i as has
      exact builtin_sound hH hF ho has hres h
    · cases hres
  case h_23 f args ts ho => obtain ⟨as, has, rfl⟩ := map_some hres; simp [stepA] at h
  case h_24 t args ts ho => obtain ⟨as, has, rfl⟩ := map_some hres; simp [stepA] at h
  case h_25 => cases hres
end steps
end PAbs
