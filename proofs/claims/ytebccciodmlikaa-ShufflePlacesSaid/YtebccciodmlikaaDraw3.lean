/- Statements whose order is open: the theorem itself; and so: a call of the abstract machine is a call of the model. -/
import Derived.Test.YtebccciodmlikaaDraw2
namespace PAbs
open Go Go.RowKit
set_option linter.unusedSimpArgs false
set_option linter.unusedVariables false

theorem optMap_get {α β : Type} {f : α → Option β} : ∀ {l : List α} {r : List β}, optMap f l = some r → l.length = r.length ∧ ∀ (i : Nat) (x : α) (y : β), l[i]? = some x → r[i]? = some y → f x = some y
  | [], r, h => by simp [optMap] at h; subst h; exact ⟨rfl, fun i x y h => by simp at h⟩
  | a :: l, r, h => by
    simp only [optMap] at h
    split at h
    · rename_i b r' h1 h2
      simp only [Option.some.injEq] at h; subst h
      obtain ⟨e, hg⟩ := optMap_get h2
      refine ⟨by simp [e], fun i x y hx hy => ?_⟩
      cases i with
      | zero => simp at hx hy; subst hx hy; exact h1
      | succ i => exact hg i x y (by simpa using hx) (by simpa using hy)
    · cases h

theorem drawWith_spec {lt : Bool} {ops : List Oper} {as : List AOper} {n : Nat} (h : drawWith lt ops as = some n) :
    n ≤ ops.length ∧ (∀ i, n ≤ i → i < ops.length → lightAt lt as i = false → ∀ j, j < i → lightAt lt as j = false → ((aheadA ops []).getD i 0).testBit j = true) ∧
    (∀ i, i < ops.length → ∀ j, j < i → pairOk as (aheadA ops []) i j = true ∧ (n ≤ i ∨ rowOk as (aheadA ops []) i j = true)) ∧
    (∀ i o, ops[i]? = some o → ∀ e ∈ o.after.toList, Region.binds .any e = true → e.on < i) ∧ (∀ ao ∈ as, constOk ao = true) ∧
    (lt = true → ∀ k, n ≤ k → k < ops.length → killsAt as k = false) := by
  unfold drawWith at h
  dsimp only at h
  generalize hn0 : max (tailFrom lt as (aheadA ops []) ops.length) (if lt = true then lastKill as else 0) = n0 at h
  have hmax : tailFrom lt as (aheadA ops []) ops.length ≤ n0 := by rw [← hn0]; exact Nat.le_max_left _ _
  split at h
  · rename_i hc
    simp only [Option.some.injEq] at h
    rw [Bool.and_eq_true, Bool.and_eq_true, Bool.and_eq_true, Bool.and_eq_true] at hc
    obtain ⟨⟨⟨⟨h0, h1⟩, h2⟩, h5⟩, h6⟩ := hc
    rw [List.all_eq_true] at h1 h2 h5
    have h0 := of_decide_eq_true h0
    refine ⟨by rw [← h]; exact h0, fun i hi1 hi2 hli j hj hlj => ?_, fun i hi j hj => ?_, fun i o ho e he hb => ?_, h5, fun hlt k hk1 hk2 => ?_⟩
    · rcases tailFrom_spec lt as (aheadA ops []) ops.length i (by rw [← h] at hi1; exact Nat.le_trans hmax hi1) hi2 with this | this
      · rw [hli] at this; cases this
      · unfold lastOne at this
        rw [List.all_eq_true] at this
        have := this j (List.mem_range.2 hj)
        rw [hlj, Bool.false_or] at this; exact this
    · have := h1 i (List.mem_range.2 hi)
      rw [List.all_eq_true] at this
      have := this j (List.mem_range.2 hj)
      rw [Bool.and_eq_true] at this
      refine ⟨this.1, ?_⟩
      have h3 := this.2
      rw [Bool.or_eq_true] at h3
      rcases h3 with h3 | h3
      · left; rw [← h]; simpa using h3
      · exact .inr h3
    · have hmem : (o, i) ∈ ops.zipIdx := by
        rw [List.mem_zipIdx_iff_getElem?]; exact ho
      have := h2 (o, i) hmem
      simp only at this
      rw [Array.all_eq_true_iff_forall_mem] at this
      have := this e (by simpa using he)
      simp only [hb, Bool.not_true, Bool.false_or, decide_eq_true_eq] at this
      exact this
    · rw [hlt, Bool.not_true, Bool.false_or, List.all_eq_true] at h6
      have := h6 k (List.mem_range.2 hk2)
      rw [Bool.or_eq_true] at this
      rcases this with this | this
      · have : k < n := by rw [← h]; simpa using this
        omega
      · simpa using this
  · cases h
theorem drawOk_spec {ops : List Oper} {as : List AOper} {n : Nat} (h : drawOk ops as = some n) : ∃ lt, drawWith lt ops as = some n := by
  unfold drawOk at h
  split at h
  · rename_i m hm
    split at h
    · split at h
      · rename_i m' hm'
        simp only [Option.some.injEq] at h; subst h; exact ⟨true, hm'⟩
      · simp only [Option.some.injEq] at h; subst h; exact ⟨false, hm⟩
    · simp only [Option.some.injEq] at h; subst h; exact ⟨false, hm⟩
  · exact ⟨true, h⟩

section
variable {P : Program} {call : ACall}

theorem draw_sound (hm : P.follows .mixedOrders = true) (hc : CallSpec P call) (hk : KeptSpec call) : DrawSpec P call := by
  intro id ops as n base fl fr fr1 fr' H H1 H' ρ0 a0 w0 has hdr hH0 hF0 hhead htail Q hQ
  obtain ⟨lt, hdr⟩ := drawOk_spec hdr
  obtain ⟨hn, htl, hpr, hedge, hconst, htame⟩ := drawWith_spec hdr
  obtain ⟨hlen, hget⟩ := optMap_get has
  obtain ⟨F, G, V, hT, hFz, hGz, hFe, hGe⟩ := trace_ex as n fr fr1 fr' H H1 H' hhead htail
  obtain ⟨N, hN⟩ : ∃ N, N = ops.size := ⟨_, rfl⟩
  have hNl : ops.toList.length = N := by simp [hN]
  have hNa : as.length = N := by rw [← hlen, hNl]
  have hasGet : ∀ i, i < N → ∃ o ao, ops[i]? = some o ∧ ops.toList[i]? = some o ∧ as[i]? = some ao ∧ resOper P ops.toList o = some ao := fun i hi => by
    have h1 : i < ops.toList.length := by omega
    have h2 : i < as.length := by omega
    refine ⟨ops.toList[i], as[i], ?_, List.getElem?_eq_getElem h1, List.getElem?_eq_getElem h2, hget i _ _ (List.getElem?_eq_getElem h1) (List.getElem?_eq_getElem h2)⟩
    simp
  -- the makers, and what lies behind the head
  let mk : Nat → Prop := fun k => (n ≤ k ∧ lightAt lt as k = false) ∨ ∃ ao, as[k]? = some ao ∧ ao.op.makes = true
  have mkHeavy : ∀ k, mk k → lightAt lt as k = false := fun k hk => by
    rcases hk with h | ⟨ao, h1, h2⟩
    · exact h.2
    · cases hl : lightAt lt as k with
      | false => rfl
      | true =>
        unfold lightAt at hl
        rw [h1, Bool.and_eq_true] at hl
        have := light_makes hl.2
        rw [h2] at this; cases this
  have still : ∀ k, k < N → ¬ mk k → G (k + 1) = G k := fun k hkN hnm => by
    obtain ⟨o, ao, _, _, hao, _⟩ := hasGet k hkN
    have hmf : ao.op.makes = false := by
      cases hb : ao.op.makes with
      | false => rfl
      | true => exact absurd (.inr ⟨ao, hao, hb⟩) hnm
    rcases (hT.step k ao hao).1 with ⟨_, hx⟩ | ⟨_, _, hx⟩
    · have hx' : stepA (if k < n then (G k).length else fl) (G k) (·.ev (F k)) ao.op = some (V k, G (k + 1)) := by
        cases hop : ao.op <;> rw [hop] at hx hmf <;> first | exact hx | (simp [AOp.makes] at hmf)
      exact (look_sub (fl' := 0) (H2 := G k) hmf (fun _ _ _ _ _ h => h) hx').1
    · exact hx
  have stillTo : ∀ j i, j ≤ i → i ≤ N → (∀ k, j ≤ k → k < i → ¬ mk k) → G i = G j := fun j i hji hiN hno => by
    induction i with
    | zero => have : j = 0 := by omega
              subst this; rfl
    | succ i ih =>
      by_cases he : j = i + 1
      · subst he; rfl
      · rw [still i (by omega) (hno i (by omega) (by omega))]
        exact ih (by omega) (by omega) fun k h1 h2 => hno k h1 (by omega)
  have headGrow : ∀ p q, p ≤ q → q ≤ n → (G p).length ≤ (G q).length ∧ ∀ b, b < (G p).length → (G q)[b]? = (G p)[b]? := fun p q hpq hqn => by
    induction q with
    | zero => have : p = 0 := by omega
              subst this; exact ⟨Nat.le_refl _, fun _ _ => rfl⟩
    | succ q ih =>
      by_cases he : p = q + 1
      · subst he; exact ⟨Nat.le_refl _, fun _ _ => rfl⟩
      · obtain ⟨g1, g2⟩ := ih (by omega) (by omega)
        have hqN : q < N := by omega
        obtain ⟨o, ao, _, _, hao, _⟩ := hasGet q hqN
        have hkq : Kept (G q).length (G q) (G (q + 1)) := by
          rcases (hT.step q ao hao).1 with ⟨_, hx⟩ | ⟨_, _, hx⟩
          · rw [if_pos (by omega)] at hx; exact execA_kept hk hx
          · rw [hx]; exact Kept.refl _ _
        exact ⟨Nat.le_trans g1 hkq.1, fun b hb => (hkq.2 b (by omega) (by omega)).trans (g2 b hb)⟩
  -- no block dies, where light ones may go late
  have aliveStep : lt = true → ∀ q, q < N → (G q).length ≤ (G (q + 1)).length ∧ ∀ b, b < (G q).length → (hcells (G (q + 1)) b).isSome = (hcells (G q) b).isSome := fun hlt q hqN => by
    rcases Nat.lt_or_ge q n with hqn | hqn
    · obtain ⟨g1, g2⟩ := headGrow q (q + 1) (by omega) (by omega)
      exact ⟨g1, fun b hb => by simp only [hcells, g2 b hb]⟩
    · obtain ⟨o, ao, _, _, hao, _⟩ := hasGet q hqN
      have hkl : ao.op.kills = false := by
        have := htame hlt q hqn (by omega)
        unfold killsAt at this
        rw [hao] at this; exact this
      rcases (hT.step q ao hao).1 with ⟨_, hx⟩ | ⟨_, _, hx⟩
      · have hx' : stepA (if q < n then (G q).length else fl) (G q) (·.ev (F q)) ao.op = some (V q, G (q + 1)) := by
          cases hop : ao.op <;> rw [hop] at hx hkl <;> first | exact hx | (simp [AOp.kills] at hkl)
        exact step_alive hkl hx'
      · rw [hx]; exact ⟨Nat.le_refl _, fun _ _ => rfl⟩
  have aliveGrow : lt = true → ∀ p q, p ≤ q → q ≤ N → (G p).length ≤ (G q).length ∧ ∀ b, b < (G p).length → (hcells (G q) b).isSome = (hcells (G p) b).isSome := fun hlt p q hpq hqN => by
    induction q with
    | zero => have : p = 0 := by omega
              subst this; exact ⟨Nat.le_refl _, fun _ _ => rfl⟩
    | succ q ih =>
      by_cases he : p = q + 1
      · subst he; exact ⟨Nat.le_refl _, fun _ _ => rfl⟩
      · obtain ⟨g1, g2⟩ := ih (by omega) (by omega)
        obtain ⟨k1, k2⟩ := aliveStep hlt q (by omega)
        exact ⟨Nat.le_trans g1 k1, fun b hb => by rw [k2 b (by omega), g2 b hb]⟩
  -- the invariant
  have main : ∀ (fuel : Nat) (listed : Array Bool) (a : Act) (w : World) (j : Nat) (ρ : List Reg), listed.size = N →
      (∀ i o, ops.toList[i]? = some o → listed.getD i false = true → ∀ e ∈ o.after.toList, Region.binds .any e = true → listed.getD e.on false = true) →
      (List.range N).countP (fun i => !listed.getD i false) ≤ fuel → j ≤ N → (j ≤ n ∨ ∃ k, n ≤ k ∧ k < j ∧ mk k) → (∀ k, k < N → mk k → (listed.getD k false = true ↔ k < j)) →
      HR base ρ (G j) w → FR ρ (foldF as V (fun k => listed.getD k false) fr N) a.tmps → RExt ρ0 ρ → Below base w0 w → a.defers = a0.defers →
      wpAny P .any ops Q fuel listed a w := by
    intro fuel
    induction fuel with
    | zero =>
      intro listed a w j ρ hsz hcl hcnt hj hjj hmk hH hF hx hB hd
      have hall : ∀ i, i < N → listed.getD i false = true := fun i hi => by
        cases hb : listed.getD i false with
        | true => rfl
        | false =>
          have : 0 < (List.range N).countP (fun i => !listed.getD i false) := List.countP_pos_iff.2 ⟨i, List.mem_range.2 hi, by simp only [hb]; rfl⟩
          omega
      refine ⟨?_, ?_⟩
      · unfold Region.ready
        rw [List.filter_eq_nil_iff]
        intro i hi
        have hi' : i < N := by simpa [hN] using hi
        have h1 := hall i hi'
        have h2 : listed.getD i true = true := by
          rw [Array.getD_eq_getD_getElem?] at h1 ⊢
          have : i < listed.size := by omega
          rw [Array.getElem?_eq_getElem this] at h1 ⊢
          exact h1
        simp [h2]
      · refine hQ a w ⟨ρ, ?_, ?_, hx, hB, hd⟩
        · rw [← hGe, hNa]
          have := stillTo j N hj (Nat.le_refl _) fun k h1 h2 hmk' => by
            have := (hmk k h2 hmk').1 (hall k h2); omega
          rw [this]; exact hH
        · rw [← hFe, hNa, trace_F hT hFz N (by omega) N (Nat.le_refl _)]
          have : foldF as V (fun k => decide (k < N)) fr N = foldF as V (fun k => listed.getD k false) fr N := by
            apply List.ext_getElem?
            intro s
            exact foldF_slot N fun k hk _ => by rw [hall k hk]; simpa using hk
          rw [this]; exact hF
    | succ fuel ih =>
      intro listed a w j ρ hsz hcl hcnt hj hjj hmk hH hF hx hB hd
      have hD : ∀ i, i < N → listed.getD i true = listed.getD i false := fun i hi => by
        rw [Array.getD_eq_getD_getElem?, Array.getD_eq_getD_getElem?, Array.getElem?_eq_getElem (by omega : i < listed.size)]; rfl
      refine ⟨fun hnil => ?_, fun i hi => ?_⟩
      · -- nothing is ready: all is listed
        have hall : ∀ i, i < N → listed.getD i false = true := by
          intro i
          induction i using Nat.strongRecOn with
          | _ i ihi =>
            intro hi
            cases hb : listed.getD i false with
            | true => rfl
            | false =>
              obtain ⟨o, ao, ho, hol, _, _⟩ := hasGet i hi
              have : i ∈ Region.ready .any ops listed := by
                unfold Region.ready
                rw [List.mem_filter]
                refine ⟨by simpa [hN] using hi, ?_⟩
                rw [hD i hi, hb, ho]
                simp only [Bool.not_false, Bool.true_and, Option.map_some, Option.getD_some]
                rw [Array.all_eq_true_iff_forall_mem]
                intro e he
                cases hbd : Region.binds .any e with
                | false => rfl
                | true =>
                  have hlt := hedge i o hol e (by simpa using he) hbd
                  simp only [Bool.not_true, Bool.false_or]
                  exact ihi e.on hlt (by omega)
              rw [hnil] at this
              cases this
        refine hQ a w ⟨ρ, ?_, ?_, hx, hB, hd⟩
        · rw [← hGe, hNa]
          have := stillTo j N hj (Nat.le_refl _) fun k h1 h2 hmk' => by
            have := (hmk k h2 hmk').1 (hall k h2); omega
          rw [this]; exact hH
        · rw [← hFe, hNa, trace_F hT hFz N (by omega) N (Nat.le_refl _)]
          have : foldF as V (fun k => decide (k < N)) fr N = foldF as V (fun k => listed.getD k false) fr N := by
            apply List.ext_getElem?
            intro s
            exact foldF_slot N fun k hk _ => by rw [hall k hk]; simpa using hk
          rw [this]; exact hF
      · -- operation i goes next
        unfold Region.ready at hi
        rw [List.mem_filter] at hi
        obtain ⟨hi1, hi2⟩ := hi
        have hiN : i < N := by simpa [hN] using hi1
        obtain ⟨o, ao, ho, hol, hao, hres⟩ := hasGet i hiN
        rw [ho, hD i hiN] at hi2
        simp only [Option.map_some, Option.getD_some, Bool.and_eq_true, Bool.not_eq_true'] at hi2
        obtain ⟨hun, hedges⟩ := hi2
        have hedges' : ∀ e ∈ o.after.toList, Region.binds .any e = true → listed.getD e.on false = true := fun e he hb => by
          rw [Array.all_eq_true_iff_forall_mem] at hedges
          have := hedges e (by simpa using he)
          simpa [hb] using this
        have hahead : ∀ k, ((aheadA ops.toList []).getD i 0).testBit k = true → listed.getD k false = true := ahead_closed (S := fun k => listed.getD k false) hcl i o hol hedges'
        have hbehind : ∀ k, i < k → k < N → ((aheadA ops.toList []).getD k 0).testBit i = true → listed.getD k false = false := fun k hik hkN hbit => by
          cases hb : listed.getD k false with
          | false => rfl
          | true =>
            obtain ⟨ok, _, _, hokl, _, _⟩ := hasGet k hkN
            have := ahead_closed (S := fun k => listed.getD k false) hcl k ok hokl (hcl k ok hokl hb) i hbit
            rw [hun] at this; cases this
        -- who writes what i names
        have writers : ∀ s, s ∈ ao.names → ∀ k, k < N → dstAt as k = some s → k ≠ i → listed.getD k false = decide (k < i) := fun s hs k hkN hdk hne => by
          obtain ⟨ok, aok, _, _, haok, _⟩ := hasGet k hkN
          have hdk' : aok.dst = some s := by simpa [dstAt, haok] using hdk
          rcases Nat.lt_or_ge k i with hlt | hge
          · have hp := (hpr i (by omega) k hlt).1
            unfold pairOk at hp
            simp only [hao, haok, hdk'] at hp
            have hc' : ao.names.contains s = true := by simpa using hs
            simp only [hc', Bool.not_true, Bool.and_false, Bool.false_or] at hp
            rw [hahead k hp]; simpa using hlt
          · have hlt : i < k := by omega
            have hp := (hpr k (by omega) i hlt).1
            unfold pairOk at hp
            simp only [hao, haok, hdk'] at hp
            have hc' : ao.names.contains s = true := by simpa using hs
            simp only [hc', Bool.not_true, Bool.false_and, Bool.false_or] at hp
            rw [hbehind k hlt hkN hp]
            symm; simp; omega
        have hslot : ∀ s, s ∈ ao.sees → (foldF as V (fun k => listed.getD k false) fr N)[s]? = (F i)[s]? := fun s hs => by
          rw [trace_F hT hFz i (by omega) N (by omega)]
          refine foldF_slot N fun k hkN hdk => ?_
          by_cases hki : k = i
          · subst hki; rw [hun]; simp
          · exact writers s (by simp [AOper.names, hs]) k hkN hdk hki
        have hev : ∀ x ∈ ao.op.opds, x.ev (foldF as V (fun k => listed.getD k false) fr N) = x.ev (F i) := fun x hxm => ev_same fun t ht => by
          refine hslot t ?_
          subst ht
          simp only [AOper.sees, List.mem_append, List.mem_filterMap]
          exact .inl ⟨_, hxm, rfl⟩
        have hwant : wantedA (foldF as V (fun k => listed.getD k false) fr N) ao.guard = wantedA (F i) ao.guard := by
          unfold wantedA
          cases hg : ao.guard with
          | none => rfl
          | some g =>
            obtain ⟨t, want⟩ := g
            simp only
            rw [hslot t (by simp [AOper.sees, hg])]
        obtain ⟨hop, hdst⟩ := resOper_parts hres
        have hdi : dstAt as i = ao.dst := by simp [dstAt, hao]
        -- behind it
        have hsz' : (listed.setIfInBounds i true).size = N := by simp [hsz]
        have hl' : ∀ k, (listed.setIfInBounds i true).getD k false = if k = i then true else listed.getD k false := fun k => by
          simp only [Array.getD_eq_getD_getElem?, Array.getElem?_setIfInBounds]
          by_cases hki : i = k
          · subst hki; simp [hsz, hiN]
          · rw [if_neg hki, if_neg (fun e => hki e.symm)]
        have hcl' : ∀ k ok, ops.toList[k]? = some ok → (listed.setIfInBounds i true).getD k false = true → ∀ e ∈ ok.after.toList, Region.binds .any e = true → (listed.setIfInBounds i true).getD e.on false = true := fun k ok hok hlk e he hb => by
          rw [hl'] at hlk ⊢
          by_cases hei : e.on = i
          · rw [if_pos hei]
          · rw [if_neg hei]
            by_cases hki : k = i
            · subst hki
              rw [hol] at hok
              have : o = ok := by simpa using hok
              subst this
              exact hedges' e he hb
            · rw [if_neg hki] at hlk
              exact hcl k ok hok hlk e he hb
        have hcnt' : (List.range N).countP (fun k => !(listed.setIfInBounds i true).getD k false) ≤ fuel := by
          have := countP_lt (p := fun k => !listed.getD k false) (q := fun k => !(listed.setIfInBounds i true).getD k false) (i := i) (l := List.range N) (fun x _ hq => by
            rw [hl'] at hq
            by_cases hxi : x = i
            · rw [if_pos hxi] at hq; cases hq
            · rw [if_neg hxi] at hq; exact hq) (List.mem_range.2 hiN) (by simp only [hun]; rfl) (by simp only [hl']; simp)
          omega
        have hfold : foldF as V (fun k => (listed.setIfInBounds i true).getD k false) fr N = putA (foldF as V (fun k => listed.getD k false) fr N) ao.dst (V i) := by
          rw [← hdi, ← foldF_add (m := fun k => listed.getD k false) hiN fun d k hd hik hkN hdk => by
            have hmem : d ∈ ao.names := by
              rw [hdi] at hd
              simp [AOper.names, hd]
            rw [writers d hmem k hkN hdk (by omega)]
            simp; omega]
          congr 1
          funext k
          exact hl' k
        -- where the heap stands
        have hmkahead : mk i → ∀ k, k < i → mk k → listed.getD k false = true := fun hmi k hki hmk' => by
          by_cases hni : n ≤ i
          · exact hahead k (htl i hni (by omega) (mkHeavy i hmi) k hki (mkHeavy k hmk'))
          · have hk1 : ∃ aok, as[k]? = some aok ∧ aok.op.makes = true := by
              rcases hmk' with h | h
              · omega
              · exact h
            have hi1 : ∃ aoi, as[i]? = some aoi ∧ aoi.op.makes = true := by
              rcases hmi with h | h
              · omega
              · exact h
            obtain ⟨aok, hk1, hk2⟩ := hk1
            obtain ⟨aoi, hi1, hi2⟩ := hi1
            rcases (hpr i (by omega) k hki).2 with h | h
            · omega
            · unfold rowOk at h
              simp only [hi1, hk1, hi2, hk2, Bool.and_self, Bool.not_true, Bool.false_or] at h
              exact hahead k h
        have hji : mk i → j ≤ i := fun hmi => by
          rcases Nat.lt_or_ge i j with h | h
          · have := (hmk i hiN hmi).2 h
            rw [hun] at this; cases this
          · exact h
        have hGi : mk i → G i = G j := fun hmi => stillTo j i (hji hmi) (by omega) fun k h1 h2 hmk' => by
          have := (hmk k (by omega) hmk').1 (hmkahead hmi k h2 hmk'); omega
        have hjn : ¬ mk i → lightAt lt as i = false → j ≤ n ∧ i < n := fun hnm hli => by
          have hin : i < n := by
            rcases Nat.lt_or_ge i n with h | h
            · exact h
            · exact absurd (.inl ⟨h, hli⟩) hnm
          refine ⟨?_, hin⟩
          rcases hjj with h | ⟨m, hm1, hm2, hm3⟩
          · exact h
          · have hmN : m < N := by omega
            have hln := (hmk m hmN hm3).2 hm2
            obtain ⟨on, _, _, honl, _, _⟩ := hasGet m hmN
            have := ahead_closed (S := fun k => listed.getD k false) hcl m on honl (hcl m on honl hln) i (htl m hm1 (by omega) (mkHeavy m hm3) i (by omega) hli)
            rw [hun] at this; cases this
        -- go on
        have goon : ∀ (u : Value) (w' : World) (ρ' : List Reg) (j' : Nat), j' ≤ N → (j' ≤ n ∨ ∃ k, n ≤ k ∧ k < j' ∧ mk k) → (∀ k, k < N → mk k → ((listed.setIfInBounds i true).getD k false = true ↔ k < j')) → HR base ρ' (G j') w' → RExt ρ ρ' → VR ρ' (V i) u → Below base w w' →
            wpAny P .any ops Q fuel (listed.setIfInBounds i true) (a.put o.dst u) w' := fun u w' ρ' j' hj' hjj' hmk' hH' hx' hv hB' => by
          refine ih _ _ w' j' ρ' hsz' hcl' hcnt' hj' hjj' hmk' hH' ?_ (hx.trans hx') (hB.trans hB') ((Act.defers_put _ _ _).trans hd)
          rw [hfold, ← hdst]
          exact (hF.ext hx').put _ hv
        have hjNew : mk i → (i + 1 ≤ n ∨ ∃ k, n ≤ k ∧ k < i + 1 ∧ mk k) := fun hmi => by
          rcases Nat.lt_or_ge i n with h | h
          · exact .inl h
          · exact .inr ⟨i, h, by omega, hmi⟩
        have hmkNew : mk i → ∀ k, k < N → mk k → ((listed.setIfInBounds i true).getD k false = true ↔ k < i + 1) := fun hmi k hkN hmk' => by
          rw [hl']
          by_cases hki : k = i
          · subst hki; simp
          · rw [if_neg hki, hmk k hkN hmk']
            have h1 := hji hmi
            constructor
            · intro h; omega
            · intro h
              exact (hmk k hkN hmk').1 (hmkahead hmi k (by omega) hmk')
        have hmkOld : ¬ mk i → ∀ k, k < N → mk k → ((listed.setIfInBounds i true).getD k false = true ↔ k < j) := fun hnm k hkN hmk' => by
          rw [hl']
          by_cases hki : k = i
          · subst hki; exact absurd hmk' hnm
          · rw [if_neg hki, hmk k hkN hmk']
        unfold wpOp
        simp only [ho]
        rw [wanted_same hF hres, hwant]
        rcases (hT.step i ao hao).1 with ⟨hw, hex⟩ | ⟨hw, hV, hGs⟩
        · rw [if_pos hw]
          refine .inl ?_
          by_cases hmi : mk i
          · have hex' : execA call (if i < n then (G i).length else fl) (foldF as V (fun k => listed.getD k false) fr N) (G j) ao.op = some (V i, G (i + 1)) := by
              rw [execA_congr ao.op hev, ← hGi hmi]; exact hex
            exact exec_sound hc hop hH hF hex' fun u w' ρ' h1 h2 h3 h4 => goon u w' ρ' (i + 1) (by omega) (hjNew hmi) (hmkNew hmi) h1 h2 h3 h4
          · have hmf : ao.op.makes = false := by
              cases hb : ao.op.makes with
              | false => rfl
              | true => exact absurd (.inr ⟨ao, hao, hb⟩) hmi
            have toStep : ∀ {fl0 : Nat} {f0 : AFrame} {H0 : AHeap}, execA call fl0 f0 H0 ao.op = stepA fl0 H0 (·.ev f0) ao.op := fun {fl0 f0 H0} => by
              cases hop' : ao.op <;> rw [hop'] at hmf <;> first | rfl | (simp [AOp.makes] at hmf)
            rw [toStep] at hex
            have hbj' : ∀ x ∈ ao.op.opds, ∀ b ∈ (x.ev (F i)).blks, b < (G j).length := fun x hxm b hb => by
                rw [← hev x hxm] at hb
                have hbρ : b < ρ.length := by
                  have hv : ∃ u, VR ρ (x.ev (foldF as V (fun k => listed.getD k false) fr N)) u := by
                    cases x with
                    | t t => exact ⟨_, hF.getD t⟩
                    | k v =>
                      exfalso
                      have hcst := hconst ao (List.mem_of_getElem? hao)
                      unfold constOk at hcst
                      rw [List.all_eq_true] at hcst
                      have hcst := hcst _ hxm
                      simp only [AOpd.ev] at hb
                      cases v with
                      | agg _ => simp [AV.blks] at hb
                      | tup _ => simp [AV.blks] at hb
                      | c q => cases q <;> simp [AV.blks] at hb <;> simp at hcst
                  obtain ⟨u, hv⟩ := hv
                  generalize x.ev (foldF as V (fun k => listed.getD k false) fr N) = y at hb hv
                  cases y with
                  | agg _ => simp [AV.blks] at hb
                  | tup _ => simp [AV.blks] at hb
                  | c q =>
                    cases q <;> simp [AV.blks] at hb <;> subst hb
                    · simp only [VR, CR] at hv
                      split at hv <;> first | exact hv.elim | (rename_i hr; exact (List.getElem?_eq_some_iff.1 hr).1) | (rename_i hr1 hr2; cases hq : ρ[b]? with | none => (rw [hq] at hv; exact hv.elim) | some _ => exact (List.getElem?_eq_some_iff.1 hq).1)
                    · simp only [VR, CR] at hv
                      split at hv <;> first | exact hv.elim | (rename_i hr; exact (List.getElem?_eq_some_iff.1 hr).1)
                rw [← hH.len]; exact hbρ
            have key : G (i + 1) = G i ∧ stepA fl (G j) (·.ev (F i)) ao.op = some (V i, G j) := by
              cases hli : lightAt lt as i with
              | true =>
                unfold lightAt at hli
                rw [hao, Bool.and_eq_true] at hli
                obtain ⟨hlt, hlight⟩ := hli
                refine light_sub (fl' := fl) (H2 := G j) hlight (fun x hxm b hb hal => ?_) hex
                have hbj := hbj' x hxm b hb
                have hbi : b < (G i).length := by
                  cases hc' : hcells (G i) b with
                  | none => rw [hc'] at hal; cases hal
                  | some cs => rcases hcells_some hc' with h | h <;> exact (List.getElem?_eq_some_iff.1 h).1
                rcases Nat.le_total i j with h | h
                · rw [(aliveGrow hlt i j h hj).2 b hbi]; exact hal
                · rw [← (aliveGrow hlt j i h (by omega)).2 b hbj]; exact hal
              | false =>
                obtain ⟨hjn1, hin⟩ := hjn hmi hli
                refine look_sub (fl' := fl) (H2 := G j) hmf (fun x hxm b hb cs hcs => ?_) hex
                have hbj := hbj' x hxm b hb
                have hbi : b < (G i).length := by
                  rcases hcells_some hcs with h | h <;> exact (List.getElem?_eq_some_iff.1 h).1
                have : (G j)[b]? = (G i)[b]? := by
                  rcases Nat.le_total i j with h | h
                  · exact (headGrow i j h hjn1).2 b hbi
                  · exact ((headGrow j i h (by omega)).2 b hbj).symm
                unfold hcells at hcs ⊢
                rw [this]; exact hcs
            obtain ⟨hGs, hex2⟩ := key
            have hex' : execA call fl (foldF as V (fun k => listed.getD k false) fr N) (G j) ao.op = some (V i, G j) := by
              rw [execA_congr ao.op hev, toStep]; exact hex2
            exact exec_sound hc hop hH hF hex' fun u w' ρ' h1 h2 h3 h4 => goon u w' ρ' j hj hjj (hmkOld hmi) h1 h2 h3 h4
        · rw [if_neg (by rw [hw]; simp)]
          have hvu : VR ρ (V i) undef := by rw [hV]; exact VR.undef ρ
          by_cases hmi : mk i
          · exact goon undef w ρ (i + 1) (by omega) (hjNew hmi) (hmkNew hmi) (by rw [hGs, hGi hmi]; exact hH) (RExt.refl ρ) hvu (Below.refl _ _)
          · exact goon undef w ρ j hj hjj (hmkOld hmi) hH (RExt.refl ρ) hvu (Below.refl _ _)
  refine wp_region_any hm ?_
  refine main _ _ a0 w0.drew 0 ρ0 (by simp [hN]) (fun i o _ hl => ?_) ?_ (Nat.zero_le _) (.inl (Nat.zero_le _)) (fun k hk _ => ?_) (by rw [hGz]; exact hH0.drew) ?_ (RExt.refl ρ0) (Below.refl _ _).drew rfl
  · rw [Array.getD_eq_getD_getElem?, Array.getElem?_replicate] at hl
    split at hl <;> simp at hl
  · exact Nat.le_trans (List.countP_le_length) (by simp [hN])
  · rw [Array.getD_eq_getD_getElem?, Array.getElem?_replicate]
    split <;> simp
  · have : foldF as V (fun k => (Array.replicate ops.size false).getD k false) fr N = fr := by
      have h0 : ∀ M, foldF as V (fun k => (Array.replicate ops.size false).getD k false) fr M = fr := by
        intro M
        induction M with
        | zero => rfl
        | succ M ih =>
          simp only [foldF]
          rw [if_neg, ih]
          rw [Array.getD_eq_getD_getElem?, Array.getElem?_replicate]
          split <;> simp
      exact h0 N
    rw [this]; exact hF0
end
end PAbs
