/- BlockBytes: the row. -/
import Derived.Test.YtcjfnnbeflbikaaRows
import Derived.Test.YtcjfnnbeflbikaaG8
import Derived.Test.YtcjfnnbeflbikaaG9
namespace Go.Proofs.Ytcjfnnbeflbikaa.blockBytes
open Go.ChangeShapes Go.WideShapes Go.ChangeAt Go.RowKit PAbs
open Go.ChangeMaps (open_string shut_string)
set_option linter.unusedVariables false
set_option linter.unusedSimpArgs false
set_option maxRecDepth 100000

theorem own : ownKnob Try.prog.godebug = none := by kernel_rfl
theorem laid : laidOutB Try.prog = true := by kernel_rfl

theorem contract (H : Type) (enc : TypeId × Value → H) (W : World) (base : Nat) (args : Array Value) (ds gs : List (DataW H)) (before : List MemPlace)
    (hval : ∀ (j : Nat) t v, Try.f12.params[j]? = some t → args[j]? = some v → Value.okWide Try.prog W .any base t v)
    (hW : DataW.Whole enc Try.prog Try.f12.params.toList Rows.blockBytesSpec.vars false W args.toList ds gs before) :
    Calls Try.prog 12 args W fun e W' => ∃ v, e = .returned v ∧ Rows.blockBytesSpec.post enc Try.prog Try.f12 false true false false W args v W' := by
  have hW' := hW
  obtain ⟨p, q, hA, hV, rfl, hfz, hnd⟩ := hW
  replace hA : DataW.TrodAll enc Try.prog W 0 (fun _ => true) true Try.f12.params.toList args.toList ds p := hA
  rw [Try.params12] at hA hval
  obtain ⟨v0, vs0, d0, ds0, p0, q0, hargs, rfl, rfl, h0, r0⟩ := trodAll_cons hA
  obtain ⟨v1, vs1, d1, ds1, p1, q1, rfl, rfl, rfl, h1, r1⟩ := trodAll_cons r0
  obtain ⟨v2, vs2, d2, ds2, p2, q2, rfl, rfl, rfl, h2, r2⟩ := trodAll_cons r1
  obtain ⟨rfl, rfl, rfl⟩ := trodAll_nil r2
  obtain rfl : args = #[v0, v1, v2] := by cases args; simp_all
  obtain ⟨rfl, rfl⟩ := trodVars_none hV
  obtain ⟨a, l0, m0, hV0⟩ := open_wordsA rfl Try.underlying36 Try.underlying31 (by kernel_rfl) (by kernel_rfl) (hval 0 36 v0 rfl rfl) h0
  obtain ⟨b, rfl, rfl, rfl, m1⟩ := open_string Try.underlying9 (hval 1 9 v1 rfl rfl) h1
  obtain ⟨c, x2, ⟨hx2, rg2, hB2, hV2⟩, m2, l2, hd2⟩ := open_natsA 0 rfl Try.underlying63 Try.underlying31 (by kernel_rfl) (hval 2 63 v2 rfl rfl) h2
  simp only [List.length_map, maxLen] at hx2 l2 m2
  have hw0 : ∀ k, a.getD k 0 < 18446744073709551616 := by
    intro k
    rw [List.getD_eq_getElem?_getD]
    cases hk : a[k]? with
    | none => simp
    | some n =>
      have := m0 n (List.mem_of_getElem? hk)
      simp [IntKind.max, IntKind.signed, IntKind.bits] at this ⊢
      omega
  have hw2 : ∀ k, c.getD k 0 < 18446744073709551616 := by
    intro k
    rw [List.getD_eq_getElem?_getD]
    cases hk : c[k]? with
    | none => simp
    | some n =>
      have := m2 n (List.mem_of_getElem? hk)
      simp [IntKind.max, IntKind.signed, IntKind.bits] at this ⊢
      omega
  have hc := law_calls (P := Try.prog) PK.mixed (PK.AC_BlockBytes a b.data.toList c x2 ⟨l0, hw0⟩ hx2 hw2) (HR.ro1 hB2) (vs := #[v0, .string b, v2]) (((L2.nil.cons (hV2 [rg2] rfl)).cons VR.str').cons (hV0 [rg2]))
  refine hc.mono fun e W' ⟨he, hb⟩ => ?_
  exact ⟨_, he, post_below laid (by kernel_rfl) rfl Try.underlying4 rfl rfl hW' hb⟩

set_option maxRecDepth 100000 in
theorem lifted (os : Os) (started : os.Started) (H : Type) (enc : TypeId × Value → H) :
    ReturnsInHanded {} Try.checked os 12 .any (Rows.blockBytesSpec.pre6 enc Try.prog Try.f12 Rows.blockBytesRow.domain false) (Rows.blockBytesSpec.post enc Try.prog Try.f12 false true false false) := by
  refine returnsInHanded_of_change (C := Try.checked) own started (by kernel_rfl) Try.func12
    (ChangeSpec.witness6 (enc := enc) (C := Try.checked) false ⟨#[], #[.agg (Array.replicate 128 (.int .u64 0)), .string .empty, .slice none 0 0], []⟩ 8 (by kernel_rfl) (by kernel_rfl) (by kernel_rfl) (by kernel_rfl)) ?_
  intro W base args ds gs before hval hW _ _
  exact contract H enc W base args ds gs before hval hW

theorem proved : Rows.BlockBytesSaid :=
  OpenClaim.holds_of_wide 12 Try.f12 rfl rfl rfl rfl rfl rfl rfl ⟨rfl, rfl, rfl, rfl, rfl⟩ rfl rfl rfl rfl rfl (by kernel_rfl) Try.func12 (by kernel_rfl)
    (of_decide_eq_true (by kernel_rfl)) (by unfold Func.isWrapper; first | (rw [if_pos (by decide +kernel)]; kernel_rfl) | (rw [if_neg (by decide +kernel)]; exact ⟨rfl, rfl⟩))
    (fun os started H enc _ => lifted os started H enc)
end Go.Proofs.Ytcjfnnbeflbikaa.blockBytes
