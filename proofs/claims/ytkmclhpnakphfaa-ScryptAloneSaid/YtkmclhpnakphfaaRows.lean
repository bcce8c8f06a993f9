/-
  No cell of these rows narrows 'for every input' (looked for: loops, veiled, ifaces, maps, wideKeys, modest, calm, conditions, laid).
  DERIVED. THE GIVEN ROWS OF THIS SEAT. 4 by the template 'for every input the law returns true; each argument reads behind the call as it read before'; 0 by the template 'total and deterministic' (their statements: YtkmclhpnakphfaaTotals.lean).
  GIVEN WITH THE SEED: the statements are not yours to turn. If you find one false, say at which input.
  Laid BY PROGRAM, IN A SANDBOX (cutbox-rows.mjs): the forced cells as the released guide's own fill.sh prints them over the translation efda6f5d45f979be… (all of the seat's roots in one cut). By AI agents, Wed Nov 11 2026. No macro, syntax, notation, axiom, sorry.
-/
import Derived.Test.YtkmclhpnakphfaaChecked
import GoSem.Claim
import GoSem.ClaimJoined
import GoSem.ClaimMapViews
import Derived.JoinedTies
import Derived.KernelRfl
namespace Go.Proofs.Ytkmclhpnakphfaa
/- THE CELL 'sum', in the pinned program and in every row, IS THE sha256 OF THE DUMP (.gsa) THAT YtkmclhpnakphfaaProg.lean LOADS. Nothing in Lean hashes anything: it is a label: what it is worth is what the hold of that sum in a sandbox is worth. -/
noncomputable def Try.pinned : Pinned := { name := "ytkmclhpnakphfaa", sum := "efda6f5d45f979be787d04d95bbdedbbb20fd121d2b750a06d69591054a302f1", checked := Try.checked }
namespace Rows
def none {H : Type} : Left H := { results := [], args := [] }

/-- 'pestlelaw24.RomixMixes': WHATEVER THE INPUT: true; the input reads as it did. -/
def romixMixesSpec : ChangeSpec := { name := "romixMixes", fn := fun _ => fun
  | [d1, d2, d3, d4, d5, d6] => { results := [.lit (.bool true)], args := [d1, d2, d3, d4, d5, d6] }
  | _ => none }
def romixMixesRow : OpenClaim := { program := "ytkmclhpnakphfaa", sum := "efda6f5d45f979be787d04d95bbdedbbb20fd121d2b750a06d69591054a302f1", func := "pestle/pestlelaw24.RomixMixes", spec := "romixMixes", apart := false }
def RomixMixesSaid : Prop := romixMixesRow.holds Try.pinned (OpenSpec.ofChange romixMixesSpec)

/-- ITS FALSE NEIGHBOUR: 'it returns false'. Refute it at one input. -/
def romixMixesWrong : ChangeSpec := { name := "romixMixes", fn := fun _ => fun
  | [d1, d2, d3, d4, d5, d6] => { results := [.lit (.bool false)], args := [d1, d2, d3, d4, d5, d6] }
  | _ => none }
def RomixMixesWrongFalsely : Prop := romixMixesRow.holds Try.pinned (OpenSpec.ofChange romixMixesWrong)

/-- 'pestlelaw24.RomixRows': WHATEVER THE INPUT: true; the input reads as it did. -/
def romixRowsSpec : ChangeSpec := { name := "romixRows", fn := fun _ => fun
  | [d1, d2, d3, d4, d5] => { results := [.lit (.bool true)], args := [d1, d2, d3, d4, d5] }
  | _ => none }
def romixRowsRow : OpenClaim := { program := "ytkmclhpnakphfaa", sum := "efda6f5d45f979be787d04d95bbdedbbb20fd121d2b750a06d69591054a302f1", func := "pestle/pestlelaw24.RomixRows", spec := "romixRows", apart := false }
def RomixRowsSaid : Prop := romixRowsRow.holds Try.pinned (OpenSpec.ofChange romixRowsSpec)

/-- ITS FALSE NEIGHBOUR: 'it returns false'. Refute it at one input. -/
def romixRowsWrong : ChangeSpec := { name := "romixRows", fn := fun _ => fun
  | [d1, d2, d3, d4, d5] => { results := [.lit (.bool false)], args := [d1, d2, d3, d4, d5] }
  | _ => none }
def RomixRowsWrongFalsely : Prop := romixRowsRow.holds Try.pinned (OpenSpec.ofChange romixRowsWrong)

/-- 'pestlelaw25.ScryptNeeds': WHATEVER THE INPUT: true; the input reads as it did. -/
def scryptNeedsSpec : ChangeSpec := { name := "scryptNeeds", fn := fun _ => fun
  | [d1, d2, d3, d4] => { results := [.lit (.bool true)], args := [d1, d2, d3, d4] }
  | _ => none }
def scryptNeedsRow : OpenClaim := { program := "ytkmclhpnakphfaa", sum := "efda6f5d45f979be787d04d95bbdedbbb20fd121d2b750a06d69591054a302f1", func := "pestle/pestlelaw25.ScryptNeeds", spec := "scryptNeeds", unfollowed := true, recurses := true, apart := false }
def ScryptNeedsSaid : Prop := scryptNeedsRow.holds Try.pinned (OpenSpec.ofChange scryptNeedsSpec)

/-- ITS FALSE NEIGHBOUR: 'it returns false'. Refute it at one input. -/
def scryptNeedsWrong : ChangeSpec := { name := "scryptNeeds", fn := fun _ => fun
  | [d1, d2, d3, d4] => { results := [.lit (.bool false)], args := [d1, d2, d3, d4] }
  | _ => none }
def ScryptNeedsWrongFalsely : Prop := scryptNeedsRow.holds Try.pinned (OpenSpec.ofChange scryptNeedsWrong)

/-- 'pestlelaw25.ScryptAlone': WHATEVER THE INPUT: true; the input reads as it did. -/
def scryptAloneSpec : ChangeSpec := { name := "scryptAlone", fn := fun _ => fun
  | [d1, d2, d3, d4, d5, d6, d7] => { results := [.lit (.bool true)], args := [d1, d2, d3, d4, d5, d6, d7] }
  | _ => none }
def scryptAloneRow : OpenClaim := { program := "ytkmclhpnakphfaa", sum := "efda6f5d45f979be787d04d95bbdedbbb20fd121d2b750a06d69591054a302f1", func := "pestle/pestlelaw25.ScryptAlone", spec := "scryptAlone", unfollowed := true, recurses := true, apart := false }
def ScryptAloneSaid : Prop := scryptAloneRow.holds Try.pinned (OpenSpec.ofChange scryptAloneSpec)

/-- ITS FALSE NEIGHBOUR: 'it returns false'. Refute it at one input. -/
def scryptAloneWrong : ChangeSpec := { name := "scryptAlone", fn := fun _ => fun
  | [d1, d2, d3, d4, d5, d6, d7] => { results := [.lit (.bool false)], args := [d1, d2, d3, d4, d5, d6, d7] }
  | _ => none }
def ScryptAloneWrongFalsely : Prop := scryptAloneRow.holds Try.pinned (OpenSpec.ofChange scryptAloneWrong)

/- THE SECOND FORM. 'bulk': how many values and letters a reading holds, each counted each time it is reached (what is shared counts as often as it is met; a slice's spare places count too). A statement '..UptoSaid' is the law's where the arguments, and the package variables that the reading takes, are together of bulk at most 1048576: NARROWER than '..Said'. Prove '..Said' where nothing that the law and all that it calls make is longer than what came in: it says more and counts as full. Else prove '..UptoSaid'. A law counts once. -/
mutual
def uptoBulk {H : Type} : DataW H → Nat
  | .lit (.string bytes) => bytes.length + 1
  | .lit _ => 1
  | .nil => 1
  | .ptr d => uptoBulk d + 1
  | .slice elems spare => uptoBulkAll elems + uptoBulkAll spare + 1
  | .agg parts => uptoBulkAll parts + 1
  | .iface _ d => uptoBulk d + 1
  | .map entries => uptoBulkEntries entries + 1
  | .held _ => 1
def uptoBulkAll {H : Type} : List (DataW H) → Nat
  | [] => 0
  | d :: r => uptoBulk d + uptoBulkAll r
def uptoBulkEntries {H : Type} : List (Lit × DataW H) → Nat
  | [] => 0
  | x :: r => uptoBulkEntry x + uptoBulkEntries r
def uptoBulkEntry {H : Type} : Lit × DataW H → Nat
  | (.string bytes, d) => bytes.length + uptoBulk d + 1
  | (_, d) => uptoBulk d + 1
 end
def uptoSmall : (H : Type) → List (DataW H) → Bool := fun _ ds => decide (uptoBulkAll ds ≤ 1048576)
def OpenSpec.upto (s : _root_.Go.ChangeSpec) : _root_.Go.OpenSpec := { _root_.Go.OpenSpec.ofChange s with cond := some uptoSmall }

/-- 'pestlelaw24.RomixMixes', WHERE WHAT IT READS IS OF BULK AT MOST 1048576: true; the input reads as it did. -/
def romixMixesUptoRow : OpenClaim := { program := "ytkmclhpnakphfaa", sum := "efda6f5d45f979be787d04d95bbdedbbb20fd121d2b750a06d69591054a302f1", func := "pestle/pestlelaw24.RomixMixes", spec := "romixMixes", apart := false, narrowed := true }
def RomixMixesUptoSaid : Prop := romixMixesUptoRow.holds Try.pinned (OpenSpec.upto romixMixesSpec)

/-- 'pestlelaw24.RomixRows', WHERE WHAT IT READS IS OF BULK AT MOST 1048576: true; the input reads as it did. -/
def romixRowsUptoRow : OpenClaim := { program := "ytkmclhpnakphfaa", sum := "efda6f5d45f979be787d04d95bbdedbbb20fd121d2b750a06d69591054a302f1", func := "pestle/pestlelaw24.RomixRows", spec := "romixRows", apart := false, narrowed := true }
def RomixRowsUptoSaid : Prop := romixRowsUptoRow.holds Try.pinned (OpenSpec.upto romixRowsSpec)

/-- 'pestlelaw25.ScryptNeeds', WHERE WHAT IT READS IS OF BULK AT MOST 1048576: true; the input reads as it did. -/
def scryptNeedsUptoRow : OpenClaim := { program := "ytkmclhpnakphfaa", sum := "efda6f5d45f979be787d04d95bbdedbbb20fd121d2b750a06d69591054a302f1", func := "pestle/pestlelaw25.ScryptNeeds", spec := "scryptNeeds", unfollowed := true, recurses := true, apart := false, narrowed := true }
def ScryptNeedsUptoSaid : Prop := scryptNeedsUptoRow.holds Try.pinned (OpenSpec.upto scryptNeedsSpec)

/-- 'pestlelaw25.ScryptAlone', WHERE WHAT IT READS IS OF BULK AT MOST 1048576: true; the input reads as it did. -/
def scryptAloneUptoRow : OpenClaim := { program := "ytkmclhpnakphfaa", sum := "efda6f5d45f979be787d04d95bbdedbbb20fd121d2b750a06d69591054a302f1", func := "pestle/pestlelaw25.ScryptAlone", spec := "scryptAlone", unfollowed := true, recurses := true, apart := false, narrowed := true }
def ScryptAloneUptoSaid : Prop := scryptAloneUptoRow.holds Try.pinned (OpenSpec.upto scryptAloneSpec)

end Rows
end Go.Proofs.Ytkmclhpnakphfaa
