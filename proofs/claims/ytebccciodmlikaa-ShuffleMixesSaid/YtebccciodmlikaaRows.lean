/-
  No cell of these rows narrows 'for every input' (looked for: loops, veiled, ifaces, maps, wideKeys, modest, calm, conditions, laid).
  DERIVED. THE GIVEN ROWS OF THIS SEAT. 12 by the template 'for every input the law returns true; each argument reads behind the call as it read before'; 0 by the template 'total and deterministic' (their statements: YtebccciodmlikaaTotals.lean).
  GIVEN WITH THE SEED: the statements are not yours to turn. If you find one false, say at which input.
  Laid BY PROGRAM, IN A SANDBOX (cutbox-rows.mjs): the forced cells as the released guide's own fill.sh prints them over the translation e9379025ac11c884… (all of the seat's roots in one cut). By AI agents, Wed Nov 11 2026. No macro, syntax, notation, axiom, sorry.
-/
import Derived.Test.YtebccciodmlikaaChecked
import GoSem.Claim
import GoSem.ClaimJoined
import GoSem.ClaimMapViews
import Derived.JoinedTies
import Derived.KernelRfl
namespace Go.Proofs.Ytebccciodmlikaa
/- THE CELL 'sum', in the pinned program and in every row, IS THE sha256 OF THE DUMP (.gsa) THAT YtebccciodmlikaaProg.lean LOADS. Nothing in Lean hashes anything: it is a label: what it is worth is what the hold of that sum in a sandbox is worth. -/
noncomputable def Try.pinned : Pinned := { name := "ytebccciodmlikaa", sum := "e9379025ac11c8846cce6ece043722a5096f266eaf88f8e34ef59c5596976862", checked := Try.checked }
namespace Rows
def none {H : Type} : Left H := { results := [], args := [] }

/-- 'pestlelaw04.FeedParts': WHATEVER THE INPUT: true; the input reads as it did. -/
def feedPartsSpec : ChangeSpec := { name := "feedParts", fn := fun _ => fun
  | [d1, d2, d3] => { results := [.lit (.bool true)], args := [d1, d2, d3] }
  | _ => none }
def feedPartsRow : OpenClaim := { program := "ytebccciodmlikaa", sum := "e9379025ac11c8846cce6ece043722a5096f266eaf88f8e34ef59c5596976862", func := "pestle/pestlelaw04.FeedParts", spec := "feedParts", apart := false }
def FeedPartsSaid : Prop := feedPartsRow.holds Try.pinned (OpenSpec.ofChange feedPartsSpec)

/-- ITS FALSE NEIGHBOUR: 'it returns false'. Refute it at one input. -/
def feedPartsWrong : ChangeSpec := { name := "feedParts", fn := fun _ => fun
  | [d1, d2, d3] => { results := [.lit (.bool false)], args := [d1, d2, d3] }
  | _ => none }
def FeedPartsWrongFalsely : Prop := feedPartsRow.holds Try.pinned (OpenSpec.ofChange feedPartsWrong)

/-- 'pestlelaw12.SalsaQuarters': WHATEVER THE INPUT: true; the input reads as it did. -/
def salsaQuartersSpec : ChangeSpec := { name := "salsaQuarters", fn := fun _ => fun
  | [d] => { results := [.lit (.bool true)], args := [d] }
  | _ => none }
def salsaQuartersRow : OpenClaim := { program := "ytebccciodmlikaa", sum := "e9379025ac11c8846cce6ece043722a5096f266eaf88f8e34ef59c5596976862", func := "pestle/pestlelaw12.SalsaQuarters", spec := "salsaQuarters", apart := false }
def SalsaQuartersSaid : Prop := salsaQuartersRow.holds Try.pinned (OpenSpec.ofChange salsaQuartersSpec)

/-- ITS FALSE NEIGHBOUR: 'it returns false'. Refute it at one input. -/
def salsaQuartersWrong : ChangeSpec := { name := "salsaQuarters", fn := fun _ => fun
  | [d] => { results := [.lit (.bool false)], args := [d] }
  | _ => none }
def SalsaQuartersWrongFalsely : Prop := salsaQuartersRow.holds Try.pinned (OpenSpec.ofChange salsaQuartersWrong)

/-- 'pestlelaw12.SalsaCores': WHATEVER THE INPUT: true; the input reads as it did. -/
def salsaCoresSpec : ChangeSpec := { name := "salsaCores", fn := fun _ => fun
  | [d1, d2] => { results := [.lit (.bool true)], args := [d1, d2] }
  | _ => none }
def salsaCoresRow : OpenClaim := { program := "ytebccciodmlikaa", sum := "e9379025ac11c8846cce6ece043722a5096f266eaf88f8e34ef59c5596976862", func := "pestle/pestlelaw12.SalsaCores", spec := "salsaCores", apart := false }
def SalsaCoresSaid : Prop := salsaCoresRow.holds Try.pinned (OpenSpec.ofChange salsaCoresSpec)

/-- ITS FALSE NEIGHBOUR: 'it returns false'. Refute it at one input. -/
def salsaCoresWrong : ChangeSpec := { name := "salsaCores", fn := fun _ => fun
  | [d1, d2] => { results := [.lit (.bool false)], args := [d1, d2] }
  | _ => none }
def SalsaCoresWrongFalsely : Prop := salsaCoresRow.holds Try.pinned (OpenSpec.ofChange salsaCoresWrong)

/-- 'pestlelaw04.FeedBlocks': WHATEVER THE INPUT: true; the input reads as it did. -/
def feedBlocksSpec : ChangeSpec := { name := "feedBlocks", fn := fun _ => fun
  | [d1, d2, d3] => { results := [.lit (.bool true)], args := [d1, d2, d3] }
  | _ => none }
def feedBlocksRow : OpenClaim := { program := "ytebccciodmlikaa", sum := "e9379025ac11c8846cce6ece043722a5096f266eaf88f8e34ef59c5596976862", func := "pestle/pestlelaw04.FeedBlocks", spec := "feedBlocks", apart := false }
def FeedBlocksSaid : Prop := feedBlocksRow.holds Try.pinned (OpenSpec.ofChange feedBlocksSpec)

/-- ITS FALSE NEIGHBOUR: 'it returns false'. Refute it at one input. -/
def feedBlocksWrong : ChangeSpec := { name := "feedBlocks", fn := fun _ => fun
  | [d1, d2, d3] => { results := [.lit (.bool false)], args := [d1, d2, d3] }
  | _ => none }
def FeedBlocksWrongFalsely : Prop := feedBlocksRow.holds Try.pinned (OpenSpec.ofChange feedBlocksWrong)

/-- 'pestlelaw04.FeedCopies': WHATEVER THE INPUT: true; the input reads as it did. -/
def feedCopiesSpec : ChangeSpec := { name := "feedCopies", fn := fun _ => fun
  | [d1, d2, d3, d4] => { results := [.lit (.bool true)], args := [d1, d2, d3, d4] }
  | _ => none }
def feedCopiesRow : OpenClaim := { program := "ytebccciodmlikaa", sum := "e9379025ac11c8846cce6ece043722a5096f266eaf88f8e34ef59c5596976862", func := "pestle/pestlelaw04.FeedCopies", spec := "feedCopies", apart := false }
def FeedCopiesSaid : Prop := feedCopiesRow.holds Try.pinned (OpenSpec.ofChange feedCopiesSpec)

/-- ITS FALSE NEIGHBOUR: 'it returns false'. Refute it at one input. -/
def feedCopiesWrong : ChangeSpec := { name := "feedCopies", fn := fun _ => fun
  | [d1, d2, d3, d4] => { results := [.lit (.bool false)], args := [d1, d2, d3, d4] }
  | _ => none }
def FeedCopiesWrongFalsely : Prop := feedCopiesRow.holds Try.pinned (OpenSpec.ofChange feedCopiesWrong)

/-- 'pestlelaw47.SaltsDraw': WHATEVER THE INPUT: true; the input reads as it did. -/
def saltsDrawSpec : ChangeSpec := { name := "saltsDraw", fn := fun _ => fun
  | [d1, d2] => { results := [.lit (.bool true)], args := [d1, d2] }
  | _ => none }
def saltsDrawRow : OpenClaim := { program := "ytebccciodmlikaa", sum := "e9379025ac11c8846cce6ece043722a5096f266eaf88f8e34ef59c5596976862", func := "pestle/pestlelaw47.SaltsDraw", spec := "saltsDraw", apart := false }
def SaltsDrawSaid : Prop := saltsDrawRow.holds Try.pinned (OpenSpec.ofChange saltsDrawSpec)

/-- ITS FALSE NEIGHBOUR: 'it returns false'. Refute it at one input. -/
def saltsDrawWrong : ChangeSpec := { name := "saltsDraw", fn := fun _ => fun
  | [d1, d2] => { results := [.lit (.bool false)], args := [d1, d2] }
  | _ => none }
def SaltsDrawWrongFalsely : Prop := saltsDrawRow.holds Try.pinned (OpenSpec.ofChange saltsDrawWrong)

/-- 'pestlelaw47.SaltsLeft': WHATEVER THE INPUT: true; the input reads as it did. -/
def saltsLeftSpec : ChangeSpec := { name := "saltsLeft", fn := fun _ => fun
  | [d1, d2] => { results := [.lit (.bool true)], args := [d1, d2] }
  | _ => none }
def saltsLeftRow : OpenClaim := { program := "ytebccciodmlikaa", sum := "e9379025ac11c8846cce6ece043722a5096f266eaf88f8e34ef59c5596976862", func := "pestle/pestlelaw47.SaltsLeft", spec := "saltsLeft", apart := false }
def SaltsLeftSaid : Prop := saltsLeftRow.holds Try.pinned (OpenSpec.ofChange saltsLeftSpec)

/-- ITS FALSE NEIGHBOUR: 'it returns false'. Refute it at one input. -/
def saltsLeftWrong : ChangeSpec := { name := "saltsLeft", fn := fun _ => fun
  | [d1, d2] => { results := [.lit (.bool false)], args := [d1, d2] }
  | _ => none }
def SaltsLeftWrongFalsely : Prop := saltsLeftRow.holds Try.pinned (OpenSpec.ofChange saltsLeftWrong)

/-- 'pestlelaw12.SalsaBytes': WHATEVER THE INPUT: true; the input reads as it did. -/
def salsaBytesSpec : ChangeSpec := { name := "salsaBytes", fn := fun _ => fun
  | [d] => { results := [.lit (.bool true)], args := [d] }
  | _ => none }
def salsaBytesRow : OpenClaim := { program := "ytebccciodmlikaa", sum := "e9379025ac11c8846cce6ece043722a5096f266eaf88f8e34ef59c5596976862", func := "pestle/pestlelaw12.SalsaBytes", spec := "salsaBytes", unfollowed := true, recurses := true, apart := false }
def SalsaBytesSaid : Prop := salsaBytesRow.holds Try.pinned (OpenSpec.ofChange salsaBytesSpec)

/-- ITS FALSE NEIGHBOUR: 'it returns false'. Refute it at one input. -/
def salsaBytesWrong : ChangeSpec := { name := "salsaBytes", fn := fun _ => fun
  | [d] => { results := [.lit (.bool false)], args := [d] }
  | _ => none }
def SalsaBytesWrongFalsely : Prop := salsaBytesRow.holds Try.pinned (OpenSpec.ofChange salsaBytesWrong)

/-- 'pestlelaw23.ShufflePlaces': WHATEVER THE INPUT: true; the input reads as it did. -/
def shufflePlacesSpec : ChangeSpec := { name := "shufflePlaces", fn := fun _ => fun
  | [d] => { results := [.lit (.bool true)], args := [d] }
  | _ => none }
def shufflePlacesRow : OpenClaim := { program := "ytebccciodmlikaa", sum := "e9379025ac11c8846cce6ece043722a5096f266eaf88f8e34ef59c5596976862", func := "pestle/pestlelaw23.ShufflePlaces", spec := "shufflePlaces", apart := false }
def ShufflePlacesSaid : Prop := shufflePlacesRow.holds Try.pinned (OpenSpec.ofChange shufflePlacesSpec)

/-- ITS FALSE NEIGHBOUR: 'it returns false'. Refute it at one input. -/
def shufflePlacesWrong : ChangeSpec := { name := "shufflePlaces", fn := fun _ => fun
  | [d] => { results := [.lit (.bool false)], args := [d] }
  | _ => none }
def ShufflePlacesWrongFalsely : Prop := shufflePlacesRow.holds Try.pinned (OpenSpec.ofChange shufflePlacesWrong)

/-- 'pestlelaw56.LedgerNotes': WHATEVER THE INPUT: true; the input reads as it did. -/
def ledgerNotesSpec : ChangeSpec := { name := "ledgerNotes", fn := fun _ => fun
  | [d1, d2, d3, d4] => { results := [.lit (.bool true)], args := [d1, d2, d3, d4] }
  | _ => none }
def ledgerNotesRow : OpenClaim := { program := "ytebccciodmlikaa", sum := "e9379025ac11c8846cce6ece043722a5096f266eaf88f8e34ef59c5596976862", func := "pestle/pestlelaw56.LedgerNotes", spec := "ledgerNotes", apart := false }
def LedgerNotesSaid : Prop := ledgerNotesRow.holds Try.pinned (OpenSpec.ofChange ledgerNotesSpec)

/-- ITS FALSE NEIGHBOUR: 'it returns false'. Refute it at one input. -/
def ledgerNotesWrong : ChangeSpec := { name := "ledgerNotes", fn := fun _ => fun
  | [d1, d2, d3, d4] => { results := [.lit (.bool false)], args := [d1, d2, d3, d4] }
  | _ => none }
def LedgerNotesWrongFalsely : Prop := ledgerNotesRow.holds Try.pinned (OpenSpec.ofChange ledgerNotesWrong)

/-- 'pestlelaw56.LedgerJoins': WHATEVER THE INPUT: true; the input reads as it did. -/
def ledgerJoinsSpec : ChangeSpec := { name := "ledgerJoins", fn := fun _ => fun
  | [d1, d2, d3] => { results := [.lit (.bool true)], args := [d1, d2, d3] }
  | _ => none }
def ledgerJoinsRow : OpenClaim := { program := "ytebccciodmlikaa", sum := "e9379025ac11c8846cce6ece043722a5096f266eaf88f8e34ef59c5596976862", func := "pestle/pestlelaw56.LedgerJoins", spec := "ledgerJoins", apart := false }
def LedgerJoinsSaid : Prop := ledgerJoinsRow.holds Try.pinned (OpenSpec.ofChange ledgerJoinsSpec)

/-- ITS FALSE NEIGHBOUR: 'it returns false'. Refute it at one input. -/
def ledgerJoinsWrong : ChangeSpec := { name := "ledgerJoins", fn := fun _ => fun
  | [d1, d2, d3] => { results := [.lit (.bool false)], args := [d1, d2, d3] }
  | _ => none }
def LedgerJoinsWrongFalsely : Prop := ledgerJoinsRow.holds Try.pinned (OpenSpec.ofChange ledgerJoinsWrong)

/-- 'pestlelaw23.ShuffleMixes': WHATEVER THE INPUT: true; the input reads as it did. -/
def shuffleMixesSpec : ChangeSpec := { name := "shuffleMixes", fn := fun _ => fun
  | [d1, d2] => { results := [.lit (.bool true)], args := [d1, d2] }
  | _ => none }
def shuffleMixesRow : OpenClaim := { program := "ytebccciodmlikaa", sum := "e9379025ac11c8846cce6ece043722a5096f266eaf88f8e34ef59c5596976862", func := "pestle/pestlelaw23.ShuffleMixes", spec := "shuffleMixes", apart := false }
def ShuffleMixesSaid : Prop := shuffleMixesRow.holds Try.pinned (OpenSpec.ofChange shuffleMixesSpec)

/-- ITS FALSE NEIGHBOUR: 'it returns false'. Refute it at one input. -/
def shuffleMixesWrong : ChangeSpec := { name := "shuffleMixes", fn := fun _ => fun
  | [d1, d2] => { results := [.lit (.bool false)], args := [d1, d2] }
  | _ => none }
def ShuffleMixesWrongFalsely : Prop := shuffleMixesRow.holds Try.pinned (OpenSpec.ofChange shuffleMixesWrong)

/- THE SECOND FORM. 'bulk': how many values and letters a reading holds, each counted each time it is reached (what is shared counts as often as it is met; a slice's spare places count too). A statement '..UptoSaid' is the law's where the arguments, and the package variables that the reading takes, are together of bulk at most 1048576: NARROWER than '..Said'. Prove '..Said' where nothing that the law and all that it calls make is longer than what came in: it says more and counts as full. Else prove '..UptoSaid'. A law counts once. -/
mutual
def uptoBulk {H : Type} : DataW H → Nat
  | .lit (.string bytes) => bytes.length + 1
  | .lit _ => 1
  | .nil => 1
  | .ptr d => uptoBulk d + 1
  | .slice elems spare => uptoBulkAll elems + uptoBulkAll spare + 1
  | .agg parts => uptoBulkAll parts + 1
  | .iface _ d => uptoBulk d + 1
  | .map entries => uptoBulkEntries entries + 1
  | .held _ => 1
def uptoBulkAll {H : Type} : List (DataW H) → Nat
  | [] => 0
  | d :: r => uptoBulk d + uptoBulkAll r
def uptoBulkEntries {H : Type} : List (Lit × DataW H) → Nat
  | [] => 0
  | x :: r => uptoBulkEntry x + uptoBulkEntries r
def uptoBulkEntry {H : Type} : Lit × DataW H → Nat
  | (.string bytes, d) => bytes.length + uptoBulk d + 1
  | (_, d) => uptoBulk d + 1
 end
def uptoSmall : (H : Type) → List (DataW H) → Bool := fun _ ds => decide (uptoBulkAll ds ≤ 1048576)
def OpenSpec.upto (s : _root_.Go.ChangeSpec) : _root_.Go.OpenSpec := { _root_.Go.OpenSpec.ofChange s with cond := some uptoSmall }

/-- 'pestlelaw04.FeedParts', WHERE WHAT IT READS IS OF BULK AT MOST 1048576: true; the input reads as it did. -/
def feedPartsUptoRow : OpenClaim := { program := "ytebccciodmlikaa", sum := "e9379025ac11c8846cce6ece043722a5096f266eaf88f8e34ef59c5596976862", func := "pestle/pestlelaw04.FeedParts", spec := "feedParts", apart := false, narrowed := true }
def FeedPartsUptoSaid : Prop := feedPartsUptoRow.holds Try.pinned (OpenSpec.upto feedPartsSpec)

/-- 'pestlelaw12.SalsaQuarters', WHERE WHAT IT READS IS OF BULK AT MOST 1048576: true; the input reads as it did. -/
def salsaQuartersUptoRow : OpenClaim := { program := "ytebccciodmlikaa", sum := "e9379025ac11c8846cce6ece043722a5096f266eaf88f8e34ef59c5596976862", func := "pestle/pestlelaw12.SalsaQuarters", spec := "salsaQuarters", apart := false, narrowed := true }
def SalsaQuartersUptoSaid : Prop := salsaQuartersUptoRow.holds Try.pinned (OpenSpec.upto salsaQuartersSpec)

/-- 'pestlelaw12.SalsaCores', WHERE WHAT IT READS IS OF BULK AT MOST 1048576: true; the input reads as it did. -/
def salsaCoresUptoRow : OpenClaim := { program := "ytebccciodmlikaa", sum := "e9379025ac11c8846cce6ece043722a5096f266eaf88f8e34ef59c5596976862", func := "pestle/pestlelaw12.SalsaCores", spec := "salsaCores", apart := false, narrowed := true }
def SalsaCoresUptoSaid : Prop := salsaCoresUptoRow.holds Try.pinned (OpenSpec.upto salsaCoresSpec)

/-- 'pestlelaw04.FeedBlocks', WHERE WHAT IT READS IS OF BULK AT MOST 1048576: true; the input reads as it did. -/
def feedBlocksUptoRow : OpenClaim := { program := "ytebccciodmlikaa", sum := "e9379025ac11c8846cce6ece043722a5096f266eaf88f8e34ef59c5596976862", func := "pestle/pestlelaw04.FeedBlocks", spec := "feedBlocks", apart := false, narrowed := true }
def FeedBlocksUptoSaid : Prop := feedBlocksUptoRow.holds Try.pinned (OpenSpec.upto feedBlocksSpec)

/-- 'pestlelaw04.FeedCopies', WHERE WHAT IT READS IS OF BULK AT MOST 1048576: true; the input reads as it did. -/
def feedCopiesUptoRow : OpenClaim := { program := "ytebccciodmlikaa", sum := "e9379025ac11c8846cce6ece043722a5096f266eaf88f8e34ef59c5596976862", func := "pestle/pestlelaw04.FeedCopies", spec := "feedCopies", apart := false, narrowed := true }
def FeedCopiesUptoSaid : Prop := feedCopiesUptoRow.holds Try.pinned (OpenSpec.upto feedCopiesSpec)

/-- 'pestlelaw47.SaltsDraw', WHERE WHAT IT READS IS OF BULK AT MOST 1048576: true; the input reads as it did. -/
def saltsDrawUptoRow : OpenClaim := { program := "ytebccciodmlikaa", sum := "e9379025ac11c8846cce6ece043722a5096f266eaf88f8e34ef59c5596976862", func := "pestle/pestlelaw47.SaltsDraw", spec := "saltsDraw", apart := false, narrowed := true }
def SaltsDrawUptoSaid : Prop := saltsDrawUptoRow.holds Try.pinned (OpenSpec.upto saltsDrawSpec)

/-- 'pestlelaw47.SaltsLeft', WHERE WHAT IT READS IS OF BULK AT MOST 1048576: true; the input reads as it did. -/
def saltsLeftUptoRow : OpenClaim := { program := "ytebccciodmlikaa", sum := "e9379025ac11c8846cce6ece043722a5096f266eaf88f8e34ef59c5596976862", func := "pestle/pestlelaw47.SaltsLeft", spec := "saltsLeft", apart := false, narrowed := true }
def SaltsLeftUptoSaid : Prop := saltsLeftUptoRow.holds Try.pinned (OpenSpec.upto saltsLeftSpec)

/-- 'pestlelaw12.SalsaBytes', WHERE WHAT IT READS IS OF BULK AT MOST 1048576: true; the input reads as it did. -/
def salsaBytesUptoRow : OpenClaim := { program := "ytebccciodmlikaa", sum := "e9379025ac11c8846cce6ece043722a5096f266eaf88f8e34ef59c5596976862", func := "pestle/pestlelaw12.SalsaBytes", spec := "salsaBytes", unfollowed := true, recurses := true, apart := false, narrowed := true }
def SalsaBytesUptoSaid : Prop := salsaBytesUptoRow.holds Try.pinned (OpenSpec.upto salsaBytesSpec)

/-- 'pestlelaw23.ShufflePlaces', WHERE WHAT IT READS IS OF BULK AT MOST 1048576: true; the input reads as it did. -/
def shufflePlacesUptoRow : OpenClaim := { program := "ytebccciodmlikaa", sum := "e9379025ac11c8846cce6ece043722a5096f266eaf88f8e34ef59c5596976862", func := "pestle/pestlelaw23.ShufflePlaces", spec := "shufflePlaces", apart := false, narrowed := true }
def ShufflePlacesUptoSaid : Prop := shufflePlacesUptoRow.holds Try.pinned (OpenSpec.upto shufflePlacesSpec)

/-- 'pestlelaw56.LedgerNotes', WHERE WHAT IT READS IS OF BULK AT MOST 1048576: true; the input reads as it did. -/
def ledgerNotesUptoRow : OpenClaim := { program := "ytebccciodmlikaa", sum := "e9379025ac11c8846cce6ece043722a5096f266eaf88f8e34ef59c5596976862", func := "pestle/pestlelaw56.LedgerNotes", spec := "ledgerNotes", apart := false, narrowed := true }
def LedgerNotesUptoSaid : Prop := ledgerNotesUptoRow.holds Try.pinned (OpenSpec.upto ledgerNotesSpec)

/-- 'pestlelaw56.LedgerJoins', WHERE WHAT IT READS IS OF BULK AT MOST 1048576: true; the input reads as it did. -/
def ledgerJoinsUptoRow : OpenClaim := { program := "ytebccciodmlikaa", sum := "e9379025ac11c8846cce6ece043722a5096f266eaf88f8e34ef59c5596976862", func := "pestle/pestlelaw56.LedgerJoins", spec := "ledgerJoins", apart := false, narrowed := true }
def LedgerJoinsUptoSaid : Prop := ledgerJoinsUptoRow.holds Try.pinned (OpenSpec.upto ledgerJoinsSpec)

/-- 'pestlelaw23.ShuffleMixes', WHERE WHAT IT READS IS OF BULK AT MOST 1048576: true; the input reads as it did. -/
def shuffleMixesUptoRow : OpenClaim := { program := "ytebccciodmlikaa", sum := "e9379025ac11c8846cce6ece043722a5096f266eaf88f8e34ef59c5596976862", func := "pestle/pestlelaw23.ShuffleMixes", spec := "shuffleMixes", apart := false, narrowed := true }
def ShuffleMixesUptoSaid : Prop := shuffleMixesUptoRow.holds Try.pinned (OpenSpec.upto shuffleMixesSpec)

end Rows
end Go.Proofs.Ytebccciodmlikaa
