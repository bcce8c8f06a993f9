/-
  No cell of these rows narrows 'for every input' (looked for: loops, veiled, ifaces, maps, wideKeys, modest, calm, conditions, laid).
  DERIVED. THE GIVEN ROWS OF THIS SEAT. 11 by the template 'for every input the law returns true; each argument reads behind the call as it read before'; 0 by the template 'total and deterministic' (their statements: YtcjfnnbeflbikaaTotals.lean).
  GIVEN WITH THE SEED: the statements are not yours to turn. If you find one false, say at which input.
  Laid BY PROGRAM, IN A SANDBOX (cutbox-rows.mjs): the forced cells as the released guide's own fill.sh prints them over the translation e781a3aca0b1a81a… (all of the seat's roots in one cut). By AI agents, Wed Nov 11 2026. No macro, syntax, notation, axiom, sorry.
-/
import Derived.Test.YtcjfnnbeflbikaaChecked
import GoSem.Claim
import GoSem.ClaimJoined
import GoSem.ClaimMapViews
import Derived.JoinedTies
import Derived.KernelRfl
namespace Go.Proofs.Ytcjfnnbeflbikaa
/- THE CELL 'sum', in the pinned program and in every row, IS THE sha256 OF THE DUMP (.gsa) THAT YtcjfnnbeflbikaaProg.lean LOADS. Nothing in Lean hashes anything: it is a label: what it is worth is what the hold of that sum in a sandbox is worth. -/
noncomputable def Try.pinned : Pinned := { name := "ytcjfnnbeflbikaa", sum := "e781a3aca0b1a81a97686a783538fb8680b6c2f232da4cf9c7e37796773ecd22", checked := Try.checked }
namespace Rows
def none {H : Type} : Left H := { results := [], args := [] }

/-- 'pestlelaw13.EqualTells': WHATEVER THE INPUT: true; the input reads as it did. -/
def equalTellsSpec : ChangeSpec := { name := "equalTells", fn := fun _ => fun
  | [d1, d2] => { results := [.lit (.bool true)], args := [d1, d2] }
  | _ => none }
def equalTellsRow : OpenClaim := { program := "ytcjfnnbeflbikaa", sum := "e781a3aca0b1a81a97686a783538fb8680b6c2f232da4cf9c7e37796773ecd22", func := "pestle/pestlelaw13.EqualTells", spec := "equalTells", apart := false }
def EqualTellsSaid : Prop := equalTellsRow.holds Try.pinned (OpenSpec.ofChange equalTellsSpec)

/-- ITS FALSE NEIGHBOUR: 'it returns false'. Refute it at one input. -/
def equalTellsWrong : ChangeSpec := { name := "equalTells", fn := fun _ => fun
  | [d1, d2] => { results := [.lit (.bool false)], args := [d1, d2] }
  | _ => none }
def EqualTellsWrongFalsely : Prop := equalTellsRow.holds Try.pinned (OpenSpec.ofChange equalTellsWrong)

/-- 'pestlelaw13.EqualBlind': WHATEVER THE INPUT: true; the input reads as it did. -/
def equalBlindSpec : ChangeSpec := { name := "equalBlind", fn := fun _ => fun
  | [d1, d2, d3, d4] => { results := [.lit (.bool true)], args := [d1, d2, d3, d4] }
  | _ => none }
def equalBlindRow : OpenClaim := { program := "ytcjfnnbeflbikaa", sum := "e781a3aca0b1a81a97686a783538fb8680b6c2f232da4cf9c7e37796773ecd22", func := "pestle/pestlelaw13.EqualBlind", spec := "equalBlind", apart := false }
def EqualBlindSaid : Prop := equalBlindRow.holds Try.pinned (OpenSpec.ofChange equalBlindSpec)

/-- ITS FALSE NEIGHBOUR: 'it returns false'. Refute it at one input. -/
def equalBlindWrong : ChangeSpec := { name := "equalBlind", fn := fun _ => fun
  | [d1, d2, d3, d4] => { results := [.lit (.bool false)], args := [d1, d2, d3, d4] }
  | _ => none }
def EqualBlindWrongFalsely : Prop := equalBlindRow.holds Try.pinned (OpenSpec.ofChange equalBlindWrong)

/-- 'pestlelaw01.WordsTurn': WHATEVER THE INPUT: true; the input reads as it did. -/
def wordsTurnSpec : ChangeSpec := { name := "wordsTurn", fn := fun _ => fun
  | [d1, d2, d3] => { results := [.lit (.bool true)], args := [d1, d2, d3] }
  | _ => none }
def wordsTurnRow : OpenClaim := { program := "ytcjfnnbeflbikaa", sum := "e781a3aca0b1a81a97686a783538fb8680b6c2f232da4cf9c7e37796773ecd22", func := "pestle/pestlelaw01.WordsTurn", spec := "wordsTurn", apart := false }
def WordsTurnSaid : Prop := wordsTurnRow.holds Try.pinned (OpenSpec.ofChange wordsTurnSpec)

/-- ITS FALSE NEIGHBOUR: 'it returns false'. Refute it at one input. -/
def wordsTurnWrong : ChangeSpec := { name := "wordsTurn", fn := fun _ => fun
  | [d1, d2, d3] => { results := [.lit (.bool false)], args := [d1, d2, d3] }
  | _ => none }
def WordsTurnWrongFalsely : Prop := wordsTurnRow.holds Try.pinned (OpenSpec.ofChange wordsTurnWrong)

/-- 'pestlelaw19.BlockHalves': WHATEVER THE INPUT: true; the input reads as it did. -/
def blockHalvesSpec : ChangeSpec := { name := "blockHalves", fn := fun _ => fun
  | [d1, d2, d3, d4] => { results := [.lit (.bool true)], args := [d1, d2, d3, d4] }
  | _ => none }
def blockHalvesRow : OpenClaim := { program := "ytcjfnnbeflbikaa", sum := "e781a3aca0b1a81a97686a783538fb8680b6c2f232da4cf9c7e37796773ecd22", func := "pestle/pestlelaw19.BlockHalves", spec := "blockHalves", apart := false }
def BlockHalvesSaid : Prop := blockHalvesRow.holds Try.pinned (OpenSpec.ofChange blockHalvesSpec)

/-- ITS FALSE NEIGHBOUR: 'it returns false'. Refute it at one input. -/
def blockHalvesWrong : ChangeSpec := { name := "blockHalves", fn := fun _ => fun
  | [d1, d2, d3, d4] => { results := [.lit (.bool false)], args := [d1, d2, d3, d4] }
  | _ => none }
def BlockHalvesWrongFalsely : Prop := blockHalvesRow.holds Try.pinned (OpenSpec.ofChange blockHalvesWrong)

/-- 'pestlelaw01.WordsXor': WHATEVER THE INPUT: true; the input reads as it did. -/
def wordsXorSpec : ChangeSpec := { name := "wordsXor", fn := fun _ => fun
  | [d] => { results := [.lit (.bool true)], args := [d] }
  | _ => none }
def wordsXorRow : OpenClaim := { program := "ytcjfnnbeflbikaa", sum := "e781a3aca0b1a81a97686a783538fb8680b6c2f232da4cf9c7e37796773ecd22", func := "pestle/pestlelaw01.WordsXor", spec := "wordsXor", apart := false }
def WordsXorSaid : Prop := wordsXorRow.holds Try.pinned (OpenSpec.ofChange wordsXorSpec)

/-- ITS FALSE NEIGHBOUR: 'it returns false'. Refute it at one input. -/
def wordsXorWrong : ChangeSpec := { name := "wordsXor", fn := fun _ => fun
  | [d] => { results := [.lit (.bool false)], args := [d] }
  | _ => none }
def WordsXorWrongFalsely : Prop := wordsXorRow.holds Try.pinned (OpenSpec.ofChange wordsXorWrong)

/-- 'pestlelaw19.BlockXors': WHATEVER THE INPUT: true; the input reads as it did. -/
def blockXorsSpec : ChangeSpec := { name := "blockXors", fn := fun _ => fun
  | [d] => { results := [.lit (.bool true)], args := [d] }
  | _ => none }
def blockXorsRow : OpenClaim := { program := "ytcjfnnbeflbikaa", sum := "e781a3aca0b1a81a97686a783538fb8680b6c2f232da4cf9c7e37796773ecd22", func := "pestle/pestlelaw19.BlockXors", spec := "blockXors", apart := false }
def BlockXorsSaid : Prop := blockXorsRow.holds Try.pinned (OpenSpec.ofChange blockXorsSpec)

/-- ITS FALSE NEIGHBOUR: 'it returns false'. Refute it at one input. -/
def blockXorsWrong : ChangeSpec := { name := "blockXors", fn := fun _ => fun
  | [d] => { results := [.lit (.bool false)], args := [d] }
  | _ => none }
def BlockXorsWrongFalsely : Prop := blockXorsRow.holds Try.pinned (OpenSpec.ofChange blockXorsWrong)

/-- 'pestlelaw13.EqualAny': WHATEVER THE INPUT: true; the input reads as it did. -/
def equalAnySpec : ChangeSpec := { name := "equalAny", fn := fun _ => fun
  | [d1, d2, d3, d4, d5] => { results := [.lit (.bool true)], args := [d1, d2, d3, d4, d5] }
  | _ => none }
def equalAnyRow : OpenClaim := { program := "ytcjfnnbeflbikaa", sum := "e781a3aca0b1a81a97686a783538fb8680b6c2f232da4cf9c7e37796773ecd22", func := "pestle/pestlelaw13.EqualAny", spec := "equalAny", apart := false }
def EqualAnySaid : Prop := equalAnyRow.holds Try.pinned (OpenSpec.ofChange equalAnySpec)

/-- ITS FALSE NEIGHBOUR: 'it returns false'. Refute it at one input. -/
def equalAnyWrong : ChangeSpec := { name := "equalAny", fn := fun _ => fun
  | [d1, d2, d3, d4, d5] => { results := [.lit (.bool false)], args := [d1, d2, d3, d4, d5] }
  | _ => none }
def EqualAnyWrongFalsely : Prop := equalAnyRow.holds Try.pinned (OpenSpec.ofChange equalAnyWrong)

/-- 'pestlelaw01.WordsTake': WHATEVER THE INPUT: true; the input reads as it did. -/
def wordsTakeSpec : ChangeSpec := { name := "wordsTake", fn := fun _ => fun
  | [d] => { results := [.lit (.bool true)], args := [d] }
  | _ => none }
def wordsTakeRow : OpenClaim := { program := "ytcjfnnbeflbikaa", sum := "e781a3aca0b1a81a97686a783538fb8680b6c2f232da4cf9c7e37796773ecd22", func := "pestle/pestlelaw01.WordsTake", spec := "wordsTake", unfollowed := true, recurses := true, apart := false }
def WordsTakeSaid : Prop := wordsTakeRow.holds Try.pinned (OpenSpec.ofChange wordsTakeSpec)

/-- ITS FALSE NEIGHBOUR: 'it returns false'. Refute it at one input. -/
def wordsTakeWrong : ChangeSpec := { name := "wordsTake", fn := fun _ => fun
  | [d] => { results := [.lit (.bool false)], args := [d] }
  | _ => none }
def WordsTakeWrongFalsely : Prop := wordsTakeRow.holds Try.pinned (OpenSpec.ofChange wordsTakeWrong)

/-- 'pestlelaw01.WordsWrite': WHATEVER THE INPUT: true; the input reads as it did. -/
def wordsWriteSpec : ChangeSpec := { name := "wordsWrite", fn := fun _ => fun
  | [d1, d2] => { results := [.lit (.bool true)], args := [d1, d2] }
  | _ => none }
def wordsWriteRow : OpenClaim := { program := "ytcjfnnbeflbikaa", sum := "e781a3aca0b1a81a97686a783538fb8680b6c2f232da4cf9c7e37796773ecd22", func := "pestle/pestlelaw01.WordsWrite", spec := "wordsWrite", apart := false }
def WordsWriteSaid : Prop := wordsWriteRow.holds Try.pinned (OpenSpec.ofChange wordsWriteSpec)

/-- ITS FALSE NEIGHBOUR: 'it returns false'. Refute it at one input. -/
def wordsWriteWrong : ChangeSpec := { name := "wordsWrite", fn := fun _ => fun
  | [d1, d2] => { results := [.lit (.bool false)], args := [d1, d2] }
  | _ => none }
def WordsWriteWrongFalsely : Prop := wordsWriteRow.holds Try.pinned (OpenSpec.ofChange wordsWriteWrong)

/-- 'pestlelaw19.BlockBytes': WHATEVER THE INPUT: true; the input reads as it did. -/
def blockBytesSpec : ChangeSpec := { name := "blockBytes", fn := fun _ => fun
  | [d1, d2, d3] => { results := [.lit (.bool true)], args := [d1, d2, d3] }
  | _ => none }
def blockBytesRow : OpenClaim := { program := "ytcjfnnbeflbikaa", sum := "e781a3aca0b1a81a97686a783538fb8680b6c2f232da4cf9c7e37796773ecd22", func := "pestle/pestlelaw19.BlockBytes", spec := "blockBytes", apart := false }
def BlockBytesSaid : Prop := blockBytesRow.holds Try.pinned (OpenSpec.ofChange blockBytesSpec)

/-- ITS FALSE NEIGHBOUR: 'it returns false'. Refute it at one input. -/
def blockBytesWrong : ChangeSpec := { name := "blockBytes", fn := fun _ => fun
  | [d1, d2, d3] => { results := [.lit (.bool false)], args := [d1, d2, d3] }
  | _ => none }
def BlockBytesWrongFalsely : Prop := blockBytesRow.holds Try.pinned (OpenSpec.ofChange blockBytesWrong)

/-- 'pestlelaw01.WordsBack': WHATEVER THE INPUT: true; the input reads as it did. -/
def wordsBackSpec : ChangeSpec := { name := "wordsBack", fn := fun _ => fun
  | [d1, d2] => { results := [.lit (.bool true)], args := [d1, d2] }
  | _ => none }
def wordsBackRow : OpenClaim := { program := "ytcjfnnbeflbikaa", sum := "e781a3aca0b1a81a97686a783538fb8680b6c2f232da4cf9c7e37796773ecd22", func := "pestle/pestlelaw01.WordsBack", spec := "wordsBack", unfollowed := true, recurses := true, apart := false }
def WordsBackSaid : Prop := wordsBackRow.holds Try.pinned (OpenSpec.ofChange wordsBackSpec)

/-- ITS FALSE NEIGHBOUR: 'it returns false'. Refute it at one input. -/
def wordsBackWrong : ChangeSpec := { name := "wordsBack", fn := fun _ => fun
  | [d1, d2] => { results := [.lit (.bool false)], args := [d1, d2] }
  | _ => none }
def WordsBackWrongFalsely : Prop := wordsBackRow.holds Try.pinned (OpenSpec.ofChange wordsBackWrong)

/- THE SECOND FORM. 'bulk': how many values and letters a reading holds, each counted each time it is reached (what is shared counts as often as it is met; a slice's spare places count too). A statement '..UptoSaid' is the law's where the arguments, and the package variables that the reading takes, are together of bulk at most 1048576: NARROWER than '..Said'. Prove '..Said' where nothing that the law and all that it calls make is longer than what came in: it says more and counts as full. Else prove '..UptoSaid'. A law counts once. -/
mutual
def uptoBulk {H : Type} : DataW H → Nat
  | .lit (.string bytes) => bytes.length + 1
  | .lit _ => 1
  | .nil => 1
  | .ptr d => uptoBulk d + 1
  | .slice elems spare => uptoBulkAll elems + uptoBulkAll spare + 1
  | .agg parts => uptoBulkAll parts + 1
  | .iface _ d => uptoBulk d + 1
  | .map entries => uptoBulkEntries entries + 1
  | .held _ => 1
def uptoBulkAll {H : Type} : List (DataW H) → Nat
  | [] => 0
  | d :: r => uptoBulk d + uptoBulkAll r
def uptoBulkEntries {H : Type} : List (Lit × DataW H) → Nat
  | [] => 0
  | x :: r => uptoBulkEntry x + uptoBulkEntries r
def uptoBulkEntry {H : Type} : Lit × DataW H → Nat
  | (.string bytes, d) => bytes.length + uptoBulk d + 1
  | (_, d) => uptoBulk d + 1
 end
def uptoSmall : (H : Type) → List (DataW H) → Bool := fun _ ds => decide (uptoBulkAll ds ≤ 1048576)
def OpenSpec.upto (s : _root_.Go.ChangeSpec) : _root_.Go.OpenSpec := { _root_.Go.OpenSpec.ofChange s with cond := some uptoSmall }

/-- 'pestlelaw13.EqualTells', WHERE WHAT IT READS IS OF BULK AT MOST 1048576: true; the input reads as it did. -/
def equalTellsUptoRow : OpenClaim := { program := "ytcjfnnbeflbikaa", sum := "e781a3aca0b1a81a97686a783538fb8680b6c2f232da4cf9c7e37796773ecd22", func := "pestle/pestlelaw13.EqualTells", spec := "equalTells", apart := false, narrowed := true }
def EqualTellsUptoSaid : Prop := equalTellsUptoRow.holds Try.pinned (OpenSpec.upto equalTellsSpec)

/-- 'pestlelaw13.EqualBlind', WHERE WHAT IT READS IS OF BULK AT MOST 1048576: true; the input reads as it did. -/
def equalBlindUptoRow : OpenClaim := { program := "ytcjfnnbeflbikaa", sum := "e781a3aca0b1a81a97686a783538fb8680b6c2f232da4cf9c7e37796773ecd22", func := "pestle/pestlelaw13.EqualBlind", spec := "equalBlind", apart := false, narrowed := true }
def EqualBlindUptoSaid : Prop := equalBlindUptoRow.holds Try.pinned (OpenSpec.upto equalBlindSpec)

/-- 'pestlelaw01.WordsTurn', WHERE WHAT IT READS IS OF BULK AT MOST 1048576: true; the input reads as it did. -/
def wordsTurnUptoRow : OpenClaim := { program := "ytcjfnnbeflbikaa", sum := "e781a3aca0b1a81a97686a783538fb8680b6c2f232da4cf9c7e37796773ecd22", func := "pestle/pestlelaw01.WordsTurn", spec := "wordsTurn", apart := false, narrowed := true }
def WordsTurnUptoSaid : Prop := wordsTurnUptoRow.holds Try.pinned (OpenSpec.upto wordsTurnSpec)

/-- 'pestlelaw19.BlockHalves', WHERE WHAT IT READS IS OF BULK AT MOST 1048576: true; the input reads as it did. -/
def blockHalvesUptoRow : OpenClaim := { program := "ytcjfnnbeflbikaa", sum := "e781a3aca0b1a81a97686a783538fb8680b6c2f232da4cf9c7e37796773ecd22", func := "pestle/pestlelaw19.BlockHalves", spec := "blockHalves", apart := false, narrowed := true }
def BlockHalvesUptoSaid : Prop := blockHalvesUptoRow.holds Try.pinned (OpenSpec.upto blockHalvesSpec)

/-- 'pestlelaw01.WordsXor', WHERE WHAT IT READS IS OF BULK AT MOST 1048576: true; the input reads as it did. -/
def wordsXorUptoRow : OpenClaim := { program := "ytcjfnnbeflbikaa", sum := "e781a3aca0b1a81a97686a783538fb8680b6c2f232da4cf9c7e37796773ecd22", func := "pestle/pestlelaw01.WordsXor", spec := "wordsXor", apart := false, narrowed := true }
def WordsXorUptoSaid : Prop := wordsXorUptoRow.holds Try.pinned (OpenSpec.upto wordsXorSpec)

/-- 'pestlelaw19.BlockXors', WHERE WHAT IT READS IS OF BULK AT MOST 1048576: true; the input reads as it did. -/
def blockXorsUptoRow : OpenClaim := { program := "ytcjfnnbeflbikaa", sum := "e781a3aca0b1a81a97686a783538fb8680b6c2f232da4cf9c7e37796773ecd22", func := "pestle/pestlelaw19.BlockXors", spec := "blockXors", apart := false, narrowed := true }
def BlockXorsUptoSaid : Prop := blockXorsUptoRow.holds Try.pinned (OpenSpec.upto blockXorsSpec)

/-- 'pestlelaw13.EqualAny', WHERE WHAT IT READS IS OF BULK AT MOST 1048576: true; the input reads as it did. -/
def equalAnyUptoRow : OpenClaim := { program := "ytcjfnnbeflbikaa", sum := "e781a3aca0b1a81a97686a783538fb8680b6c2f232da4cf9c7e37796773ecd22", func := "pestle/pestlelaw13.EqualAny", spec := "equalAny", apart := false, narrowed := true }
def EqualAnyUptoSaid : Prop := equalAnyUptoRow.holds Try.pinned (OpenSpec.upto equalAnySpec)

/-- 'pestlelaw01.WordsTake', WHERE WHAT IT READS IS OF BULK AT MOST 1048576: true; the input reads as it did. -/
def wordsTakeUptoRow : OpenClaim := { program := "ytcjfnnbeflbikaa", sum := "e781a3aca0b1a81a97686a783538fb8680b6c2f232da4cf9c7e37796773ecd22", func := "pestle/pestlelaw01.WordsTake", spec := "wordsTake", unfollowed := true, recurses := true, apart := false, narrowed := true }
def WordsTakeUptoSaid : Prop := wordsTakeUptoRow.holds Try.pinned (OpenSpec.upto wordsTakeSpec)

/-- 'pestlelaw01.WordsWrite', WHERE WHAT IT READS IS OF BULK AT MOST 1048576: true; the input reads as it did. -/
def wordsWriteUptoRow : OpenClaim := { program := "ytcjfnnbeflbikaa", sum := "e781a3aca0b1a81a97686a783538fb8680b6c2f232da4cf9c7e37796773ecd22", func := "pestle/pestlelaw01.WordsWrite", spec := "wordsWrite", apart := false, narrowed := true }
def WordsWriteUptoSaid : Prop := wordsWriteUptoRow.holds Try.pinned (OpenSpec.upto wordsWriteSpec)

/-- 'pestlelaw19.BlockBytes', WHERE WHAT IT READS IS OF BULK AT MOST 1048576: true; the input reads as it did. -/
def blockBytesUptoRow : OpenClaim := { program := "ytcjfnnbeflbikaa", sum := "e781a3aca0b1a81a97686a783538fb8680b6c2f232da4cf9c7e37796773ecd22", func := "pestle/pestlelaw19.BlockBytes", spec := "blockBytes", apart := false, narrowed := true }
def BlockBytesUptoSaid : Prop := blockBytesUptoRow.holds Try.pinned (OpenSpec.upto blockBytesSpec)

/-- 'pestlelaw01.WordsBack', WHERE WHAT IT READS IS OF BULK AT MOST 1048576: true; the input reads as it did. -/
def wordsBackUptoRow : OpenClaim := { program := "ytcjfnnbeflbikaa", sum := "e781a3aca0b1a81a97686a783538fb8680b6c2f232da4cf9c7e37796773ecd22", func := "pestle/pestlelaw01.WordsBack", spec := "wordsBack", unfollowed := true, recurses := true, apart := false, narrowed := true }
def WordsBackUptoSaid : Prop := wordsBackUptoRow.holds Try.pinned (OpenSpec.upto wordsBackSpec)

end Rows
end Go.Proofs.Ytcjfnnbeflbikaa
