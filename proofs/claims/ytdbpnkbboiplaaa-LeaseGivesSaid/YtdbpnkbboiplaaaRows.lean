/-
  No cell of these rows narrows 'for every input' (looked for: loops, veiled, ifaces, maps, wideKeys, modest, calm, conditions, laid).
  DERIVED. THE GIVEN ROWS OF THIS SEAT. 10 by the template 'for every input the law returns true; each argument reads behind the call as it read before'; 0 by the template 'total and deterministic' (their statements: YtdbpnkbboiplaaaTotals.lean).
  GIVEN WITH THE SEED: the statements are not yours to turn. If you find one false, say at which input.
  Laid BY PROGRAM, IN A SANDBOX (cutbox-rows.mjs): the forced cells as the released guide's own fill.sh prints them over the translation 56b6c99f307b8950… (all of the seat's roots in one cut). By AI agents, Wed Nov 11 2026. No macro, syntax, notation, axiom, sorry.
-/
import Derived.Test.YtdbpnkbboiplaaaChecked
import GoSem.Claim
import GoSem.ClaimJoined
import GoSem.ClaimMapViews
import Derived.JoinedTies
import Derived.KernelRfl
namespace Go.Proofs.Ytdbpnkbboiplaaa
/- THE CELL 'sum', in the pinned program and in every row, IS THE sha256 OF THE DUMP (.gsa) THAT YtdbpnkbboiplaaaProg.lean LOADS. Nothing in Lean hashes anything: it is a label: what it is worth is what the hold of that sum in a sandbox is worth. -/
noncomputable def Try.pinned : Pinned := { name := "ytdbpnkbboiplaaa", sum := "56b6c99f307b8950dd6d1aaefdf3464a6bac59278d5e97364aec03ac32d1b826", checked := Try.checked }
namespace Rows
def none {H : Type} : Left H := { results := [], args := [] }

/-- 'pestlelaw20.ArenaOthers': WHATEVER THE INPUT: true; the input reads as it did. -/
def arenaOthersSpec : ChangeSpec := { name := "arenaOthers", fn := fun _ => fun
  | [d1, d2] => { results := [.lit (.bool true)], args := [d1, d2] }
  | _ => none }
def arenaOthersRow : OpenClaim := { program := "ytdbpnkbboiplaaa", sum := "56b6c99f307b8950dd6d1aaefdf3464a6bac59278d5e97364aec03ac32d1b826", func := "pestle/pestlelaw20.ArenaOthers", spec := "arenaOthers", apart := false }
def ArenaOthersSaid : Prop := arenaOthersRow.holds Try.pinned (OpenSpec.ofChange arenaOthersSpec)

/-- ITS FALSE NEIGHBOUR: 'it returns false'. Refute it at one input. -/
def arenaOthersWrong : ChangeSpec := { name := "arenaOthers", fn := fun _ => fun
  | [d1, d2] => { results := [.lit (.bool false)], args := [d1, d2] }
  | _ => none }
def ArenaOthersWrongFalsely : Prop := arenaOthersRow.holds Try.pinned (OpenSpec.ofChange arenaOthersWrong)

/-- 'pestlelaw60.GuardWaits': WHATEVER THE INPUT: true; the input reads as it did. -/
def guardWaitsSpec : ChangeSpec := { name := "guardWaits", fn := fun _ => fun
  | [d1, d2, d3] => { results := [.lit (.bool true)], args := [d1, d2, d3] }
  | _ => none }
def guardWaitsRow : OpenClaim := { program := "ytdbpnkbboiplaaa", sum := "56b6c99f307b8950dd6d1aaefdf3464a6bac59278d5e97364aec03ac32d1b826", func := "pestle/pestlelaw60.GuardWaits", spec := "guardWaits", apart := false }
def GuardWaitsSaid : Prop := guardWaitsRow.holds Try.pinned (OpenSpec.ofChange guardWaitsSpec)

/-- ITS FALSE NEIGHBOUR: 'it returns false'. Refute it at one input. -/
def guardWaitsWrong : ChangeSpec := { name := "guardWaits", fn := fun _ => fun
  | [d1, d2, d3] => { results := [.lit (.bool false)], args := [d1, d2, d3] }
  | _ => none }
def GuardWaitsWrongFalsely : Prop := guardWaitsRow.holds Try.pinned (OpenSpec.ofChange guardWaitsWrong)

/-- 'pestlelaw03.RootPrimes': WHATEVER THE INPUT: true; the input reads as it did. -/
def rootPrimesSpec : ChangeSpec := { name := "rootPrimes", fn := fun _ => fun
  | [d] => { results := [.lit (.bool true)], args := [d] }
  | _ => none }
def rootPrimesRow : OpenClaim := { program := "ytdbpnkbboiplaaa", sum := "56b6c99f307b8950dd6d1aaefdf3464a6bac59278d5e97364aec03ac32d1b826", func := "pestle/pestlelaw03.RootPrimes", spec := "rootPrimes", inPlace := ["math/bits.Sub64", "math/bits.Add64"], apart := false }
def RootPrimesSaid : Prop := rootPrimesRow.holds Try.pinned (OpenSpec.ofChange rootPrimesSpec)

/-- ITS FALSE NEIGHBOUR: 'it returns false'. Refute it at one input. -/
def rootPrimesWrong : ChangeSpec := { name := "rootPrimes", fn := fun _ => fun
  | [d] => { results := [.lit (.bool false)], args := [d] }
  | _ => none }
def RootPrimesWrongFalsely : Prop := rootPrimesRow.holds Try.pinned (OpenSpec.ofChange rootPrimesWrong)

/-- 'pestlelaw03.RootSquares': WHATEVER THE INPUT: true; the input reads as it did. -/
def rootSquaresSpec : ChangeSpec := { name := "rootSquares", fn := fun _ => fun
  | [d] => { results := [.lit (.bool true)], args := [d] }
  | _ => none }
def rootSquaresRow : OpenClaim := { program := "ytdbpnkbboiplaaa", sum := "56b6c99f307b8950dd6d1aaefdf3464a6bac59278d5e97364aec03ac32d1b826", func := "pestle/pestlelaw03.RootSquares", spec := "rootSquares", inPlace := ["math/bits.Sub64", "math/bits.Add64"], apart := false }
def RootSquaresSaid : Prop := rootSquaresRow.holds Try.pinned (OpenSpec.ofChange rootSquaresSpec)

/-- ITS FALSE NEIGHBOUR: 'it returns false'. Refute it at one input. -/
def rootSquaresWrong : ChangeSpec := { name := "rootSquares", fn := fun _ => fun
  | [d] => { results := [.lit (.bool false)], args := [d] }
  | _ => none }
def RootSquaresWrongFalsely : Prop := rootSquaresRow.holds Try.pinned (OpenSpec.ofChange rootSquaresWrong)

/-- 'pestlelaw03.RootCubes': WHATEVER THE INPUT: true; the input reads as it did. -/
def rootCubesSpec : ChangeSpec := { name := "rootCubes", fn := fun _ => fun
  | [d] => { results := [.lit (.bool true)], args := [d] }
  | _ => none }
def rootCubesRow : OpenClaim := { program := "ytdbpnkbboiplaaa", sum := "56b6c99f307b8950dd6d1aaefdf3464a6bac59278d5e97364aec03ac32d1b826", func := "pestle/pestlelaw03.RootCubes", spec := "rootCubes", inPlace := ["math/bits.Sub64", "math/bits.Add64"], apart := false }
def RootCubesSaid : Prop := rootCubesRow.holds Try.pinned (OpenSpec.ofChange rootCubesSpec)

/-- ITS FALSE NEIGHBOUR: 'it returns false'. Refute it at one input. -/
def rootCubesWrong : ChangeSpec := { name := "rootCubes", fn := fun _ => fun
  | [d] => { results := [.lit (.bool false)], args := [d] }
  | _ => none }
def RootCubesWrongFalsely : Prop := rootCubesRow.holds Try.pinned (OpenSpec.ofChange rootCubesWrong)

/-- 'pestlelaw03.RootWhole': WHATEVER THE INPUT: true; the input reads as it did. -/
def rootWholeSpec : ChangeSpec := { name := "rootWhole", fn := fun _ => fun
  | [d] => { results := [.lit (.bool true)], args := [d] }
  | _ => none }
def rootWholeRow : OpenClaim := { program := "ytdbpnkbboiplaaa", sum := "56b6c99f307b8950dd6d1aaefdf3464a6bac59278d5e97364aec03ac32d1b826", func := "pestle/pestlelaw03.RootWhole", spec := "rootWhole", inPlace := ["math/bits.Sub64", "math/bits.Add64"], apart := false }
def RootWholeSaid : Prop := rootWholeRow.holds Try.pinned (OpenSpec.ofChange rootWholeSpec)

/-- ITS FALSE NEIGHBOUR: 'it returns false'. Refute it at one input. -/
def rootWholeWrong : ChangeSpec := { name := "rootWhole", fn := fun _ => fun
  | [d] => { results := [.lit (.bool false)], args := [d] }
  | _ => none }
def RootWholeWrongFalsely : Prop := rootWholeRow.holds Try.pinned (OpenSpec.ofChange rootWholeWrong)

/-- 'pestlelaw21.LeasePlays': WHATEVER THE INPUT: true; the input reads as it did. -/
def leasePlaysSpec : ChangeSpec := { name := "leasePlays", fn := fun _ => fun
  | [d1, d2] => { results := [.lit (.bool true)], args := [d1, d2] }
  | _ => none }
def leasePlaysRow : OpenClaim := { program := "ytdbpnkbboiplaaa", sum := "56b6c99f307b8950dd6d1aaefdf3464a6bac59278d5e97364aec03ac32d1b826", func := "pestle/pestlelaw21.LeasePlays", spec := "leasePlays", unfollowed := true, recurses := true, apart := false }
def LeasePlaysSaid : Prop := leasePlaysRow.holds Try.pinned (OpenSpec.ofChange leasePlaysSpec)

/-- ITS FALSE NEIGHBOUR: 'it returns false'. Refute it at one input. -/
def leasePlaysWrong : ChangeSpec := { name := "leasePlays", fn := fun _ => fun
  | [d1, d2] => { results := [.lit (.bool false)], args := [d1, d2] }
  | _ => none }
def LeasePlaysWrongFalsely : Prop := leasePlaysRow.holds Try.pinned (OpenSpec.ofChange leasePlaysWrong)

/-- 'pestlelaw60.GuardPlays': WHATEVER THE INPUT: true; the input reads as it did. -/
def guardPlaysSpec : ChangeSpec := { name := "guardPlays", fn := fun _ => fun
  | [d1, d2] => { results := [.lit (.bool true)], args := [d1, d2] }
  | _ => none }
def guardPlaysRow : OpenClaim := { program := "ytdbpnkbboiplaaa", sum := "56b6c99f307b8950dd6d1aaefdf3464a6bac59278d5e97364aec03ac32d1b826", func := "pestle/pestlelaw60.GuardPlays", spec := "guardPlays", apart := false }
def GuardPlaysSaid : Prop := guardPlaysRow.holds Try.pinned (OpenSpec.ofChange guardPlaysSpec)

/-- ITS FALSE NEIGHBOUR: 'it returns false'. Refute it at one input. -/
def guardPlaysWrong : ChangeSpec := { name := "guardPlays", fn := fun _ => fun
  | [d1, d2] => { results := [.lit (.bool false)], args := [d1, d2] }
  | _ => none }
def GuardPlaysWrongFalsely : Prop := guardPlaysRow.holds Try.pinned (OpenSpec.ofChange guardPlaysWrong)

/-- 'pestlelaw21.LeaseGives': WHATEVER THE INPUT: true; the input reads as it did. -/
def leaseGivesSpec : ChangeSpec := { name := "leaseGives", fn := fun _ => fun
  | [d1, d2, d3, d4] => { results := [.lit (.bool true)], args := [d1, d2, d3, d4] }
  | _ => none }
def leaseGivesRow : OpenClaim := { program := "ytdbpnkbboiplaaa", sum := "56b6c99f307b8950dd6d1aaefdf3464a6bac59278d5e97364aec03ac32d1b826", func := "pestle/pestlelaw21.LeaseGives", spec := "leaseGives", unfollowed := true, recurses := true, apart := false }
def LeaseGivesSaid : Prop := leaseGivesRow.holds Try.pinned (OpenSpec.ofChange leaseGivesSpec)

/-- ITS FALSE NEIGHBOUR: 'it returns false'. Refute it at one input. -/
def leaseGivesWrong : ChangeSpec := { name := "leaseGives", fn := fun _ => fun
  | [d1, d2, d3, d4] => { results := [.lit (.bool false)], args := [d1, d2, d3, d4] }
  | _ => none }
def LeaseGivesWrongFalsely : Prop := leaseGivesRow.holds Try.pinned (OpenSpec.ofChange leaseGivesWrong)

/-- 'pestlelaw20.ArenaPlays': WHATEVER THE INPUT: true; the input reads as it did. -/
def arenaPlaysSpec : ChangeSpec := { name := "arenaPlays", fn := fun _ => fun
  | [d1, d2] => { results := [.lit (.bool true)], args := [d1, d2] }
  | _ => none }
def arenaPlaysRow : OpenClaim := { program := "ytdbpnkbboiplaaa", sum := "56b6c99f307b8950dd6d1aaefdf3464a6bac59278d5e97364aec03ac32d1b826", func := "pestle/pestlelaw20.ArenaPlays", spec := "arenaPlays", apart := false }
def ArenaPlaysSaid : Prop := arenaPlaysRow.holds Try.pinned (OpenSpec.ofChange arenaPlaysSpec)

/-- ITS FALSE NEIGHBOUR: 'it returns false'. Refute it at one input. -/
def arenaPlaysWrong : ChangeSpec := { name := "arenaPlays", fn := fun _ => fun
  | [d1, d2] => { results := [.lit (.bool false)], args := [d1, d2] }
  | _ => none }
def ArenaPlaysWrongFalsely : Prop := arenaPlaysRow.holds Try.pinned (OpenSpec.ofChange arenaPlaysWrong)

/- THE SECOND FORM. 'bulk': how many values and letters a reading holds, each counted each time it is reached (what is shared counts as often as it is met; a slice's spare places count too). A statement '..UptoSaid' is the law's where the arguments, and the package variables that the reading takes, are together of bulk at most 1048576: NARROWER than '..Said'. Prove '..Said' where nothing that the law and all that it calls make is longer than what came in: it says more and counts as full. Else prove '..UptoSaid'. A law counts once. -/
mutual
def uptoBulk {H : Type} : DataW H → Nat
  | .lit (.string bytes) => bytes.length + 1
  | .lit _ => 1
  | .nil => 1
  | .ptr d => uptoBulk d + 1
  | .slice elems spare => uptoBulkAll elems + uptoBulkAll spare + 1
  | .agg parts => uptoBulkAll parts + 1
  | .iface _ d => uptoBulk d + 1
  | .map entries => uptoBulkEntries entries + 1
  | .held _ => 1
def uptoBulkAll {H : Type} : List (DataW H) → Nat
  | [] => 0
  | d :: r => uptoBulk d + uptoBulkAll r
def uptoBulkEntries {H : Type} : List (Lit × DataW H) → Nat
  | [] => 0
  | x :: r => uptoBulkEntry x + uptoBulkEntries r
def uptoBulkEntry {H : Type} : Lit × DataW H → Nat
  | (.string bytes, d) => bytes.length + uptoBulk d + 1
  | (_, d) => uptoBulk d + 1
 end
def uptoSmall : (H : Type) → List (DataW H) → Bool := fun _ ds => decide (uptoBulkAll ds ≤ 1048576)
def OpenSpec.upto (s : _root_.Go.ChangeSpec) : _root_.Go.OpenSpec := { _root_.Go.OpenSpec.ofChange s with cond := some uptoSmall }

/-- 'pestlelaw20.ArenaOthers', WHERE WHAT IT READS IS OF BULK AT MOST 1048576: true; the input reads as it did. -/
def arenaOthersUptoRow : OpenClaim := { program := "ytdbpnkbboiplaaa", sum := "56b6c99f307b8950dd6d1aaefdf3464a6bac59278d5e97364aec03ac32d1b826", func := "pestle/pestlelaw20.ArenaOthers", spec := "arenaOthers", apart := false, narrowed := true }
def ArenaOthersUptoSaid : Prop := arenaOthersUptoRow.holds Try.pinned (OpenSpec.upto arenaOthersSpec)

/-- 'pestlelaw60.GuardWaits', WHERE WHAT IT READS IS OF BULK AT MOST 1048576: true; the input reads as it did. -/
def guardWaitsUptoRow : OpenClaim := { program := "ytdbpnkbboiplaaa", sum := "56b6c99f307b8950dd6d1aaefdf3464a6bac59278d5e97364aec03ac32d1b826", func := "pestle/pestlelaw60.GuardWaits", spec := "guardWaits", apart := false, narrowed := true }
def GuardWaitsUptoSaid : Prop := guardWaitsUptoRow.holds Try.pinned (OpenSpec.upto guardWaitsSpec)

/-- 'pestlelaw03.RootPrimes', WHERE WHAT IT READS IS OF BULK AT MOST 1048576: true; the input reads as it did. -/
def rootPrimesUptoRow : OpenClaim := { program := "ytdbpnkbboiplaaa", sum := "56b6c99f307b8950dd6d1aaefdf3464a6bac59278d5e97364aec03ac32d1b826", func := "pestle/pestlelaw03.RootPrimes", spec := "rootPrimes", inPlace := ["math/bits.Sub64", "math/bits.Add64"], apart := false, narrowed := true }
def RootPrimesUptoSaid : Prop := rootPrimesUptoRow.holds Try.pinned (OpenSpec.upto rootPrimesSpec)

/-- 'pestlelaw03.RootSquares', WHERE WHAT IT READS IS OF BULK AT MOST 1048576: true; the input reads as it did. -/
def rootSquaresUptoRow : OpenClaim := { program := "ytdbpnkbboiplaaa", sum := "56b6c99f307b8950dd6d1aaefdf3464a6bac59278d5e97364aec03ac32d1b826", func := "pestle/pestlelaw03.RootSquares", spec := "rootSquares", inPlace := ["math/bits.Sub64", "math/bits.Add64"], apart := false, narrowed := true }
def RootSquaresUptoSaid : Prop := rootSquaresUptoRow.holds Try.pinned (OpenSpec.upto rootSquaresSpec)

/-- 'pestlelaw03.RootCubes', WHERE WHAT IT READS IS OF BULK AT MOST 1048576: true; the input reads as it did. -/
def rootCubesUptoRow : OpenClaim := { program := "ytdbpnkbboiplaaa", sum := "56b6c99f307b8950dd6d1aaefdf3464a6bac59278d5e97364aec03ac32d1b826", func := "pestle/pestlelaw03.RootCubes", spec := "rootCubes", inPlace := ["math/bits.Sub64", "math/bits.Add64"], apart := false, narrowed := true }
def RootCubesUptoSaid : Prop := rootCubesUptoRow.holds Try.pinned (OpenSpec.upto rootCubesSpec)

/-- 'pestlelaw03.RootWhole', WHERE WHAT IT READS IS OF BULK AT MOST 1048576: true; the input reads as it did. -/
def rootWholeUptoRow : OpenClaim := { program := "ytdbpnkbboiplaaa", sum := "56b6c99f307b8950dd6d1aaefdf3464a6bac59278d5e97364aec03ac32d1b826", func := "pestle/pestlelaw03.RootWhole", spec := "rootWhole", inPlace := ["math/bits.Sub64", "math/bits.Add64"], apart := false, narrowed := true }
def RootWholeUptoSaid : Prop := rootWholeUptoRow.holds Try.pinned (OpenSpec.upto rootWholeSpec)

/-- 'pestlelaw21.LeasePlays', WHERE WHAT IT READS IS OF BULK AT MOST 1048576: true; the input reads as it did. -/
def leasePlaysUptoRow : OpenClaim := { program := "ytdbpnkbboiplaaa", sum := "56b6c99f307b8950dd6d1aaefdf3464a6bac59278d5e97364aec03ac32d1b826", func := "pestle/pestlelaw21.LeasePlays", spec := "leasePlays", unfollowed := true, recurses := true, apart := false, narrowed := true }
def LeasePlaysUptoSaid : Prop := leasePlaysUptoRow.holds Try.pinned (OpenSpec.upto leasePlaysSpec)

/-- 'pestlelaw60.GuardPlays', WHERE WHAT IT READS IS OF BULK AT MOST 1048576: true; the input reads as it did. -/
def guardPlaysUptoRow : OpenClaim := { program := "ytdbpnkbboiplaaa", sum := "56b6c99f307b8950dd6d1aaefdf3464a6bac59278d5e97364aec03ac32d1b826", func := "pestle/pestlelaw60.GuardPlays", spec := "guardPlays", apart := false, narrowed := true }
def GuardPlaysUptoSaid : Prop := guardPlaysUptoRow.holds Try.pinned (OpenSpec.upto guardPlaysSpec)

/-- 'pestlelaw21.LeaseGives', WHERE WHAT IT READS IS OF BULK AT MOST 1048576: true; the input reads as it did. -/
def leaseGivesUptoRow : OpenClaim := { program := "ytdbpnkbboiplaaa", sum := "56b6c99f307b8950dd6d1aaefdf3464a6bac59278d5e97364aec03ac32d1b826", func := "pestle/pestlelaw21.LeaseGives", spec := "leaseGives", unfollowed := true, recurses := true, apart := false, narrowed := true }
def LeaseGivesUptoSaid : Prop := leaseGivesUptoRow.holds Try.pinned (OpenSpec.upto leaseGivesSpec)

/-- 'pestlelaw20.ArenaPlays', WHERE WHAT IT READS IS OF BULK AT MOST 1048576: true; the input reads as it did. -/
def arenaPlaysUptoRow : OpenClaim := { program := "ytdbpnkbboiplaaa", sum := "56b6c99f307b8950dd6d1aaefdf3464a6bac59278d5e97364aec03ac32d1b826", func := "pestle/pestlelaw20.ArenaPlays", spec := "arenaPlays", apart := false, narrowed := true }
def ArenaPlaysUptoSaid : Prop := arenaPlaysUptoRow.holds Try.pinned (OpenSpec.upto arenaPlaysSpec)

end Rows
end Go.Proofs.Ytdbpnkbboiplaaa
