/-
  No cell of these rows narrows 'for every input' (looked for: loops, veiled, ifaces, maps, wideKeys, modest, calm, conditions, laid).
  DERIVED. THE GIVEN ROWS OF THIS SEAT. 10 by the template 'for every input the law returns true; each argument reads behind the call as it read before'; 0 by the template 'total and deterministic' (their statements: YtbpfkfjcecgceaaTotals.lean).
  GIVEN WITH THE SEED: the statements are not yours to turn. If you find one false, say at which input.
  Laid BY PROGRAM, IN A SANDBOX (cutbox-rows.mjs): the forced cells as the released guide's own fill.sh prints them over the translation 98ad07b60afd3c5e… (all of the seat's roots in one cut). By AI agents, Wed Nov 11 2026. No macro, syntax, notation, axiom, sorry.
-/
import Derived.Test.YtbpfkfjcecgceaaChecked
import GoSem.Claim
import GoSem.ClaimJoined
import GoSem.ClaimMapViews
import Derived.JoinedTies
import Derived.KernelRfl
namespace Go.Proofs.Ytbpfkfjcecgceaa
/- THE CELL 'sum', in the pinned program and in every row, IS THE sha256 OF THE DUMP (.gsa) THAT YtbpfkfjcecgceaaProg.lean LOADS. Nothing in Lean hashes anything: it is a label: what it is worth is what the hold of that sum in a sandbox is worth. -/
noncomputable def Try.pinned : Pinned := { name := "ytbpfkfjcecgceaa", sum := "98ad07b60afd3c5e7ba789c424d481529ee7d74677cd83b4fd19ed4789e8dd8d", checked := Try.checked }
namespace Rows
def none {H : Type} : Left H := { results := [], args := [] }

/-- 'pestlelaw05.ShaCompresses': WHATEVER THE INPUT: true; the input reads as it did. -/
def shaCompressesSpec : ChangeSpec := { name := "shaCompresses", fn := fun _ => fun
  | [d1, d2] => { results := [.lit (.bool true)], args := [d1, d2] }
  | _ => none }
def shaCompressesRow : OpenClaim := { program := "ytbpfkfjcecgceaa", sum := "98ad07b60afd3c5e7ba789c424d481529ee7d74677cd83b4fd19ed4789e8dd8d", func := "pestle/pestlelaw05.ShaCompresses", spec := "shaCompresses", unfollowed := true, recurses := true, apart := false }
def ShaCompressesSaid : Prop := shaCompressesRow.holds Try.pinned (OpenSpec.ofChange shaCompressesSpec)

/-- ITS FALSE NEIGHBOUR: 'it returns false'. Refute it at one input. -/
def shaCompressesWrong : ChangeSpec := { name := "shaCompresses", fn := fun _ => fun
  | [d1, d2] => { results := [.lit (.bool false)], args := [d1, d2] }
  | _ => none }
def ShaCompressesWrongFalsely : Prop := shaCompressesRow.holds Try.pinned (OpenSpec.ofChange shaCompressesWrong)

/-- 'pestlelaw05.ShaSums': WHATEVER THE INPUT: true; the input reads as it did. -/
def shaSumsSpec : ChangeSpec := { name := "shaSums", fn := fun _ => fun
  | [d] => { results := [.lit (.bool true)], args := [d] }
  | _ => none }
def shaSumsRow : OpenClaim := { program := "ytbpfkfjcecgceaa", sum := "98ad07b60afd3c5e7ba789c424d481529ee7d74677cd83b4fd19ed4789e8dd8d", func := "pestle/pestlelaw05.ShaSums", spec := "shaSums", unfollowed := true, recurses := true, apart := false }
def ShaSumsSaid : Prop := shaSumsRow.holds Try.pinned (OpenSpec.ofChange shaSumsSpec)

/-- ITS FALSE NEIGHBOUR: 'it returns false'. Refute it at one input. -/
def shaSumsWrong : ChangeSpec := { name := "shaSums", fn := fun _ => fun
  | [d] => { results := [.lit (.bool false)], args := [d] }
  | _ => none }
def ShaSumsWrongFalsely : Prop := shaSumsRow.holds Try.pinned (OpenSpec.ofChange shaSumsWrong)

/-- 'pestlelaw05.ShaPads': WHATEVER THE INPUT: true; the input reads as it did. -/
def shaPadsSpec : ChangeSpec := { name := "shaPads", fn := fun _ => fun
  | [d] => { results := [.lit (.bool true)], args := [d] }
  | _ => none }
def shaPadsRow : OpenClaim := { program := "ytbpfkfjcecgceaa", sum := "98ad07b60afd3c5e7ba789c424d481529ee7d74677cd83b4fd19ed4789e8dd8d", func := "pestle/pestlelaw05.ShaPads", spec := "shaPads", unfollowed := true, recurses := true, apart := false }
def ShaPadsSaid : Prop := shaPadsRow.holds Try.pinned (OpenSpec.ofChange shaPadsSpec)

/-- ITS FALSE NEIGHBOUR: 'it returns false'. Refute it at one input. -/
def shaPadsWrong : ChangeSpec := { name := "shaPads", fn := fun _ => fun
  | [d] => { results := [.lit (.bool false)], args := [d] }
  | _ => none }
def ShaPadsWrongFalsely : Prop := shaPadsRow.holds Try.pinned (OpenSpec.ofChange shaPadsWrong)

/-- 'pestlelaw05.ShaParts': WHATEVER THE INPUT: true; the input reads as it did. -/
def shaPartsSpec : ChangeSpec := { name := "shaParts", fn := fun _ => fun
  | [d1, d2] => { results := [.lit (.bool true)], args := [d1, d2] }
  | _ => none }
def shaPartsRow : OpenClaim := { program := "ytbpfkfjcecgceaa", sum := "98ad07b60afd3c5e7ba789c424d481529ee7d74677cd83b4fd19ed4789e8dd8d", func := "pestle/pestlelaw05.ShaParts", spec := "shaParts", unfollowed := true, recurses := true, apart := false }
def ShaPartsSaid : Prop := shaPartsRow.holds Try.pinned (OpenSpec.ofChange shaPartsSpec)

/-- ITS FALSE NEIGHBOUR: 'it returns false'. Refute it at one input. -/
def shaPartsWrong : ChangeSpec := { name := "shaParts", fn := fun _ => fun
  | [d1, d2] => { results := [.lit (.bool false)], args := [d1, d2] }
  | _ => none }
def ShaPartsWrongFalsely : Prop := shaPartsRow.holds Try.pinned (OpenSpec.ofChange shaPartsWrong)

/-- 'pestlelaw06.MacTags': WHATEVER THE INPUT: true; the input reads as it did. -/
def macTagsSpec : ChangeSpec := { name := "macTags", fn := fun _ => fun
  | [d1, d2] => { results := [.lit (.bool true)], args := [d1, d2] }
  | _ => none }
def macTagsRow : OpenClaim := { program := "ytbpfkfjcecgceaa", sum := "98ad07b60afd3c5e7ba789c424d481529ee7d74677cd83b4fd19ed4789e8dd8d", func := "pestle/pestlelaw06.MacTags", spec := "macTags", unfollowed := true, recurses := true, apart := false }
def MacTagsSaid : Prop := macTagsRow.holds Try.pinned (OpenSpec.ofChange macTagsSpec)

/-- ITS FALSE NEIGHBOUR: 'it returns false'. Refute it at one input. -/
def macTagsWrong : ChangeSpec := { name := "macTags", fn := fun _ => fun
  | [d1, d2] => { results := [.lit (.bool false)], args := [d1, d2] }
  | _ => none }
def MacTagsWrongFalsely : Prop := macTagsRow.holds Try.pinned (OpenSpec.ofChange macTagsWrong)

/-- 'pestlelaw06.MacChains': WHATEVER THE INPUT: true; the input reads as it did. -/
def macChainsSpec : ChangeSpec := { name := "macChains", fn := fun _ => fun
  | [d1, d2, d3, d4] => { results := [.lit (.bool true)], args := [d1, d2, d3, d4] }
  | _ => none }
def macChainsRow : OpenClaim := { program := "ytbpfkfjcecgceaa", sum := "98ad07b60afd3c5e7ba789c424d481529ee7d74677cd83b4fd19ed4789e8dd8d", func := "pestle/pestlelaw06.MacChains", spec := "macChains", unfollowed := true, recurses := true, apart := false }
def MacChainsSaid : Prop := macChainsRow.holds Try.pinned (OpenSpec.ofChange macChainsSpec)

/-- ITS FALSE NEIGHBOUR: 'it returns false'. Refute it at one input. -/
def macChainsWrong : ChangeSpec := { name := "macChains", fn := fun _ => fun
  | [d1, d2, d3, d4] => { results := [.lit (.bool false)], args := [d1, d2, d3, d4] }
  | _ => none }
def MacChainsWrongFalsely : Prop := macChainsRow.holds Try.pinned (OpenSpec.ofChange macChainsWrong)

/-- 'pestlelaw06.MacKeys': WHATEVER THE INPUT: true; the input reads as it did. -/
def macKeysSpec : ChangeSpec := { name := "macKeys", fn := fun _ => fun
  | [d1, d2, d3] => { results := [.lit (.bool true)], args := [d1, d2, d3] }
  | _ => none }
def macKeysRow : OpenClaim := { program := "ytbpfkfjcecgceaa", sum := "98ad07b60afd3c5e7ba789c424d481529ee7d74677cd83b4fd19ed4789e8dd8d", func := "pestle/pestlelaw06.MacKeys", spec := "macKeys", unfollowed := true, recurses := true, apart := false }
def MacKeysSaid : Prop := macKeysRow.holds Try.pinned (OpenSpec.ofChange macKeysSpec)

/-- ITS FALSE NEIGHBOUR: 'it returns false'. Refute it at one input. -/
def macKeysWrong : ChangeSpec := { name := "macKeys", fn := fun _ => fun
  | [d1, d2, d3] => { results := [.lit (.bool false)], args := [d1, d2, d3] }
  | _ => none }
def MacKeysWrongFalsely : Prop := macKeysRow.holds Try.pinned (OpenSpec.ofChange macKeysWrong)

/-- 'pestlelaw22.PbkdfKeys': WHATEVER THE INPUT: true; the input reads as it did. -/
def pbkdfKeysSpec : ChangeSpec := { name := "pbkdfKeys", fn := fun _ => fun
  | [d1, d2, d3, d4] => { results := [.lit (.bool true)], args := [d1, d2, d3, d4] }
  | _ => none }
def pbkdfKeysRow : OpenClaim := { program := "ytbpfkfjcecgceaa", sum := "98ad07b60afd3c5e7ba789c424d481529ee7d74677cd83b4fd19ed4789e8dd8d", func := "pestle/pestlelaw22.PbkdfKeys", spec := "pbkdfKeys", unfollowed := true, recurses := true, apart := false }
def PbkdfKeysSaid : Prop := pbkdfKeysRow.holds Try.pinned (OpenSpec.ofChange pbkdfKeysSpec)

/-- ITS FALSE NEIGHBOUR: 'it returns false'. Refute it at one input. -/
def pbkdfKeysWrong : ChangeSpec := { name := "pbkdfKeys", fn := fun _ => fun
  | [d1, d2, d3, d4] => { results := [.lit (.bool false)], args := [d1, d2, d3, d4] }
  | _ => none }
def PbkdfKeysWrongFalsely : Prop := pbkdfKeysRow.holds Try.pinned (OpenSpec.ofChange pbkdfKeysWrong)

/-- 'pestlelaw22.PbkdfParts': WHATEVER THE INPUT: true; the input reads as it did. -/
def pbkdfPartsSpec : ChangeSpec := { name := "pbkdfParts", fn := fun _ => fun
  | [d1, d2, d3, d4] => { results := [.lit (.bool true)], args := [d1, d2, d3, d4] }
  | _ => none }
def pbkdfPartsRow : OpenClaim := { program := "ytbpfkfjcecgceaa", sum := "98ad07b60afd3c5e7ba789c424d481529ee7d74677cd83b4fd19ed4789e8dd8d", func := "pestle/pestlelaw22.PbkdfParts", spec := "pbkdfParts", unfollowed := true, recurses := true, apart := false }
def PbkdfPartsSaid : Prop := pbkdfPartsRow.holds Try.pinned (OpenSpec.ofChange pbkdfPartsSpec)

/-- ITS FALSE NEIGHBOUR: 'it returns false'. Refute it at one input. -/
def pbkdfPartsWrong : ChangeSpec := { name := "pbkdfParts", fn := fun _ => fun
  | [d1, d2, d3, d4] => { results := [.lit (.bool false)], args := [d1, d2, d3, d4] }
  | _ => none }
def PbkdfPartsWrongFalsely : Prop := pbkdfPartsRow.holds Try.pinned (OpenSpec.ofChange pbkdfPartsWrong)

/-- 'pestlelaw22.PbkdfBegins': WHATEVER THE INPUT: true; the input reads as it did. -/
def pbkdfBeginsSpec : ChangeSpec := { name := "pbkdfBegins", fn := fun _ => fun
  | [d1, d2, d3, d4, d5] => { results := [.lit (.bool true)], args := [d1, d2, d3, d4, d5] }
  | _ => none }
def pbkdfBeginsRow : OpenClaim := { program := "ytbpfkfjcecgceaa", sum := "98ad07b60afd3c5e7ba789c424d481529ee7d74677cd83b4fd19ed4789e8dd8d", func := "pestle/pestlelaw22.PbkdfBegins", spec := "pbkdfBegins", unfollowed := true, recurses := true, apart := false }
def PbkdfBeginsSaid : Prop := pbkdfBeginsRow.holds Try.pinned (OpenSpec.ofChange pbkdfBeginsSpec)

/-- ITS FALSE NEIGHBOUR: 'it returns false'. Refute it at one input. -/
def pbkdfBeginsWrong : ChangeSpec := { name := "pbkdfBegins", fn := fun _ => fun
  | [d1, d2, d3, d4, d5] => { results := [.lit (.bool false)], args := [d1, d2, d3, d4, d5] }
  | _ => none }
def PbkdfBeginsWrongFalsely : Prop := pbkdfBeginsRow.holds Try.pinned (OpenSpec.ofChange pbkdfBeginsWrong)

/- THE SECOND FORM. 'bulk': how many values and letters a reading holds, each counted each time it is reached (what is shared counts as often as it is met; a slice's spare places count too). A statement '..UptoSaid' is the law's where the arguments, and the package variables that the reading takes, are together of bulk at most 1048576: NARROWER than '..Said'. Prove '..Said' where nothing that the law and all that it calls make is longer than what came in: it says more and counts as full. Else prove '..UptoSaid'. A law counts once. -/
mutual
def uptoBulk {H : Type} : DataW H → Nat
  | .lit (.string bytes) => bytes.length + 1
  | .lit _ => 1
  | .nil => 1
  | .ptr d => uptoBulk d + 1
  | .slice elems spare => uptoBulkAll elems + uptoBulkAll spare + 1
  | .agg parts => uptoBulkAll parts + 1
  | .iface _ d => uptoBulk d + 1
  | .map entries => uptoBulkEntries entries + 1
  | .held _ => 1
def uptoBulkAll {H : Type} : List (DataW H) → Nat
  | [] => 0
  | d :: r => uptoBulk d + uptoBulkAll r
def uptoBulkEntries {H : Type} : List (Lit × DataW H) → Nat
  | [] => 0
  | x :: r => uptoBulkEntry x + uptoBulkEntries r
def uptoBulkEntry {H : Type} : Lit × DataW H → Nat
  | (.string bytes, d) => bytes.length + uptoBulk d + 1
  | (_, d) => uptoBulk d + 1
 end
def uptoSmall : (H : Type) → List (DataW H) → Bool := fun _ ds => decide (uptoBulkAll ds ≤ 1048576)
def OpenSpec.upto (s : _root_.Go.ChangeSpec) : _root_.Go.OpenSpec := { _root_.Go.OpenSpec.ofChange s with cond := some uptoSmall }

/-- 'pestlelaw05.ShaCompresses', WHERE WHAT IT READS IS OF BULK AT MOST 1048576: true; the input reads as it did. -/
def shaCompressesUptoRow : OpenClaim := { program := "ytbpfkfjcecgceaa", sum := "98ad07b60afd3c5e7ba789c424d481529ee7d74677cd83b4fd19ed4789e8dd8d", func := "pestle/pestlelaw05.ShaCompresses", spec := "shaCompresses", unfollowed := true, recurses := true, apart := false, narrowed := true }
def ShaCompressesUptoSaid : Prop := shaCompressesUptoRow.holds Try.pinned (OpenSpec.upto shaCompressesSpec)

/-- 'pestlelaw05.ShaSums', WHERE WHAT IT READS IS OF BULK AT MOST 1048576: true; the input reads as it did. -/
def shaSumsUptoRow : OpenClaim := { program := "ytbpfkfjcecgceaa", sum := "98ad07b60afd3c5e7ba789c424d481529ee7d74677cd83b4fd19ed4789e8dd8d", func := "pestle/pestlelaw05.ShaSums", spec := "shaSums", unfollowed := true, recurses := true, apart := false, narrowed := true }
def ShaSumsUptoSaid : Prop := shaSumsUptoRow.holds Try.pinned (OpenSpec.upto shaSumsSpec)

/-- 'pestlelaw05.ShaPads', WHERE WHAT IT READS IS OF BULK AT MOST 1048576: true; the input reads as it did. -/
def shaPadsUptoRow : OpenClaim := { program := "ytbpfkfjcecgceaa", sum := "98ad07b60afd3c5e7ba789c424d481529ee7d74677cd83b4fd19ed4789e8dd8d", func := "pestle/pestlelaw05.ShaPads", spec := "shaPads", unfollowed := true, recurses := true, apart := false, narrowed := true }
def ShaPadsUptoSaid : Prop := shaPadsUptoRow.holds Try.pinned (OpenSpec.upto shaPadsSpec)

/-- 'pestlelaw05.ShaParts', WHERE WHAT IT READS IS OF BULK AT MOST 1048576: true; the input reads as it did. -/
def shaPartsUptoRow : OpenClaim := { program := "ytbpfkfjcecgceaa", sum := "98ad07b60afd3c5e7ba789c424d481529ee7d74677cd83b4fd19ed4789e8dd8d", func := "pestle/pestlelaw05.ShaParts", spec := "shaParts", unfollowed := true, recurses := true, apart := false, narrowed := true }
def ShaPartsUptoSaid : Prop := shaPartsUptoRow.holds Try.pinned (OpenSpec.upto shaPartsSpec)

/-- 'pestlelaw06.MacTags', WHERE WHAT IT READS IS OF BULK AT MOST 1048576: true; the input reads as it did. -/
def macTagsUptoRow : OpenClaim := { program := "ytbpfkfjcecgceaa", sum := "98ad07b60afd3c5e7ba789c424d481529ee7d74677cd83b4fd19ed4789e8dd8d", func := "pestle/pestlelaw06.MacTags", spec := "macTags", unfollowed := true, recurses := true, apart := false, narrowed := true }
def MacTagsUptoSaid : Prop := macTagsUptoRow.holds Try.pinned (OpenSpec.upto macTagsSpec)

/-- 'pestlelaw06.MacChains', WHERE WHAT IT READS IS OF BULK AT MOST 1048576: true; the input reads as it did. -/
def macChainsUptoRow : OpenClaim := { program := "ytbpfkfjcecgceaa", sum := "98ad07b60afd3c5e7ba789c424d481529ee7d74677cd83b4fd19ed4789e8dd8d", func := "pestle/pestlelaw06.MacChains", spec := "macChains", unfollowed := true, recurses := true, apart := false, narrowed := true }
def MacChainsUptoSaid : Prop := macChainsUptoRow.holds Try.pinned (OpenSpec.upto macChainsSpec)

/-- 'pestlelaw06.MacKeys', WHERE WHAT IT READS IS OF BULK AT MOST 1048576: true; the input reads as it did. -/
def macKeysUptoRow : OpenClaim := { program := "ytbpfkfjcecgceaa", sum := "98ad07b60afd3c5e7ba789c424d481529ee7d74677cd83b4fd19ed4789e8dd8d", func := "pestle/pestlelaw06.MacKeys", spec := "macKeys", unfollowed := true, recurses := true, apart := false, narrowed := true }
def MacKeysUptoSaid : Prop := macKeysUptoRow.holds Try.pinned (OpenSpec.upto macKeysSpec)

/-- 'pestlelaw22.PbkdfKeys', WHERE WHAT IT READS IS OF BULK AT MOST 1048576: true; the input reads as it did. -/
def pbkdfKeysUptoRow : OpenClaim := { program := "ytbpfkfjcecgceaa", sum := "98ad07b60afd3c5e7ba789c424d481529ee7d74677cd83b4fd19ed4789e8dd8d", func := "pestle/pestlelaw22.PbkdfKeys", spec := "pbkdfKeys", unfollowed := true, recurses := true, apart := false, narrowed := true }
def PbkdfKeysUptoSaid : Prop := pbkdfKeysUptoRow.holds Try.pinned (OpenSpec.upto pbkdfKeysSpec)

/-- 'pestlelaw22.PbkdfParts', WHERE WHAT IT READS IS OF BULK AT MOST 1048576: true; the input reads as it did. -/
def pbkdfPartsUptoRow : OpenClaim := { program := "ytbpfkfjcecgceaa", sum := "98ad07b60afd3c5e7ba789c424d481529ee7d74677cd83b4fd19ed4789e8dd8d", func := "pestle/pestlelaw22.PbkdfParts", spec := "pbkdfParts", unfollowed := true, recurses := true, apart := false, narrowed := true }
def PbkdfPartsUptoSaid : Prop := pbkdfPartsUptoRow.holds Try.pinned (OpenSpec.upto pbkdfPartsSpec)

/-- 'pestlelaw22.PbkdfBegins', WHERE WHAT IT READS IS OF BULK AT MOST 1048576: true; the input reads as it did. -/
def pbkdfBeginsUptoRow : OpenClaim := { program := "ytbpfkfjcecgceaa", sum := "98ad07b60afd3c5e7ba789c424d481529ee7d74677cd83b4fd19ed4789e8dd8d", func := "pestle/pestlelaw22.PbkdfBegins", spec := "pbkdfBegins", unfollowed := true, recurses := true, apart := false, narrowed := true }
def PbkdfBeginsUptoSaid : Prop := pbkdfBeginsUptoRow.holds Try.pinned (OpenSpec.upto pbkdfBeginsSpec)

end Rows
end Go.Proofs.Ytbpfkfjcecgceaa
