/- The document's bytes swapped: walked. -/
import Derived.Test.YtebccciodmlikaaL01n
namespace PK
open Go PAbs
set_option linter.unusedSimpArgs false
set_option linter.unusedVariables false
set_option maxRecDepth 100000

/-- of the chunk from place p on, the last j bytes, the last one first -/
def chunk (bs : List Nat) (p each : Nat) : Nat → List Nat
  | 0 => []
  | j + 1 => chunk bs p each j ++ [bs.getD (p + (each - 1 - j)) 0]
theorem chunk_length (bs : List Nat) (p each : Nat) : ∀ j, (chunk bs p each j).length = j
  | 0 => rfl
  | j + 1 => by simp [chunk, chunk_length bs p each j]
def swap (bs : List Nat) (each : Nat) : Nat → List Nat
  | 0 => []
  | i + 1 => swap bs each i ++ chunk bs (i * each) each each
theorem swap_length (bs : List Nat) (each : Nat) : ∀ i, (swap bs each i).length = i * each
  | 0 => by simp [swap]
  | i + 1 => by simp [swap, swap_length bs each i, chunk_length, Nat.add_mul]


def swInv (y : Cell) (bs : List Nat) (each : Nat) (H0 : AHeap) (m : Nat) (fr : AFrame) (H : AHeap) : Prop := ∃ i : Nat, i ≤ bs.length / each ∧ m = bs.length / each - i ∧ Kept H0.length H0 H ∧ ∃ x, Own H0.length H x 1 (W8 (swap bs each i)) ∧ (∃ s : Nat → AV, fr = [.c y, .c (.int .i64 (each : Int)), s 2, s 3, .c .snil, .c x, .c (.int .i64 ((i * each : Nat) : Int)), s 7, s 8, s 9, s 10, s 11, s 12, s 13, s 14, s 15, s 16, s 17, s 18, s 19, s 20, s 21, s 22, s 23, s 24, s 25, s 26, s 27, s 28, s 29, s 30, s 31, s 32])

def swInv2 (y : Cell) (bs : List Nat) (each i : Nat) (H0 : AHeap) (k : Nat) (fr : AFrame) (H : AHeap) : Prop := k ≤ each ∧ Kept H0.length H0 H ∧ ∃ x, Own H0.length H x 1 (W8 (swap bs each i ++ chunk bs (i * each) each (each - k))) ∧ (∃ s : Nat → AV, fr = [.c y, .c (.int .i64 (each : Int)), s 2, s 3, .c .snil, .c x, .c (.int .i64 ((i * each : Nat) : Int)), .c (.int .i64 ((k : Int) - 1)), s 8, s 9, s 10, s 11, s 12, s 13, s 14, s 15, s 16, s 17, s 18, s 19, s 20, s 21, s 22, s 23, s 24, s 25, s 26, s 27, s 28, s 29, s 30, s 31, s 32])

end PK
