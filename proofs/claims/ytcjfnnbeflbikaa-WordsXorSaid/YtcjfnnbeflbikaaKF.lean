/- The numbers of the functions in this translation. -/
import Derived.Test.YtcjfnnbeflbikaaProg
import Derived.Test.YtcjfnnbeflbikaaWp
namespace PK
open Go PAbs
noncomputable abbrev A : Nat → Option AFn := tableA Go.Proofs.Try.prog
theorem mixed : Go.Proofs.Try.prog.follows .mixedOrders = true := by kernel_rfl
abbrev F_pestlelaw13_EqualTells : Nat := 3
abbrev F_pestlelaw13_EqualBlind : Nat := 4
abbrev F_pestlelaw01_WordsTurn : Nat := 5
abbrev F_pestlelaw19_BlockHalves : Nat := 6
abbrev F_pestlelaw01_WordsXor : Nat := 7
abbrev F_pestlelaw19_BlockXors : Nat := 8
abbrev F_pestlelaw13_EqualAny : Nat := 9
abbrev F_pestlelaw01_WordsTake : Nat := 10
abbrev F_pestlelaw01_WordsWrite : Nat := 11
abbrev F_pestlelaw19_BlockBytes : Nat := 12
abbrev F_pestlelaw01_WordsBack : Nat := 13
abbrev F_pestlelaw13_awake : Nat := 14
abbrev F_equal_Trace : Nat := 15
abbrev F_pestleref13_Same : Nat := 16
abbrev F_equal_Same : Nat := 17
abbrev F_pestlelaw01_awake : Nat := 18
abbrev F_words_Left32 : Nat := 19
abbrev F_pestleref01_Left : Nat := 20
abbrev F_words_Right64 : Nat := 21
abbrev F_pestleref01_Right : Nat := 22
abbrev F_words_Right32 : Nat := 23
abbrev F_pestlelaw19_awake : Nat := 24
abbrev F_block_Half : Nat := 25
abbrev F_pestleref19_Half : Nat := 26
abbrev F_block_SetHalf : Nat := 27
abbrev F_words_Xor : Nat := 28
abbrev F_pestleref01_Xor : Nat := 29
abbrev F_block_Xor : Nat := 30
abbrev F_pestleref19_Xor : Nat := 31
abbrev F_block_Clean : Nat := 32
abbrev F_equal_Any : Nat := 33
abbrev F_equal_Pick : Nat := 34
abbrev F_words_Take32 : Nat := 35
abbrev F_pestleref01_Words : Nat := 36
abbrev F_words_TakeBig32 : Nat := 37
abbrev F_pestleref01_Swapped : Nat := 38
abbrev F_words_Take64 : Nat := 39
abbrev F_pestleref01_Of32 : Nat := 40
abbrev F_pestleref01_Turned : Nat := 41
abbrev F_pestleref01_Of64 : Nat := 42
abbrev F_words_Little32 : Nat := 43
abbrev F_words_Big32 : Nat := 44
abbrev F_words_Little64 : Nat := 45
abbrev F_words_Big64 : Nat := 46
abbrev F_block_Bytes : Nat := 47
abbrev F_pestleref19_Bytes : Nat := 48
abbrev F_block_From : Nat := 49
abbrev F_block_Of : Nat := 50
abbrev F_equal_eye_look : Nat := 51
abbrev F_pestleref01_Mixed : Nat := 52
abbrev F_block_only : Nat := 53
abbrev F_words_take : Nat := 54
abbrev F_words_lowest : Nat := 55
abbrev F_words_highest : Nat := 56
end PK
