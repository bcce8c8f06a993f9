/- Texts of this claim, put together: L12a L01w L01v L01k L01l L01m L01n L12b L12c L12d L12e KShuffle. -/
import Derived.Test.YtkmclhpnakphfaaG8
/- Salsa's quarter: what it comes to, and the contracts. -/
namespace PK
open Go PAbs
set_option linter.unusedSimpArgs false
set_option linter.unusedVariables false
set_option linter.unusedSectionVars false
set_option maxRecDepth 100000
set_option maxHeartbeats 4000000

def s32 (a b : Nat) : Nat := (a + b) % 4294967296
theorem u32_add (a b : Nat) : IntKind.u32.wrap ((a : Int) + (b : Int)) = ((s32 a b : Nat) : Int) := by
  show ((a : Int) + (b : Int)) % 4294967296 = _
  simp only [s32]; omega
theorem s32_lt (a b : Nat) : s32 a b < 4294967296 := Nat.mod_lt _ (by omega)
def q1 (a b c d : Nat) : Nat := b ^^^ rl 32 7 (s32 a d)
def q2 (a b c d : Nat) : Nat := c ^^^ rl 32 9 (s32 (q1 a b c d) a)
def q3 (a b c d : Nat) : Nat := d ^^^ rl 32 13 (s32 (q2 a b c d) (q1 a b c d))
def q4 (a b c d : Nat) : Nat := a ^^^ rl 32 18 (s32 (q3 a b c d) (q2 a b c d))
theorem x32_lt {a b : Nat} (ha : a < 4294967296) (hb : b < 4294967296) : a ^^^ b < 4294967296 := Nat.xor_lt_two_pow (n := 32) ha hb
theorem r32_lt {k x : Nat} (hk : k ≤ 32) (hx : x < 4294967296) : rl 32 k x < 4294967296 := rl_lt hk hx
theorem xor32 {a b : Nat} (ha : a < 4294967296) (hb : b < 4294967296) : bitsA .xor .u32 (a : Int) (b : Int) = ((a ^^^ b : Nat) : Int) := xor_of rfl ha hb
theorem pl7 : places 32 7 = 7 := by decide
theorem pl9 : places 32 9 = 9 := by decide
theorem pl13 : places 32 13 = 13 := by decide
theorem pl18 : places 32 18 = 18 := by decide

section
variable (fl : Nat) (H : AHeap) (a b c d : Nat) (ha : a < 4294967296) (hb : b < 4294967296) (hc : c < 4294967296) (hd : d < 4294967296)
include ha hb hc hd
theorem q1_lt : q1 a b c d < 4294967296 := x32_lt hb (r32_lt (by omega) (s32_lt _ _))
theorem q2_lt : q2 a b c d < 4294967296 := x32_lt hc (r32_lt (by omega) (s32_lt _ _))
theorem q3_lt : q3 a b c d < 4294967296 := x32_lt hd (r32_lt (by omega) (s32_lt _ _))
theorem q4_lt : q4 a b c d < 4294967296 := x32_lt ha (r32_lt (by omega) (s32_lt _ _))

theorem AC_Quarter : AC A fl F_salsa_Quarter [.c (.int .u32 (a : Int)), .c (.int .u32 (b : Int)), .c (.int .u32 (c : Int)), .c (.int .u32 (d : Int))] H
    (fun v H' => v = .tup [.c (.int .u32 ((q4 a b c d : Nat) : Int)), .c (.int .u32 ((q1 a b c d : Nat) : Int)), .c (.int .u32 ((q2 a b c d : Nat) : Int)), .c (.int .u32 ((q3 a b c d : Nat) : Int))] ∧ H = H') := by
  have l1 := r32_lt (k := 7) (by omega) (s32_lt a d)
  have l2 := r32_lt (k := 9) (by omega) (s32_lt (q1 a b c d) a)
  have l3 := r32_lt (k := 13) (by omega) (s32_lt (q2 a b c d) (q1 a b c d))
  have l4 := r32_lt (k := 18) (by omega) (s32_lt (q3 a b c d) (q2 a b c d))
  have x1 : bitsA .xor .u32 (b : Int) ((rl 32 7 (s32 a d) : Nat) : Int) = ((q1 a b c d : Nat) : Int) := xor32 hb l1
  have x2 : bitsA .xor .u32 (c : Int) ((rl 32 9 (s32 (q1 a b c d) a) : Nat) : Int) = ((q2 a b c d : Nat) : Int) := xor32 hc l2
  have x3 : bitsA .xor .u32 (d : Int) ((rl 32 13 (s32 (q2 a b c d) (q1 a b c d)) : Nat) : Int) = ((q3 a b c d : Nat) : Int) := xor32 hd l3
  have x4 : bitsA .xor .u32 (a : Int) ((rl 32 18 (s32 (q3 a b c d) (q2 a b c d)) : Nat) : Int) = ((q4 a b c d : Nat) : Int) := xor32 ha l4
  refine AC_enter t_salsa_Quarter ?_; simp only [c_salsa_Quarter, enterA, List.replicate, List.length_cons, List.length_nil, Nat.reduceAdd, Nat.reduceSub, List.cons_append, List.nil_append]
  (repeat (first | with_reducible refine thenQ_n ?_ | with_reducible refine blockQ_n ?_ | refine AW_skip ?_ | refine AW_seq ?_ | refine AW_ops ?_ | refine AW_blockS ?_ | refine AW_blockR ?_ | refine AW_blockD ?_ | refine AW_blockC ?_ | refine AO_nil ?_ | refine AW_draw ?_ | refine AW_draw3 ?_ | refine AW_blockD3 ?_ | refine AHd_nil ?_ | ((first | with_reducible apply AO_pre | with_reducible apply AHd_pre); focus (simp only [Sm, wantedA, execA, stepA, List.getElem?_cons_zero, List.getElem?_cons_succ, if_true, if_false, binA, binInt, unA, eqA, Option.map, eq_self, reduceCtorEq, ite_true, ite_false, cellsAV, fitsAll, CK.fits, fillA, AV.cells, writeN, readN, sliceCells, appendA, lenA, i64, loA, hiA, Nat.reduceAdd, Nat.reduceMul, Nat.reduceDiv, Nat.reduceSub, Nat.reduceLeDiff, Nat.reduceLT, Int.reduceLE, Int.reduceLT, foldA, maxA, minA, Int.reduceBEq, Int.reduceBNe, Int.reduceGT, Int.reduceGE, Int.reduceEq, Int.reduceNe, Int.reduceToNat, AOp.stops, ↓want_eq, ↓exec_lenX, u32_add]; with_reducible rfl))))
  refine AO_call rfl (AC_Left32 fl H _ 7 (s32_lt _ _)) ?_
  rintro _ _ ⟨rfl, rfl⟩
  rw [pl7]
  (repeat (first | with_reducible refine thenQ_n ?_ | with_reducible refine blockQ_n ?_ | refine AW_skip ?_ | refine AW_seq ?_ | refine AW_ops ?_ | refine AW_blockS ?_ | refine AW_blockR ?_ | refine AW_blockD ?_ | refine AW_blockC ?_ | refine AO_nil ?_ | refine AW_draw ?_ | refine AW_draw3 ?_ | refine AW_blockD3 ?_ | refine AHd_nil ?_ | ((first | with_reducible apply AO_pre | with_reducible apply AHd_pre); focus (simp only [Sm, wantedA, execA, stepA, List.getElem?_cons_zero, List.getElem?_cons_succ, if_true, if_false, binA, binInt, unA, eqA, Option.map, eq_self, reduceCtorEq, ite_true, ite_false, cellsAV, fitsAll, CK.fits, fillA, AV.cells, writeN, readN, sliceCells, appendA, lenA, i64, loA, hiA, Nat.reduceAdd, Nat.reduceMul, Nat.reduceDiv, Nat.reduceSub, Nat.reduceLeDiff, Nat.reduceLT, Int.reduceLE, Int.reduceLT, foldA, maxA, minA, Int.reduceBEq, Int.reduceBNe, Int.reduceGT, Int.reduceGE, Int.reduceEq, Int.reduceNe, Int.reduceToNat, AOp.stops, ↓want_eq, ↓exec_lenX, u32_add, x1]; with_reducible rfl))))
  refine AO_call rfl (AC_Left32 fl _ _ 9 (s32_lt _ _)) ?_
  rintro _ _ ⟨rfl, rfl⟩
  rw [pl9]
  (repeat (first | with_reducible refine thenQ_n ?_ | with_reducible refine blockQ_n ?_ | refine AW_skip ?_ | refine AW_seq ?_ | refine AW_ops ?_ | refine AW_blockS ?_ | refine AW_blockR ?_ | refine AW_blockD ?_ | refine AW_blockC ?_ | refine AO_nil ?_ | refine AW_draw ?_ | refine AW_draw3 ?_ | refine AW_blockD3 ?_ | refine AHd_nil ?_ | ((first | with_reducible apply AO_pre | with_reducible apply AHd_pre); focus (simp only [Sm, wantedA, execA, stepA, List.getElem?_cons_zero, List.getElem?_cons_succ, if_true, if_false, binA, binInt, unA, eqA, Option.map, eq_self, reduceCtorEq, ite_true, ite_false, cellsAV, fitsAll, CK.fits, fillA, AV.cells, writeN, readN, sliceCells, appendA, lenA, i64, loA, hiA, Nat.reduceAdd, Nat.reduceMul, Nat.reduceDiv, Nat.reduceSub, Nat.reduceLeDiff, Nat.reduceLT, Int.reduceLE, Int.reduceLT, foldA, maxA, minA, Int.reduceBEq, Int.reduceBNe, Int.reduceGT, Int.reduceGE, Int.reduceEq, Int.reduceNe, Int.reduceToNat, AOp.stops, ↓want_eq, ↓exec_lenX, u32_add, x2]; with_reducible rfl))))
  refine AO_call rfl (AC_Left32 fl _ _ 13 (s32_lt _ _)) ?_
  rintro _ _ ⟨rfl, rfl⟩
  rw [pl13]
  (repeat (first | with_reducible refine thenQ_n ?_ | with_reducible refine blockQ_n ?_ | refine AW_skip ?_ | refine AW_seq ?_ | refine AW_ops ?_ | refine AW_blockS ?_ | refine AW_blockR ?_ | refine AW_blockD ?_ | refine AW_blockC ?_ | refine AO_nil ?_ | refine AW_draw ?_ | refine AW_draw3 ?_ | refine AW_blockD3 ?_ | refine AHd_nil ?_ | ((first | with_reducible apply AO_pre | with_reducible apply AHd_pre); focus (simp only [Sm, wantedA, execA, stepA, List.getElem?_cons_zero, List.getElem?_cons_succ, if_true, if_false, binA, binInt, unA, eqA, Option.map, eq_self, reduceCtorEq, ite_true, ite_false, cellsAV, fitsAll, CK.fits, fillA, AV.cells, writeN, readN, sliceCells, appendA, lenA, i64, loA, hiA, Nat.reduceAdd, Nat.reduceMul, Nat.reduceDiv, Nat.reduceSub, Nat.reduceLeDiff, Nat.reduceLT, Int.reduceLE, Int.reduceLT, foldA, maxA, minA, Int.reduceBEq, Int.reduceBNe, Int.reduceGT, Int.reduceGE, Int.reduceEq, Int.reduceNe, Int.reduceToNat, AOp.stops, ↓want_eq, ↓exec_lenX, u32_add, x3]; with_reducible rfl))))
  refine AO_call rfl (AC_Left32 fl _ _ 18 (s32_lt _ _)) ?_
  rintro _ _ ⟨rfl, rfl⟩
  rw [pl18]
  (repeat (first | with_reducible refine thenQ_n ?_ | with_reducible refine blockQ_n ?_ | refine AW_skip ?_ | refine AW_seq ?_ | refine AW_ops ?_ | refine AW_blockS ?_ | refine AW_blockR ?_ | refine AW_blockD ?_ | refine AW_blockC ?_ | refine AO_nil ?_ | refine AW_draw ?_ | refine AW_draw3 ?_ | refine AW_blockD3 ?_ | refine AHd_nil ?_ | ((first | with_reducible apply AO_pre | with_reducible apply AHd_pre); focus (simp only [Sm, wantedA, execA, stepA, List.getElem?_cons_zero, List.getElem?_cons_succ, if_true, if_false, binA, binInt, unA, eqA, Option.map, eq_self, reduceCtorEq, ite_true, ite_false, cellsAV, fitsAll, CK.fits, fillA, AV.cells, writeN, readN, sliceCells, appendA, lenA, i64, loA, hiA, Nat.reduceAdd, Nat.reduceMul, Nat.reduceDiv, Nat.reduceSub, Nat.reduceLeDiff, Nat.reduceLT, Int.reduceLE, Int.reduceLT, foldA, maxA, minA, Int.reduceBEq, Int.reduceBNe, Int.reduceGT, Int.reduceGE, Int.reduceEq, Int.reduceNe, Int.reduceToNat, AOp.stops, ↓want_eq, ↓exec_lenX, u32_add, x4]; with_reducible rfl))))
  exact AW_ret ⟨_, rfl, rfl, rfl⟩
end
end PK

/- Words written as bytes, walked: the program's and the document's. -/
namespace PK
open Go PAbs
set_option linter.unusedSimpArgs false
set_option linter.unusedVariables false
set_option maxRecDepth 100000

def W8 (xs : List Nat) : List Cell := xs.map fun (n : Nat) => Cell.int .u8 (n : Int)
def W32 (xs : List Nat) : List Cell := xs.map fun (n : Nat) => Cell.int .u32 (n : Int)
theorem W8_length {xs : List Nat} : (W8 xs).length = xs.length := by simp [W8]
theorem W32_length {xs : List Nat} : (W32 xs).length = xs.length := by simp [W32]
theorem W8_append {xs ys : List Nat} : W8 (xs ++ ys) = W8 xs ++ W8 ys := by simp [W8]
theorem W8_get {xs : List Nat} {i : Nat} (h : i < xs.length) : (W8 xs)[i]? = some (.int .u8 ((xs.getD i 0 : Nat) : Int)) := by simp [W8, h]
theorem W32_get {xs : List Nat} {i : Nat} (h : i < xs.length) : (W32 xs)[i]? = some (.int .u32 ((xs.getD i 0 : Nat) : Int)) := by simp [W32, h]

def leB (k w : Nat) : List Nat := (List.range k).map fun i => w / 256 ^ i % 256
theorem leB_length (k w : Nat) : (leB k w).length = k := by simp [leB]
theorem leB_lt {k w b : Nat} (h : b ∈ leB k w) : b < 256 := by
  obtain ⟨i, _, rfl⟩ := List.mem_map.mp h; omega

theorem place_succ {i n : Nat} (h : n ≤ 9223372036854775806) (hi : i ≤ n) : IntKind.i64.wrap ((i : Int) + 1) = ((i + 1 : Nat) : Int) := by rw [wrap_i64_of (by omega) (by omega)]; omega


theorem drop_rev {bs : List Nat} {i : Nat} (h : i < bs.length) : (bs.drop i).reverse = (bs.drop (i + 1)).reverse ++ [bs.getD i 0] := by
  rw [List.drop_eq_getElem_cons h, List.reverse_cons]; simp [h]

end PK

/- Words written as bytes by package words, walked. -/
namespace PK
open Go PAbs
set_option linter.unusedSimpArgs false
set_option linter.unusedVariables false
set_option maxRecDepth 100000

def flat (g : Nat → List Nat) (xs : List Nat) : Nat → List Nat
  | 0 => []
  | i + 1 => flat g xs i ++ g (xs.getD i 0)
theorem flat_length {g : Nat → List Nat} {k : Nat} (h : ∀ w, (g w).length = k) (xs : List Nat) : ∀ i, (flat g xs i).length = i * k
  | 0 => by simp [flat]
  | i + 1 => by simp [flat, flat_length h xs i, h, Nat.add_mul]
def beB (k w : Nat) : List Nat := (leB k w).reverse
theorem beB_length (k w : Nat) : (beB k w).length = k := by simp [beB, leB_length]

theorem shr_lit {k : IntKind} {w : Nat} {p : Int} {q : Nat} (hp : p = (q : Int)) (hq : q ≤ k.bits) : shrA k (w : Int) p = ((w / 2 ^ q : Nat) : Int) := by subst hp; exact shr_of hq
theorem byte_of (w : Nat) : IntKind.u8.wrap (w : Int) = ((w % 256 : Nat) : Int) := by rw [wrap_u8]; omega
theorem leB4 (w : Nat) : W8 (leB 4 w) = [.int .u8 ((w % 256 : Nat) : Int), .int .u8 ((w / 256 % 256 : Nat) : Int), .int .u8 ((w / 65536 % 256 : Nat) : Int), .int .u8 ((w / 16777216 % 256 : Nat) : Int)] := by
  simp only [leB, show List.range 4 = [0, 1, 2, 3] from rfl, List.map_cons, List.map_nil, W8, Nat.pow_zero, Nat.div_one, show 256 ^ 1 = 256 from rfl, show 256 ^ 2 = 65536 from rfl, show 256 ^ 3 = 16777216 from rfl]
theorem beB4 (w : Nat) : W8 (beB 4 w) = [.int .u8 ((w / 16777216 % 256 : Nat) : Int), .int .u8 ((w / 65536 % 256 : Nat) : Int), .int .u8 ((w / 256 % 256 : Nat) : Int), .int .u8 ((w % 256 : Nat) : Int)] := by
  have h := leB4 w
  simp only [W8] at h
  simp only [beB, W8, List.map_reverse, h]; rfl
theorem rep4 : rep 4 (Cell.int .u8 0) = [.int .u8 0, .int .u8 0, .int .u8 0, .int .u8 0] := rfl


def wrInv (g : Nat → List Nat) (y : Cell) (xs : List Nat) (H0 : AHeap) (m : Nat) (fr : AFrame) (H : AHeap) : Prop := ∃ i : Nat, i ≤ xs.length ∧ m = xs.length - i ∧ Kept H0.length H0 H ∧ ∃ x, Own H0.length H x 1 (W8 (flat g xs i)) ∧ (∃ s : Nat → AV, fr = [.c y, s 1, .c .snil, .c x, s 4, s 5, s 6, s 7, s 8, s 9, .c y, .c (.int .i64 (xs.length : Int)), .c (.int .i64 (i : Int)), s 13, s 14, s 15, s 16, s 17, s 18, s 19, s 20, s 21, s 22, s 23, s 24, s 25, s 26, s 27, s 28, s 29, s 30, s 31])

theorem AC_Little32 (H : AHeap) (y : Cell) (xs : List Nat) (hy : Rd H y 1 (W32 xs)) (hl : xs.length ≤ 1000000) : AC A H.length F_words_Little32 [.c y] H (fun v H' => ∃ x, v = .c x ∧ Own H.length H' x 1 (W8 (flat (leB 4) xs xs.length))) := by
  have e1 : IntKind.i64.wrap (4 * (xs.length : Int)) = ((4 * xs.length : Nat) : Int) := by rw [wrap_i64_of (by omega) (by omega)]; omega
  have e2 : ((4 * xs.length : Nat) : Int) * (1 : Nat) ≤ 140737488355328 := by omega
  have yl : (W32 xs).length = xs.length := W32_length
  have fl4 := flat_length (leB_length 4) xs
  refine AC_enter t_words_Little32 ?_
  simp only [c_words_Little32, enterA, List.replicate, List.length_cons, List.length_nil, Nat.reduceAdd, Nat.reduceSub, List.cons_append, List.nil_append]
  refine AW_seq (AW_run (by simp only [List.take_succ_cons, List.take_zero, List.drop_succ_cons, List.drop_zero, bne_self_eq_false, List.map_cons, List.map_nil, Bool.true_beq, Bool.false_beq, run_nil, run_cons, run_gate, cont_some, gate_true, gate_false, hrun_nil, hrun_cons, hrun_gate, hcont_some, hgate_true, hgate_false, put_some, put_none, ev_t, ev_k, wantedA, execA, stepA, List.set_cons_succ, List.set_cons_zero, List.getD_cons_succ, List.getD_cons_zero, List.getElem?_cons_zero, List.getElem?_cons_succ, if_true, if_false, binA, binInt, unA, eqA, Option.map, eq_self, true_or, or_true, true_and, and_true, and_self, beq_self_eq_true, Bool.not_true, Bool.not_false, reduceCtorEq, Bool.false_eq_true, ite_true, ite_false, cellsAV, fitsAll, CK.fits, decide_true, Bool.and_true, Bool.true_and, fillA, AV.cells, writeN, readN, sliceCells, appendA, lenA, i64, loA, hiA, hcells_last, hown_last, List.take_zero, List.drop_zero, List.nil_append, List.cons_append, List.append_nil, List.take_nil, List.drop_nil, List.length_cons, List.length_nil, List.length_append, Nat.zero_add, Nat.add_zero, Nat.reduceAdd, Nat.reduceMul, Nat.reduceDiv, Nat.reduceSub, Nat.mul_one, Nat.one_mul, Nat.div_one, Nat.le_refl, Nat.reduceLeDiff, Nat.reduceLT, Int.toNat_natCast, Int.toNat_zero, Nat.zero_le, Int.natCast_nonneg, Int.reduceLE, Int.reduceLT, Option.some.injEq, foldA, maxA, minA, Cell.int.injEq, AV.c.injEq]; rfl) ?_)
  refine AW_seq (AW_ops (AO_take 1 (by simp only [List.take_succ_cons, List.take_zero, List.drop_succ_cons, List.drop_zero, bne_self_eq_false, List.map_cons, List.map_nil, Bool.true_beq, Bool.false_beq, run_nil, run_cons, run_gate, cont_some, gate_true, gate_false, hrun_nil, hrun_cons, hrun_gate, hcont_some, hgate_true, hgate_false, put_some, put_none, ev_t, ev_k, wantedA, execA, stepA, List.set_cons_succ, List.set_cons_zero, List.getD_cons_succ, List.getD_cons_zero, List.getElem?_cons_zero, List.getElem?_cons_succ, if_true, if_false, binA, binInt, unA, eqA, Option.map, eq_self, true_or, or_true, true_and, and_true, and_self, beq_self_eq_true, Bool.not_true, Bool.not_false, reduceCtorEq, Bool.false_eq_true, ite_true, ite_false, cellsAV, fitsAll, CK.fits, decide_true, Bool.and_true, Bool.true_and, fillA, AV.cells, writeN, readN, sliceCells, appendA, lenA, i64, loA, hiA, hcells_last, hown_last, List.take_zero, List.drop_zero, List.nil_append, List.cons_append, List.append_nil, List.take_nil, List.drop_nil, List.length_cons, List.length_nil, List.length_append, Nat.zero_add, Nat.add_zero, Nat.reduceAdd, Nat.reduceMul, Nat.reduceDiv, Nat.reduceSub, Nat.mul_one, Nat.one_mul, Nat.div_one, Nat.le_refl, Nat.reduceLeDiff, Nat.reduceLT, Int.toNat_natCast, Int.toNat_zero, Nat.zero_le, Int.natCast_nonneg, Int.reduceLE, Int.reduceLT, Option.some.injEq, foldA, maxA, minA, Cell.int.injEq, AV.c.injEq]; rfl) (AO_step rfl (exec_lenN hy yl rfl) ?_)))
  refine AO_take 3 (by simp only [List.take_succ_cons, List.take_zero, List.drop_succ_cons, List.drop_zero, bne_self_eq_false, List.map_cons, List.map_nil, Bool.true_beq, Bool.false_beq, run_nil, run_cons, run_gate, cont_some, gate_true, gate_false, hrun_nil, hrun_cons, hrun_gate, hcont_some, hgate_true, hgate_false, put_some, put_none, ev_t, ev_k, wantedA, execA, stepA, List.set_cons_succ, List.set_cons_zero, List.getD_cons_succ, List.getD_cons_zero, List.getElem?_cons_zero, List.getElem?_cons_succ, if_true, if_false, binA, binInt, unA, eqA, Option.map, eq_self, true_or, or_true, true_and, and_true, and_self, beq_self_eq_true, Bool.not_true, Bool.not_false, reduceCtorEq, Bool.false_eq_true, ite_true, ite_false, cellsAV, fitsAll, CK.fits, decide_true, Bool.and_true, Bool.true_and, fillA, AV.cells, writeN, readN, sliceCells, appendA, lenA, i64, loA, hiA, hcells_last, hown_last, List.take_zero, List.drop_zero, List.nil_append, List.cons_append, List.append_nil, List.take_nil, List.drop_nil, List.length_cons, List.length_nil, List.length_append, Nat.zero_add, Nat.add_zero, Nat.reduceAdd, Nat.reduceMul, Nat.reduceDiv, Nat.reduceSub, Nat.mul_one, Nat.one_mul, Nat.div_one, Nat.le_refl, Nat.reduceLeDiff, Nat.reduceLT, Int.toNat_natCast, Int.toNat_zero, Nat.zero_le, Int.natCast_nonneg, Int.reduceLE, Int.reduceLT, Option.some.injEq, foldA, maxA, minA, Cell.int.injEq, AV.c.injEq, e1, e2, List.replicate_zero, List.flatten_nil, Int.le_refl]; rfl) (AO_nil ?_)
  refine AW_seq (AW_seq (AW_ops (AO_take 1 (by simp only [List.take_succ_cons, List.take_zero, List.drop_succ_cons, List.drop_zero, bne_self_eq_false, List.map_cons, List.map_nil, Bool.true_beq, Bool.false_beq, run_nil, run_cons, run_gate, cont_some, gate_true, gate_false, hrun_nil, hrun_cons, hrun_gate, hcont_some, hgate_true, hgate_false, put_some, put_none, ev_t, ev_k, wantedA, execA, stepA, List.set_cons_succ, List.set_cons_zero, List.getD_cons_succ, List.getD_cons_zero, List.getElem?_cons_zero, List.getElem?_cons_succ, if_true, if_false, binA, binInt, unA, eqA, Option.map, eq_self, true_or, or_true, true_and, and_true, and_self, beq_self_eq_true, Bool.not_true, Bool.not_false, reduceCtorEq, Bool.false_eq_true, ite_true, ite_false, cellsAV, fitsAll, CK.fits, decide_true, Bool.and_true, Bool.true_and, fillA, AV.cells, writeN, readN, sliceCells, appendA, lenA, i64, loA, hiA, hcells_last, hown_last, List.take_zero, List.drop_zero, List.nil_append, List.cons_append, List.append_nil, List.take_nil, List.drop_nil, List.length_cons, List.length_nil, List.length_append, Nat.zero_add, Nat.add_zero, Nat.reduceAdd, Nat.reduceMul, Nat.reduceDiv, Nat.reduceSub, Nat.mul_one, Nat.one_mul, Nat.div_one, Nat.le_refl, Nat.reduceLeDiff, Nat.reduceLT, Int.toNat_natCast, Int.toNat_zero, Nat.zero_le, Int.natCast_nonneg, Int.reduceLE, Int.reduceLT, Option.some.injEq, foldA, maxA, minA, Cell.int.injEq, AV.c.injEq]; rfl) (AO_step rfl (exec_lenN (hy.kept (Kept.push _ _ _)) yl rfl) ?_))))
  refine AO_take 1 (by simp only [List.take_succ_cons, List.take_zero, List.drop_succ_cons, List.drop_zero, bne_self_eq_false, List.map_cons, List.map_nil, Bool.true_beq, Bool.false_beq, run_nil, run_cons, run_gate, cont_some, gate_true, gate_false, hrun_nil, hrun_cons, hrun_gate, hcont_some, hgate_true, hgate_false, put_some, put_none, ev_t, ev_k, wantedA, execA, stepA, List.set_cons_succ, List.set_cons_zero, List.getD_cons_succ, List.getD_cons_zero, List.getElem?_cons_zero, List.getElem?_cons_succ, if_true, if_false, binA, binInt, unA, eqA, Option.map, eq_self, true_or, or_true, true_and, and_true, and_self, beq_self_eq_true, Bool.not_true, Bool.not_false, reduceCtorEq, Bool.false_eq_true, ite_true, ite_false, cellsAV, fitsAll, CK.fits, decide_true, Bool.and_true, Bool.true_and, fillA, AV.cells, writeN, readN, sliceCells, appendA, lenA, i64, loA, hiA, hcells_last, hown_last, List.take_zero, List.drop_zero, List.nil_append, List.cons_append, List.append_nil, List.take_nil, List.drop_nil, List.length_cons, List.length_nil, List.length_append, Nat.zero_add, Nat.add_zero, Nat.reduceAdd, Nat.reduceMul, Nat.reduceDiv, Nat.reduceSub, Nat.mul_one, Nat.one_mul, Nat.div_one, Nat.le_refl, Nat.reduceLeDiff, Nat.reduceLT, Int.toNat_natCast, Int.toNat_zero, Nat.zero_le, Int.natCast_nonneg, Int.reduceLE, Int.reduceLT, Option.some.injEq, foldA, maxA, minA, Cell.int.injEq, AV.c.injEq]; rfl) (AO_nil (AW_block ?_))
  refine AW_loopN (wrInv (leB 4) y xs H) xs.length ⟨0, by omega, by omega, Kept.push _ _ _, .slc H.length 0 0 1, Own.one (cs := []) (Nat.le_refl _), stale _ _ rfl⟩ ?_
  rintro m fr H1 ⟨i, hi, hm, hk, x, hx, s, rfl⟩
  refine AW_seq (AW_run (by simp only [List.take_succ_cons, List.take_zero, List.drop_succ_cons, List.drop_zero, bne_self_eq_false, List.map_cons, List.map_nil, Bool.true_beq, Bool.false_beq, run_nil, run_cons, run_gate, cont_some, gate_true, gate_false, hrun_nil, hrun_cons, hrun_gate, hcont_some, hgate_true, hgate_false, put_some, put_none, ev_t, ev_k, wantedA, execA, stepA, List.set_cons_succ, List.set_cons_zero, List.getD_cons_succ, List.getD_cons_zero, List.getElem?_cons_zero, List.getElem?_cons_succ, if_true, if_false, binA, binInt, unA, eqA, Option.map, eq_self, true_or, or_true, true_and, and_true, and_self, beq_self_eq_true, Bool.not_true, Bool.not_false, reduceCtorEq, Bool.false_eq_true, ite_true, ite_false, cellsAV, fitsAll, CK.fits, decide_true, Bool.and_true, Bool.true_and, fillA, AV.cells, writeN, readN, sliceCells, appendA, lenA, i64, loA, hiA, hcells_last, hown_last, List.take_zero, List.drop_zero, List.nil_append, List.cons_append, List.append_nil, List.take_nil, List.drop_nil, List.length_cons, List.length_nil, List.length_append, Nat.zero_add, Nat.add_zero, Nat.reduceAdd, Nat.reduceMul, Nat.reduceDiv, Nat.reduceSub, Nat.mul_one, Nat.one_mul, Nat.div_one, Nat.le_refl, Nat.reduceLeDiff, Nat.reduceLT, Int.toNat_natCast, Int.toNat_zero, Nat.zero_le, Int.natCast_nonneg, Int.reduceLE, Int.reduceLT, Option.some.injEq, foldA, maxA, minA, Cell.int.injEq, AV.c.injEq]; rfl) (AW_seq (AW_cond rfl ?_ ?_)))
  · intro ht
    have ht : (i : Int) < xs.length := of_decide_eq_true ht
    have ht2 : i < xs.length := by omega
    obtain ⟨u, o, full, rfl, hfull, hget⟩ := (hy.kept hk).get (i := i) (by rw [W32_length]; exact ht2)
    rw [W32_get ht2] at hget
    have hlt : (i : Int) < ((W32 xs).length : Nat) := by rw [W32_length]; omega
    have e3 := place_succ (i := i) (n := xs.length) (by omega) hi
    have ef : flat (leB 4) xs (i + 1) = flat (leB 4) xs i ++ leB 4 (xs.getD i 0) := rfl
    have fli := fl4 i
    refine AW_skip (AW_seq (AW_block (AW_seq (AW_run (by simp only [List.take_succ_cons, List.take_zero, List.drop_succ_cons, List.drop_zero, bne_self_eq_false, List.map_cons, List.map_nil, Bool.true_beq, Bool.false_beq, run_nil, run_cons, run_gate, cont_some, gate_true, gate_false, hrun_nil, hrun_cons, hrun_gate, hcont_some, hgate_true, hgate_false, put_some, put_none, ev_t, ev_k, wantedA, execA, stepA, List.set_cons_succ, List.set_cons_zero, List.getD_cons_succ, List.getD_cons_zero, List.getElem?_cons_zero, List.getElem?_cons_succ, if_true, if_false, binA, binInt, unA, eqA, Option.map, eq_self, true_or, or_true, true_and, and_true, and_self, beq_self_eq_true, Bool.not_true, Bool.not_false, reduceCtorEq, Bool.false_eq_true, ite_true, ite_false, cellsAV, fitsAll, CK.fits, decide_true, Bool.and_true, Bool.true_and, fillA, AV.cells, writeN, readN, sliceCells, appendA, lenA, i64, loA, hiA, hcells_last, hown_last, List.take_zero, List.drop_zero, List.nil_append, List.cons_append, List.append_nil, List.take_nil, List.drop_nil, List.length_cons, List.length_nil, List.length_append, Nat.zero_add, Nat.add_zero, Nat.reduceAdd, Nat.reduceMul, Nat.reduceDiv, Nat.reduceSub, Nat.mul_one, Nat.one_mul, Nat.div_one, Nat.le_refl, Nat.reduceLeDiff, Nat.reduceLT, Int.toNat_natCast, Int.toNat_zero, Nat.zero_le, Int.natCast_nonneg, Int.reduceLE, Int.reduceLT, Option.some.injEq, foldA, maxA, minA, Cell.int.injEq, AV.c.injEq, hfull, hlt, hget]; rfl) ?_))))
    generalize xs.getD i 0 = w at *
    have s1 : shrA .u32 (w : Int) 8 = ((w / 256 : Nat) : Int) := shr_lit (q := 8) rfl (by decide)
    have s2 : shrA .u32 (w : Int) 16 = ((w / 65536 : Nat) : Int) := shr_lit (q := 16) rfl (by decide)
    have s3 : shrA .u32 (w : Int) 24 = ((w / 16777216 : Nat) : Int) := shr_lit (q := 24) rfl (by decide)
    refine AW_ops (AO_take 13 (by simp only [List.take_succ_cons, List.take_zero, List.drop_succ_cons, List.drop_zero, bne_self_eq_false, List.map_cons, List.map_nil, Bool.true_beq, Bool.false_beq, run_nil, run_cons, run_gate, cont_some, gate_true, gate_false, hrun_nil, hrun_cons, hrun_gate, hcont_some, hgate_true, hgate_false, put_some, put_none, ev_t, ev_k, wantedA, execA, stepA, List.set_cons_succ, List.set_cons_zero, List.getD_cons_succ, List.getD_cons_zero, List.getElem?_cons_zero, List.getElem?_cons_succ, if_true, if_false, binA, binInt, unA, eqA, Option.map, eq_self, true_or, or_true, true_and, and_true, and_self, beq_self_eq_true, Bool.not_true, Bool.not_false, reduceCtorEq, Bool.false_eq_true, ite_true, ite_false, cellsAV, fitsAll, CK.fits, decide_true, Bool.and_true, Bool.true_and, fillA, AV.cells, writeN, readN, sliceCells, appendA, lenA, i64, loA, hiA, hcells_last, hown_last, List.take_zero, List.drop_zero, List.nil_append, List.cons_append, List.append_nil, List.take_nil, List.drop_nil, List.length_cons, List.length_nil, List.length_append, Nat.zero_add, Nat.add_zero, Nat.reduceAdd, Nat.reduceMul, Nat.reduceDiv, Nat.reduceSub, Nat.mul_one, Nat.one_mul, Nat.div_one, Nat.le_refl, Nat.reduceLeDiff, Nat.reduceLT, Int.toNat_natCast, Int.toNat_zero, Nat.zero_le, Int.natCast_nonneg, Int.reduceLE, Int.reduceLT, Option.some.injEq, foldA, maxA, minA, Cell.int.injEq, AV.c.injEq, s1, s2, s3, byte_of, rep4, List.drop_succ_cons, List.take_succ_cons]; rfl) ?_)
    refine AO_append (f := H.length) hx.app (cells_last rfl) rfl (by omega) (by simp) (Nat.le_refl _) (by have := hk.1; simp; omega) (by simp [W8_length, fli]; omega) rfl rfl ?_
    intro x' H2 hx' k2 _
    rw [← leB4, ← W8_append, ← ef] at hx'
    refine AO_take 1 (by simp only [List.take_succ_cons, List.take_zero, List.drop_succ_cons, List.drop_zero, bne_self_eq_false, List.map_cons, List.map_nil, Bool.true_beq, Bool.false_beq, run_nil, run_cons, run_gate, cont_some, gate_true, gate_false, hrun_nil, hrun_cons, hrun_gate, hcont_some, hgate_true, hgate_false, put_some, put_none, ev_t, ev_k, wantedA, execA, stepA, List.set_cons_succ, List.set_cons_zero, List.getD_cons_succ, List.getD_cons_zero, List.getElem?_cons_zero, List.getElem?_cons_succ, if_true, if_false, binA, binInt, unA, eqA, Option.map, eq_self, true_or, or_true, true_and, and_true, and_self, beq_self_eq_true, Bool.not_true, Bool.not_false, reduceCtorEq, Bool.false_eq_true, ite_true, ite_false, cellsAV, fitsAll, CK.fits, decide_true, Bool.and_true, Bool.true_and, fillA, AV.cells, writeN, readN, sliceCells, appendA, lenA, i64, loA, hiA, hcells_last, hown_last, List.take_zero, List.drop_zero, List.nil_append, List.cons_append, List.append_nil, List.take_nil, List.drop_nil, List.length_cons, List.length_nil, List.length_append, Nat.zero_add, Nat.add_zero, Nat.reduceAdd, Nat.reduceMul, Nat.reduceDiv, Nat.reduceSub, Nat.mul_one, Nat.one_mul, Nat.div_one, Nat.le_refl, Nat.reduceLeDiff, Nat.reduceLT, Int.toNat_natCast, Int.toNat_zero, Nat.zero_le, Int.natCast_nonneg, Int.reduceLE, Int.reduceLT, Option.some.injEq, foldA, maxA, minA, Cell.int.injEq, AV.c.injEq]; rfl) (AO_nil ?_)
    exact AW_run (by simp only [List.take_succ_cons, List.take_zero, List.drop_succ_cons, List.drop_zero, bne_self_eq_false, List.map_cons, List.map_nil, Bool.true_beq, Bool.false_beq, run_nil, run_cons, run_gate, cont_some, gate_true, gate_false, hrun_nil, hrun_cons, hrun_gate, hcont_some, hgate_true, hgate_false, put_some, put_none, ev_t, ev_k, wantedA, execA, stepA, List.set_cons_succ, List.set_cons_zero, List.getD_cons_succ, List.getD_cons_zero, List.getElem?_cons_zero, List.getElem?_cons_succ, if_true, if_false, binA, binInt, unA, eqA, Option.map, eq_self, true_or, or_true, true_and, and_true, and_self, beq_self_eq_true, Bool.not_true, Bool.not_false, reduceCtorEq, Bool.false_eq_true, ite_true, ite_false, cellsAV, fitsAll, CK.fits, decide_true, Bool.and_true, Bool.true_and, fillA, AV.cells, writeN, readN, sliceCells, appendA, lenA, i64, loA, hiA, hcells_last, hown_last, List.take_zero, List.drop_zero, List.nil_append, List.cons_append, List.append_nil, List.take_nil, List.drop_nil, List.length_cons, List.length_nil, List.length_append, Nat.zero_add, Nat.add_zero, Nat.reduceAdd, Nat.reduceMul, Nat.reduceDiv, Nat.reduceSub, Nat.mul_one, Nat.one_mul, Nat.div_one, Nat.le_refl, Nat.reduceLeDiff, Nat.reduceLT, Int.toNat_natCast, Int.toNat_zero, Nat.zero_le, Int.natCast_nonneg, Int.reduceLE, Int.reduceLT, Option.some.injEq, foldA, maxA, minA, Cell.int.injEq, AV.c.injEq, e3]; rfl) ⟨xs.length - (i + 1), by omega, i + 1, by omega, rfl, hk.trans ((Kept.push _ _ _).trans k2), x', hx', stale _ _ (by rw [W32_length] <;> rfl)⟩
  · intro ht
    have ht : ¬ (i : Int) < xs.length := of_decide_eq_false ht
    obtain rfl : i = xs.length := by omega
    exact AW_exit (AW_seq (AW_run (by simp only [List.take_succ_cons, List.take_zero, List.drop_succ_cons, List.drop_zero, bne_self_eq_false, List.map_cons, List.map_nil, Bool.true_beq, Bool.false_beq, run_nil, run_cons, run_gate, cont_some, gate_true, gate_false, hrun_nil, hrun_cons, hrun_gate, hcont_some, hgate_true, hgate_false, put_some, put_none, ev_t, ev_k, wantedA, execA, stepA, List.set_cons_succ, List.set_cons_zero, List.getD_cons_succ, List.getD_cons_zero, List.getElem?_cons_zero, List.getElem?_cons_succ, if_true, if_false, binA, binInt, unA, eqA, Option.map, eq_self, true_or, or_true, true_and, and_true, and_self, beq_self_eq_true, Bool.not_true, Bool.not_false, reduceCtorEq, Bool.false_eq_true, ite_true, ite_false, cellsAV, fitsAll, CK.fits, decide_true, Bool.and_true, Bool.true_and, fillA, AV.cells, writeN, readN, sliceCells, appendA, lenA, i64, loA, hiA, hcells_last, hown_last, List.take_zero, List.drop_zero, List.nil_append, List.cons_append, List.append_nil, List.take_nil, List.drop_nil, List.length_cons, List.length_nil, List.length_append, Nat.zero_add, Nat.add_zero, Nat.reduceAdd, Nat.reduceMul, Nat.reduceDiv, Nat.reduceSub, Nat.mul_one, Nat.one_mul, Nat.div_one, Nat.le_refl, Nat.reduceLeDiff, Nat.reduceLT, Int.toNat_natCast, Int.toNat_zero, Nat.zero_le, Int.natCast_nonneg, Int.reduceLE, Int.reduceLT, Option.some.injEq, foldA, maxA, minA, Cell.int.injEq, AV.c.injEq]; rfl) (AW_ret ⟨_, rfl, x, rfl, hx⟩)))

theorem AC_Big32 (H : AHeap) (y : Cell) (xs : List Nat) (hy : Rd H y 1 (W32 xs)) (hl : xs.length ≤ 1000000) : AC A H.length F_words_Big32 [.c y] H (fun v H' => ∃ x, v = .c x ∧ Own H.length H' x 1 (W8 (flat (beB 4) xs xs.length))) := by
  have e1 : IntKind.i64.wrap (4 * (xs.length : Int)) = ((4 * xs.length : Nat) : Int) := by rw [wrap_i64_of (by omega) (by omega)]; omega
  have e2 : ((4 * xs.length : Nat) : Int) * (1 : Nat) ≤ 140737488355328 := by omega
  have yl : (W32 xs).length = xs.length := W32_length
  have fl4 := flat_length (beB_length 4) xs
  refine AC_enter t_words_Big32 ?_
  simp only [c_words_Big32, enterA, List.replicate, List.length_cons, List.length_nil, Nat.reduceAdd, Nat.reduceSub, List.cons_append, List.nil_append]
  refine AW_seq (AW_run (by simp only [List.take_succ_cons, List.take_zero, List.drop_succ_cons, List.drop_zero, bne_self_eq_false, List.map_cons, List.map_nil, Bool.true_beq, Bool.false_beq, run_nil, run_cons, run_gate, cont_some, gate_true, gate_false, hrun_nil, hrun_cons, hrun_gate, hcont_some, hgate_true, hgate_false, put_some, put_none, ev_t, ev_k, wantedA, execA, stepA, List.set_cons_succ, List.set_cons_zero, List.getD_cons_succ, List.getD_cons_zero, List.getElem?_cons_zero, List.getElem?_cons_succ, if_true, if_false, binA, binInt, unA, eqA, Option.map, eq_self, true_or, or_true, true_and, and_true, and_self, beq_self_eq_true, Bool.not_true, Bool.not_false, reduceCtorEq, Bool.false_eq_true, ite_true, ite_false, cellsAV, fitsAll, CK.fits, decide_true, Bool.and_true, Bool.true_and, fillA, AV.cells, writeN, readN, sliceCells, appendA, lenA, i64, loA, hiA, hcells_last, hown_last, List.take_zero, List.drop_zero, List.nil_append, List.cons_append, List.append_nil, List.take_nil, List.drop_nil, List.length_cons, List.length_nil, List.length_append, Nat.zero_add, Nat.add_zero, Nat.reduceAdd, Nat.reduceMul, Nat.reduceDiv, Nat.reduceSub, Nat.mul_one, Nat.one_mul, Nat.div_one, Nat.le_refl, Nat.reduceLeDiff, Nat.reduceLT, Int.toNat_natCast, Int.toNat_zero, Nat.zero_le, Int.natCast_nonneg, Int.reduceLE, Int.reduceLT, Option.some.injEq, foldA, maxA, minA, Cell.int.injEq, AV.c.injEq]; rfl) ?_)
  refine AW_seq (AW_ops (AO_take 1 (by simp only [List.take_succ_cons, List.take_zero, List.drop_succ_cons, List.drop_zero, bne_self_eq_false, List.map_cons, List.map_nil, Bool.true_beq, Bool.false_beq, run_nil, run_cons, run_gate, cont_some, gate_true, gate_false, hrun_nil, hrun_cons, hrun_gate, hcont_some, hgate_true, hgate_false, put_some, put_none, ev_t, ev_k, wantedA, execA, stepA, List.set_cons_succ, List.set_cons_zero, List.getD_cons_succ, List.getD_cons_zero, List.getElem?_cons_zero, List.getElem?_cons_succ, if_true, if_false, binA, binInt, unA, eqA, Option.map, eq_self, true_or, or_true, true_and, and_true, and_self, beq_self_eq_true, Bool.not_true, Bool.not_false, reduceCtorEq, Bool.false_eq_true, ite_true, ite_false, cellsAV, fitsAll, CK.fits, decide_true, Bool.and_true, Bool.true_and, fillA, AV.cells, writeN, readN, sliceCells, appendA, lenA, i64, loA, hiA, hcells_last, hown_last, List.take_zero, List.drop_zero, List.nil_append, List.cons_append, List.append_nil, List.take_nil, List.drop_nil, List.length_cons, List.length_nil, List.length_append, Nat.zero_add, Nat.add_zero, Nat.reduceAdd, Nat.reduceMul, Nat.reduceDiv, Nat.reduceSub, Nat.mul_one, Nat.one_mul, Nat.div_one, Nat.le_refl, Nat.reduceLeDiff, Nat.reduceLT, Int.toNat_natCast, Int.toNat_zero, Nat.zero_le, Int.natCast_nonneg, Int.reduceLE, Int.reduceLT, Option.some.injEq, foldA, maxA, minA, Cell.int.injEq, AV.c.injEq]; rfl) (AO_step rfl (exec_lenN hy yl rfl) ?_)))
  refine AO_take 3 (by simp only [List.take_succ_cons, List.take_zero, List.drop_succ_cons, List.drop_zero, bne_self_eq_false, List.map_cons, List.map_nil, Bool.true_beq, Bool.false_beq, run_nil, run_cons, run_gate, cont_some, gate_true, gate_false, hrun_nil, hrun_cons, hrun_gate, hcont_some, hgate_true, hgate_false, put_some, put_none, ev_t, ev_k, wantedA, execA, stepA, List.set_cons_succ, List.set_cons_zero, List.getD_cons_succ, List.getD_cons_zero, List.getElem?_cons_zero, List.getElem?_cons_succ, if_true, if_false, binA, binInt, unA, eqA, Option.map, eq_self, true_or, or_true, true_and, and_true, and_self, beq_self_eq_true, Bool.not_true, Bool.not_false, reduceCtorEq, Bool.false_eq_true, ite_true, ite_false, cellsAV, fitsAll, CK.fits, decide_true, Bool.and_true, Bool.true_and, fillA, AV.cells, writeN, readN, sliceCells, appendA, lenA, i64, loA, hiA, hcells_last, hown_last, List.take_zero, List.drop_zero, List.nil_append, List.cons_append, List.append_nil, List.take_nil, List.drop_nil, List.length_cons, List.length_nil, List.length_append, Nat.zero_add, Nat.add_zero, Nat.reduceAdd, Nat.reduceMul, Nat.reduceDiv, Nat.reduceSub, Nat.mul_one, Nat.one_mul, Nat.div_one, Nat.le_refl, Nat.reduceLeDiff, Nat.reduceLT, Int.toNat_natCast, Int.toNat_zero, Nat.zero_le, Int.natCast_nonneg, Int.reduceLE, Int.reduceLT, Option.some.injEq, foldA, maxA, minA, Cell.int.injEq, AV.c.injEq, e1, e2, List.replicate_zero, List.flatten_nil, Int.le_refl]; rfl) (AO_nil ?_)
  refine AW_seq (AW_seq (AW_ops (AO_take 1 (by simp only [List.take_succ_cons, List.take_zero, List.drop_succ_cons, List.drop_zero, bne_self_eq_false, List.map_cons, List.map_nil, Bool.true_beq, Bool.false_beq, run_nil, run_cons, run_gate, cont_some, gate_true, gate_false, hrun_nil, hrun_cons, hrun_gate, hcont_some, hgate_true, hgate_false, put_some, put_none, ev_t, ev_k, wantedA, execA, stepA, List.set_cons_succ, List.set_cons_zero, List.getD_cons_succ, List.getD_cons_zero, List.getElem?_cons_zero, List.getElem?_cons_succ, if_true, if_false, binA, binInt, unA, eqA, Option.map, eq_self, true_or, or_true, true_and, and_true, and_self, beq_self_eq_true, Bool.not_true, Bool.not_false, reduceCtorEq, Bool.false_eq_true, ite_true, ite_false, cellsAV, fitsAll, CK.fits, decide_true, Bool.and_true, Bool.true_and, fillA, AV.cells, writeN, readN, sliceCells, appendA, lenA, i64, loA, hiA, hcells_last, hown_last, List.take_zero, List.drop_zero, List.nil_append, List.cons_append, List.append_nil, List.take_nil, List.drop_nil, List.length_cons, List.length_nil, List.length_append, Nat.zero_add, Nat.add_zero, Nat.reduceAdd, Nat.reduceMul, Nat.reduceDiv, Nat.reduceSub, Nat.mul_one, Nat.one_mul, Nat.div_one, Nat.le_refl, Nat.reduceLeDiff, Nat.reduceLT, Int.toNat_natCast, Int.toNat_zero, Nat.zero_le, Int.natCast_nonneg, Int.reduceLE, Int.reduceLT, Option.some.injEq, foldA, maxA, minA, Cell.int.injEq, AV.c.injEq]; rfl) (AO_step rfl (exec_lenN (hy.kept (Kept.push _ _ _)) yl rfl) ?_))))
  refine AO_take 1 (by simp only [List.take_succ_cons, List.take_zero, List.drop_succ_cons, List.drop_zero, bne_self_eq_false, List.map_cons, List.map_nil, Bool.true_beq, Bool.false_beq, run_nil, run_cons, run_gate, cont_some, gate_true, gate_false, hrun_nil, hrun_cons, hrun_gate, hcont_some, hgate_true, hgate_false, put_some, put_none, ev_t, ev_k, wantedA, execA, stepA, List.set_cons_succ, List.set_cons_zero, List.getD_cons_succ, List.getD_cons_zero, List.getElem?_cons_zero, List.getElem?_cons_succ, if_true, if_false, binA, binInt, unA, eqA, Option.map, eq_self, true_or, or_true, true_and, and_true, and_self, beq_self_eq_true, Bool.not_true, Bool.not_false, reduceCtorEq, Bool.false_eq_true, ite_true, ite_false, cellsAV, fitsAll, CK.fits, decide_true, Bool.and_true, Bool.true_and, fillA, AV.cells, writeN, readN, sliceCells, appendA, lenA, i64, loA, hiA, hcells_last, hown_last, List.take_zero, List.drop_zero, List.nil_append, List.cons_append, List.append_nil, List.take_nil, List.drop_nil, List.length_cons, List.length_nil, List.length_append, Nat.zero_add, Nat.add_zero, Nat.reduceAdd, Nat.reduceMul, Nat.reduceDiv, Nat.reduceSub, Nat.mul_one, Nat.one_mul, Nat.div_one, Nat.le_refl, Nat.reduceLeDiff, Nat.reduceLT, Int.toNat_natCast, Int.toNat_zero, Nat.zero_le, Int.natCast_nonneg, Int.reduceLE, Int.reduceLT, Option.some.injEq, foldA, maxA, minA, Cell.int.injEq, AV.c.injEq]; rfl) (AO_nil (AW_block ?_))
  refine AW_loopN (wrInv (beB 4) y xs H) xs.length ⟨0, by omega, by omega, Kept.push _ _ _, .slc H.length 0 0 1, Own.one (cs := []) (Nat.le_refl _), stale _ _ rfl⟩ ?_
  rintro m fr H1 ⟨i, hi, hm, hk, x, hx, s, rfl⟩
  refine AW_seq (AW_run (by simp only [List.take_succ_cons, List.take_zero, List.drop_succ_cons, List.drop_zero, bne_self_eq_false, List.map_cons, List.map_nil, Bool.true_beq, Bool.false_beq, run_nil, run_cons, run_gate, cont_some, gate_true, gate_false, hrun_nil, hrun_cons, hrun_gate, hcont_some, hgate_true, hgate_false, put_some, put_none, ev_t, ev_k, wantedA, execA, stepA, List.set_cons_succ, List.set_cons_zero, List.getD_cons_succ, List.getD_cons_zero, List.getElem?_cons_zero, List.getElem?_cons_succ, if_true, if_false, binA, binInt, unA, eqA, Option.map, eq_self, true_or, or_true, true_and, and_true, and_self, beq_self_eq_true, Bool.not_true, Bool.not_false, reduceCtorEq, Bool.false_eq_true, ite_true, ite_false, cellsAV, fitsAll, CK.fits, decide_true, Bool.and_true, Bool.true_and, fillA, AV.cells, writeN, readN, sliceCells, appendA, lenA, i64, loA, hiA, hcells_last, hown_last, List.take_zero, List.drop_zero, List.nil_append, List.cons_append, List.append_nil, List.take_nil, List.drop_nil, List.length_cons, List.length_nil, List.length_append, Nat.zero_add, Nat.add_zero, Nat.reduceAdd, Nat.reduceMul, Nat.reduceDiv, Nat.reduceSub, Nat.mul_one, Nat.one_mul, Nat.div_one, Nat.le_refl, Nat.reduceLeDiff, Nat.reduceLT, Int.toNat_natCast, Int.toNat_zero, Nat.zero_le, Int.natCast_nonneg, Int.reduceLE, Int.reduceLT, Option.some.injEq, foldA, maxA, minA, Cell.int.injEq, AV.c.injEq]; rfl) (AW_seq (AW_cond rfl ?_ ?_)))
  · intro ht
    have ht : (i : Int) < xs.length := of_decide_eq_true ht
    have ht2 : i < xs.length := by omega
    obtain ⟨u, o, full, rfl, hfull, hget⟩ := (hy.kept hk).get (i := i) (by rw [W32_length]; exact ht2)
    rw [W32_get ht2] at hget
    have hlt : (i : Int) < ((W32 xs).length : Nat) := by rw [W32_length]; omega
    have e3 := place_succ (i := i) (n := xs.length) (by omega) hi
    have ef : flat (beB 4) xs (i + 1) = flat (beB 4) xs i ++ beB 4 (xs.getD i 0) := rfl
    have fli := fl4 i
    refine AW_skip (AW_seq (AW_block (AW_seq (AW_run (by simp only [List.take_succ_cons, List.take_zero, List.drop_succ_cons, List.drop_zero, bne_self_eq_false, List.map_cons, List.map_nil, Bool.true_beq, Bool.false_beq, run_nil, run_cons, run_gate, cont_some, gate_true, gate_false, hrun_nil, hrun_cons, hrun_gate, hcont_some, hgate_true, hgate_false, put_some, put_none, ev_t, ev_k, wantedA, execA, stepA, List.set_cons_succ, List.set_cons_zero, List.getD_cons_succ, List.getD_cons_zero, List.getElem?_cons_zero, List.getElem?_cons_succ, if_true, if_false, binA, binInt, unA, eqA, Option.map, eq_self, true_or, or_true, true_and, and_true, and_self, beq_self_eq_true, Bool.not_true, Bool.not_false, reduceCtorEq, Bool.false_eq_true, ite_true, ite_false, cellsAV, fitsAll, CK.fits, decide_true, Bool.and_true, Bool.true_and, fillA, AV.cells, writeN, readN, sliceCells, appendA, lenA, i64, loA, hiA, hcells_last, hown_last, List.take_zero, List.drop_zero, List.nil_append, List.cons_append, List.append_nil, List.take_nil, List.drop_nil, List.length_cons, List.length_nil, List.length_append, Nat.zero_add, Nat.add_zero, Nat.reduceAdd, Nat.reduceMul, Nat.reduceDiv, Nat.reduceSub, Nat.mul_one, Nat.one_mul, Nat.div_one, Nat.le_refl, Nat.reduceLeDiff, Nat.reduceLT, Int.toNat_natCast, Int.toNat_zero, Nat.zero_le, Int.natCast_nonneg, Int.reduceLE, Int.reduceLT, Option.some.injEq, foldA, maxA, minA, Cell.int.injEq, AV.c.injEq, hfull, hlt, hget]; rfl) ?_))))
    generalize xs.getD i 0 = w at *
    have s1 : shrA .u32 (w : Int) 8 = ((w / 256 : Nat) : Int) := shr_lit (q := 8) rfl (by decide)
    have s2 : shrA .u32 (w : Int) 16 = ((w / 65536 : Nat) : Int) := shr_lit (q := 16) rfl (by decide)
    have s3 : shrA .u32 (w : Int) 24 = ((w / 16777216 : Nat) : Int) := shr_lit (q := 24) rfl (by decide)
    refine AW_ops (AO_take 13 (by simp only [List.take_succ_cons, List.take_zero, List.drop_succ_cons, List.drop_zero, bne_self_eq_false, List.map_cons, List.map_nil, Bool.true_beq, Bool.false_beq, run_nil, run_cons, run_gate, cont_some, gate_true, gate_false, hrun_nil, hrun_cons, hrun_gate, hcont_some, hgate_true, hgate_false, put_some, put_none, ev_t, ev_k, wantedA, execA, stepA, List.set_cons_succ, List.set_cons_zero, List.getD_cons_succ, List.getD_cons_zero, List.getElem?_cons_zero, List.getElem?_cons_succ, if_true, if_false, binA, binInt, unA, eqA, Option.map, eq_self, true_or, or_true, true_and, and_true, and_self, beq_self_eq_true, Bool.not_true, Bool.not_false, reduceCtorEq, Bool.false_eq_true, ite_true, ite_false, cellsAV, fitsAll, CK.fits, decide_true, Bool.and_true, Bool.true_and, fillA, AV.cells, writeN, readN, sliceCells, appendA, lenA, i64, loA, hiA, hcells_last, hown_last, List.take_zero, List.drop_zero, List.nil_append, List.cons_append, List.append_nil, List.take_nil, List.drop_nil, List.length_cons, List.length_nil, List.length_append, Nat.zero_add, Nat.add_zero, Nat.reduceAdd, Nat.reduceMul, Nat.reduceDiv, Nat.reduceSub, Nat.mul_one, Nat.one_mul, Nat.div_one, Nat.le_refl, Nat.reduceLeDiff, Nat.reduceLT, Int.toNat_natCast, Int.toNat_zero, Nat.zero_le, Int.natCast_nonneg, Int.reduceLE, Int.reduceLT, Option.some.injEq, foldA, maxA, minA, Cell.int.injEq, AV.c.injEq, s1, s2, s3, byte_of, rep4, List.drop_succ_cons, List.take_succ_cons]; rfl) ?_)
    refine AO_append (f := H.length) hx.app (cells_last rfl) rfl (by omega) (by simp) (Nat.le_refl _) (by have := hk.1; simp; omega) (by simp [W8_length, fli]; omega) rfl rfl ?_
    intro x' H2 hx' k2 _
    rw [← beB4, ← W8_append, ← ef] at hx'
    refine AO_take 1 (by simp only [List.take_succ_cons, List.take_zero, List.drop_succ_cons, List.drop_zero, bne_self_eq_false, List.map_cons, List.map_nil, Bool.true_beq, Bool.false_beq, run_nil, run_cons, run_gate, cont_some, gate_true, gate_false, hrun_nil, hrun_cons, hrun_gate, hcont_some, hgate_true, hgate_false, put_some, put_none, ev_t, ev_k, wantedA, execA, stepA, List.set_cons_succ, List.set_cons_zero, List.getD_cons_succ, List.getD_cons_zero, List.getElem?_cons_zero, List.getElem?_cons_succ, if_true, if_false, binA, binInt, unA, eqA, Option.map, eq_self, true_or, or_true, true_and, and_true, and_self, beq_self_eq_true, Bool.not_true, Bool.not_false, reduceCtorEq, Bool.false_eq_true, ite_true, ite_false, cellsAV, fitsAll, CK.fits, decide_true, Bool.and_true, Bool.true_and, fillA, AV.cells, writeN, readN, sliceCells, appendA, lenA, i64, loA, hiA, hcells_last, hown_last, List.take_zero, List.drop_zero, List.nil_append, List.cons_append, List.append_nil, List.take_nil, List.drop_nil, List.length_cons, List.length_nil, List.length_append, Nat.zero_add, Nat.add_zero, Nat.reduceAdd, Nat.reduceMul, Nat.reduceDiv, Nat.reduceSub, Nat.mul_one, Nat.one_mul, Nat.div_one, Nat.le_refl, Nat.reduceLeDiff, Nat.reduceLT, Int.toNat_natCast, Int.toNat_zero, Nat.zero_le, Int.natCast_nonneg, Int.reduceLE, Int.reduceLT, Option.some.injEq, foldA, maxA, minA, Cell.int.injEq, AV.c.injEq]; rfl) (AO_nil ?_)
    exact AW_run (by simp only [List.take_succ_cons, List.take_zero, List.drop_succ_cons, List.drop_zero, bne_self_eq_false, List.map_cons, List.map_nil, Bool.true_beq, Bool.false_beq, run_nil, run_cons, run_gate, cont_some, gate_true, gate_false, hrun_nil, hrun_cons, hrun_gate, hcont_some, hgate_true, hgate_false, put_some, put_none, ev_t, ev_k, wantedA, execA, stepA, List.set_cons_succ, List.set_cons_zero, List.getD_cons_succ, List.getD_cons_zero, List.getElem?_cons_zero, List.getElem?_cons_succ, if_true, if_false, binA, binInt, unA, eqA, Option.map, eq_self, true_or, or_true, true_and, and_true, and_self, beq_self_eq_true, Bool.not_true, Bool.not_false, reduceCtorEq, Bool.false_eq_true, ite_true, ite_false, cellsAV, fitsAll, CK.fits, decide_true, Bool.and_true, Bool.true_and, fillA, AV.cells, writeN, readN, sliceCells, appendA, lenA, i64, loA, hiA, hcells_last, hown_last, List.take_zero, List.drop_zero, List.nil_append, List.cons_append, List.append_nil, List.take_nil, List.drop_nil, List.length_cons, List.length_nil, List.length_append, Nat.zero_add, Nat.add_zero, Nat.reduceAdd, Nat.reduceMul, Nat.reduceDiv, Nat.reduceSub, Nat.mul_one, Nat.one_mul, Nat.div_one, Nat.le_refl, Nat.reduceLeDiff, Nat.reduceLT, Int.toNat_natCast, Int.toNat_zero, Nat.zero_le, Int.natCast_nonneg, Int.reduceLE, Int.reduceLT, Option.some.injEq, foldA, maxA, minA, Cell.int.injEq, AV.c.injEq, e3]; rfl) ⟨xs.length - (i + 1), by omega, i + 1, by omega, rfl, hk.trans ((Kept.push _ _ _).trans k2), x', hx', stale _ _ (by rw [W32_length] <;> rfl)⟩
  · intro ht
    have ht : ¬ (i : Int) < xs.length := of_decide_eq_false ht
    obtain rfl : i = xs.length := by omega
    exact AW_exit (AW_seq (AW_run (by simp only [List.take_succ_cons, List.take_zero, List.drop_succ_cons, List.drop_zero, bne_self_eq_false, List.map_cons, List.map_nil, Bool.true_beq, Bool.false_beq, run_nil, run_cons, run_gate, cont_some, gate_true, gate_false, hrun_nil, hrun_cons, hrun_gate, hcont_some, hgate_true, hgate_false, put_some, put_none, ev_t, ev_k, wantedA, execA, stepA, List.set_cons_succ, List.set_cons_zero, List.getD_cons_succ, List.getD_cons_zero, List.getElem?_cons_zero, List.getElem?_cons_succ, if_true, if_false, binA, binInt, unA, eqA, Option.map, eq_self, true_or, or_true, true_and, and_true, and_self, beq_self_eq_true, Bool.not_true, Bool.not_false, reduceCtorEq, Bool.false_eq_true, ite_true, ite_false, cellsAV, fitsAll, CK.fits, decide_true, Bool.and_true, Bool.true_and, fillA, AV.cells, writeN, readN, sliceCells, appendA, lenA, i64, loA, hiA, hcells_last, hown_last, List.take_zero, List.drop_zero, List.nil_append, List.cons_append, List.append_nil, List.take_nil, List.drop_nil, List.length_cons, List.length_nil, List.length_append, Nat.zero_add, Nat.add_zero, Nat.reduceAdd, Nat.reduceMul, Nat.reduceDiv, Nat.reduceSub, Nat.mul_one, Nat.one_mul, Nat.div_one, Nat.le_refl, Nat.reduceLeDiff, Nat.reduceLT, Int.toNat_natCast, Int.toNat_zero, Nat.zero_le, Int.natCast_nonneg, Int.reduceLE, Int.reduceLT, Option.some.injEq, foldA, maxA, minA, Cell.int.injEq, AV.c.injEq]; rfl) (AW_ret ⟨_, rfl, x, rfl, hx⟩)))

def W64w (xs : List Nat) : List Cell := xs.map fun (n : Nat) => Cell.int .u64 (n : Int)
theorem W64w_length {xs : List Nat} : (W64w xs).length = xs.length := by simp [W64w]
theorem W64w_get {xs : List Nat} {i : Nat} (h : i < xs.length) : (W64w xs)[i]? = some (.int .u64 ((xs.getD i 0 : Nat) : Int)) := by simp [W64w, h]




def wr64Inv (g : Nat → List Nat) (y : Cell) (xs : List Nat) (H0 : AHeap) (m : Nat) (fr : AFrame) (H : AHeap) : Prop := ∃ i : Nat, i ≤ xs.length ∧ m = xs.length - i ∧ Kept H0.length H0 H ∧ ∃ x, Own H0.length H x 1 (W8 (flat g xs i)) ∧ (∃ s : Nat → AV, fr = [.c y, s 1, .c .snil, .c x, s 4, s 5, s 6, s 7, s 8, s 9, s 10, .c y, .c (.int .i64 (xs.length : Int)), .c (.int .i64 (i : Int)), s 14, s 15, s 16, s 17, s 18, s 19, s 20, s 21, s 22, s 23, s 24, s 25, s 26, s 27, s 28, s 29, s 30])
def be64Inv (y : Cell) (xs : List Nat) (i w : Nat) (H0 : AHeap) (k : Nat) (fr : AFrame) (H : AHeap) : Prop := k ≤ 8 ∧ Kept H0.length H0 H ∧ ∃ x, Own H0.length H x 1 (W8 (flat (beB 8) xs i ++ ((leB 8 w).drop k).reverse)) ∧ (∃ s : Nat → AV, fr = [.c y, s 1, .c .snil, .c x, s 4, .c (.int .u64 (w : Int)), .c (.int .i64 ((k : Int) - 1)), s 7, s 8, s 9, s 10, .c y, .c (.int .i64 (xs.length : Int)), .c (.int .i64 (i : Int)), s 14, s 15, s 16, s 17, s 18, s 19, s 20, s 21, s 22, s 23, s 24, s 25, s 26, s 27, s 28, s 29, s 30])
theorem pow8 (k : Nat) : 2 ^ (8 * k) = 256 ^ k := by rw [Nat.pow_mul]

theorem AC_Big64 (H : AHeap) (y : Cell) (xs : List Nat) (hy : Rd H y 1 (W64w xs)) (hl : xs.length ≤ 1000000) : AC A H.length F_words_Big64 [.c y] H (fun v H' => ∃ x, v = .c x ∧ Own H.length H' x 1 (W8 (flat (beB 8) xs xs.length))) := by
  have e1 : IntKind.i64.wrap (8 * (xs.length : Int)) = ((8 * xs.length : Nat) : Int) := by rw [wrap_i64_of (by omega) (by omega)]; omega
  have e2 : ((8 * xs.length : Nat) : Int) * (1 : Nat) ≤ 140737488355328 := by omega
  have yl : (W64w xs).length = xs.length := W64w_length
  have fl4 := flat_length (beB_length 8) xs
  refine AC_enter t_words_Big64 ?_
  simp only [c_words_Big64, enterA, List.replicate, List.length_cons, List.length_nil, Nat.reduceAdd, Nat.reduceSub, List.cons_append, List.nil_append]
  refine AW_seq (AW_run (by simp only [List.take_succ_cons, List.take_zero, List.drop_succ_cons, List.drop_zero, bne_self_eq_false, List.map_cons, List.map_nil, Bool.true_beq, Bool.false_beq, run_nil, run_cons, run_gate, cont_some, gate_true, gate_false, hrun_nil, hrun_cons, hrun_gate, hcont_some, hgate_true, hgate_false, put_some, put_none, ev_t, ev_k, wantedA, execA, stepA, List.set_cons_succ, List.set_cons_zero, List.getD_cons_succ, List.getD_cons_zero, List.getElem?_cons_zero, List.getElem?_cons_succ, if_true, if_false, binA, binInt, unA, eqA, Option.map, eq_self, true_or, or_true, true_and, and_true, and_self, beq_self_eq_true, Bool.not_true, Bool.not_false, reduceCtorEq, Bool.false_eq_true, ite_true, ite_false, cellsAV, fitsAll, CK.fits, decide_true, Bool.and_true, Bool.true_and, fillA, AV.cells, writeN, readN, sliceCells, appendA, lenA, i64, loA, hiA, hcells_last, hown_last, List.take_zero, List.drop_zero, List.nil_append, List.cons_append, List.append_nil, List.take_nil, List.drop_nil, List.length_cons, List.length_nil, List.length_append, Nat.zero_add, Nat.add_zero, Nat.reduceAdd, Nat.reduceMul, Nat.reduceDiv, Nat.reduceSub, Nat.mul_one, Nat.one_mul, Nat.div_one, Nat.le_refl, Nat.reduceLeDiff, Nat.reduceLT, Int.toNat_natCast, Int.toNat_zero, Nat.zero_le, Int.natCast_nonneg, Int.reduceLE, Int.reduceLT, Option.some.injEq, foldA, maxA, minA, Cell.int.injEq, AV.c.injEq]; rfl) ?_)
  refine AW_seq (AW_ops (AO_take 1 (by simp only [List.take_succ_cons, List.take_zero, List.drop_succ_cons, List.drop_zero, bne_self_eq_false, List.map_cons, List.map_nil, Bool.true_beq, Bool.false_beq, run_nil, run_cons, run_gate, cont_some, gate_true, gate_false, hrun_nil, hrun_cons, hrun_gate, hcont_some, hgate_true, hgate_false, put_some, put_none, ev_t, ev_k, wantedA, execA, stepA, List.set_cons_succ, List.set_cons_zero, List.getD_cons_succ, List.getD_cons_zero, List.getElem?_cons_zero, List.getElem?_cons_succ, if_true, if_false, binA, binInt, unA, eqA, Option.map, eq_self, true_or, or_true, true_and, and_true, and_self, beq_self_eq_true, Bool.not_true, Bool.not_false, reduceCtorEq, Bool.false_eq_true, ite_true, ite_false, cellsAV, fitsAll, CK.fits, decide_true, Bool.and_true, Bool.true_and, fillA, AV.cells, writeN, readN, sliceCells, appendA, lenA, i64, loA, hiA, hcells_last, hown_last, List.take_zero, List.drop_zero, List.nil_append, List.cons_append, List.append_nil, List.take_nil, List.drop_nil, List.length_cons, List.length_nil, List.length_append, Nat.zero_add, Nat.add_zero, Nat.reduceAdd, Nat.reduceMul, Nat.reduceDiv, Nat.reduceSub, Nat.mul_one, Nat.one_mul, Nat.div_one, Nat.le_refl, Nat.reduceLeDiff, Nat.reduceLT, Int.toNat_natCast, Int.toNat_zero, Nat.zero_le, Int.natCast_nonneg, Int.reduceLE, Int.reduceLT, Option.some.injEq, foldA, maxA, minA, Cell.int.injEq, AV.c.injEq]; rfl) (AO_step rfl (exec_lenN hy yl rfl) ?_)))
  refine AO_take 3 (by simp only [List.take_succ_cons, List.take_zero, List.drop_succ_cons, List.drop_zero, bne_self_eq_false, List.map_cons, List.map_nil, Bool.true_beq, Bool.false_beq, run_nil, run_cons, run_gate, cont_some, gate_true, gate_false, hrun_nil, hrun_cons, hrun_gate, hcont_some, hgate_true, hgate_false, put_some, put_none, ev_t, ev_k, wantedA, execA, stepA, List.set_cons_succ, List.set_cons_zero, List.getD_cons_succ, List.getD_cons_zero, List.getElem?_cons_zero, List.getElem?_cons_succ, if_true, if_false, binA, binInt, unA, eqA, Option.map, eq_self, true_or, or_true, true_and, and_true, and_self, beq_self_eq_true, Bool.not_true, Bool.not_false, reduceCtorEq, Bool.false_eq_true, ite_true, ite_false, cellsAV, fitsAll, CK.fits, decide_true, Bool.and_true, Bool.true_and, fillA, AV.cells, writeN, readN, sliceCells, appendA, lenA, i64, loA, hiA, hcells_last, hown_last, List.take_zero, List.drop_zero, List.nil_append, List.cons_append, List.append_nil, List.take_nil, List.drop_nil, List.length_cons, List.length_nil, List.length_append, Nat.zero_add, Nat.add_zero, Nat.reduceAdd, Nat.reduceMul, Nat.reduceDiv, Nat.reduceSub, Nat.mul_one, Nat.one_mul, Nat.div_one, Nat.le_refl, Nat.reduceLeDiff, Nat.reduceLT, Int.toNat_natCast, Int.toNat_zero, Nat.zero_le, Int.natCast_nonneg, Int.reduceLE, Int.reduceLT, Option.some.injEq, foldA, maxA, minA, Cell.int.injEq, AV.c.injEq, e1, e2, List.replicate_zero, List.flatten_nil, Int.le_refl]; rfl) (AO_nil ?_)
  refine AW_seq (AW_seq (AW_ops (AO_take 1 (by simp only [List.take_succ_cons, List.take_zero, List.drop_succ_cons, List.drop_zero, bne_self_eq_false, List.map_cons, List.map_nil, Bool.true_beq, Bool.false_beq, run_nil, run_cons, run_gate, cont_some, gate_true, gate_false, hrun_nil, hrun_cons, hrun_gate, hcont_some, hgate_true, hgate_false, put_some, put_none, ev_t, ev_k, wantedA, execA, stepA, List.set_cons_succ, List.set_cons_zero, List.getD_cons_succ, List.getD_cons_zero, List.getElem?_cons_zero, List.getElem?_cons_succ, if_true, if_false, binA, binInt, unA, eqA, Option.map, eq_self, true_or, or_true, true_and, and_true, and_self, beq_self_eq_true, Bool.not_true, Bool.not_false, reduceCtorEq, Bool.false_eq_true, ite_true, ite_false, cellsAV, fitsAll, CK.fits, decide_true, Bool.and_true, Bool.true_and, fillA, AV.cells, writeN, readN, sliceCells, appendA, lenA, i64, loA, hiA, hcells_last, hown_last, List.take_zero, List.drop_zero, List.nil_append, List.cons_append, List.append_nil, List.take_nil, List.drop_nil, List.length_cons, List.length_nil, List.length_append, Nat.zero_add, Nat.add_zero, Nat.reduceAdd, Nat.reduceMul, Nat.reduceDiv, Nat.reduceSub, Nat.mul_one, Nat.one_mul, Nat.div_one, Nat.le_refl, Nat.reduceLeDiff, Nat.reduceLT, Int.toNat_natCast, Int.toNat_zero, Nat.zero_le, Int.natCast_nonneg, Int.reduceLE, Int.reduceLT, Option.some.injEq, foldA, maxA, minA, Cell.int.injEq, AV.c.injEq]; rfl) (AO_step rfl (exec_lenN (hy.kept (Kept.push _ _ _)) yl rfl) ?_))))
  refine AO_take 1 (by simp only [List.take_succ_cons, List.take_zero, List.drop_succ_cons, List.drop_zero, bne_self_eq_false, List.map_cons, List.map_nil, Bool.true_beq, Bool.false_beq, run_nil, run_cons, run_gate, cont_some, gate_true, gate_false, hrun_nil, hrun_cons, hrun_gate, hcont_some, hgate_true, hgate_false, put_some, put_none, ev_t, ev_k, wantedA, execA, stepA, List.set_cons_succ, List.set_cons_zero, List.getD_cons_succ, List.getD_cons_zero, List.getElem?_cons_zero, List.getElem?_cons_succ, if_true, if_false, binA, binInt, unA, eqA, Option.map, eq_self, true_or, or_true, true_and, and_true, and_self, beq_self_eq_true, Bool.not_true, Bool.not_false, reduceCtorEq, Bool.false_eq_true, ite_true, ite_false, cellsAV, fitsAll, CK.fits, decide_true, Bool.and_true, Bool.true_and, fillA, AV.cells, writeN, readN, sliceCells, appendA, lenA, i64, loA, hiA, hcells_last, hown_last, List.take_zero, List.drop_zero, List.nil_append, List.cons_append, List.append_nil, List.take_nil, List.drop_nil, List.length_cons, List.length_nil, List.length_append, Nat.zero_add, Nat.add_zero, Nat.reduceAdd, Nat.reduceMul, Nat.reduceDiv, Nat.reduceSub, Nat.mul_one, Nat.one_mul, Nat.div_one, Nat.le_refl, Nat.reduceLeDiff, Nat.reduceLT, Int.toNat_natCast, Int.toNat_zero, Nat.zero_le, Int.natCast_nonneg, Int.reduceLE, Int.reduceLT, Option.some.injEq, foldA, maxA, minA, Cell.int.injEq, AV.c.injEq]; rfl) (AO_nil (AW_block ?_))
  refine AW_loopN (wr64Inv (beB 8) y xs H) xs.length ⟨0, by omega, by omega, Kept.push _ _ _, .slc H.length 0 0 1, Own.one (cs := []) (Nat.le_refl _), stale _ _ rfl⟩ ?_
  rintro m fr H1 ⟨i, hi, hm, hk, x, hx, s, rfl⟩
  refine AW_seq (AW_run (by simp only [List.take_succ_cons, List.take_zero, List.drop_succ_cons, List.drop_zero, bne_self_eq_false, List.map_cons, List.map_nil, Bool.true_beq, Bool.false_beq, run_nil, run_cons, run_gate, cont_some, gate_true, gate_false, hrun_nil, hrun_cons, hrun_gate, hcont_some, hgate_true, hgate_false, put_some, put_none, ev_t, ev_k, wantedA, execA, stepA, List.set_cons_succ, List.set_cons_zero, List.getD_cons_succ, List.getD_cons_zero, List.getElem?_cons_zero, List.getElem?_cons_succ, if_true, if_false, binA, binInt, unA, eqA, Option.map, eq_self, true_or, or_true, true_and, and_true, and_self, beq_self_eq_true, Bool.not_true, Bool.not_false, reduceCtorEq, Bool.false_eq_true, ite_true, ite_false, cellsAV, fitsAll, CK.fits, decide_true, Bool.and_true, Bool.true_and, fillA, AV.cells, writeN, readN, sliceCells, appendA, lenA, i64, loA, hiA, hcells_last, hown_last, List.take_zero, List.drop_zero, List.nil_append, List.cons_append, List.append_nil, List.take_nil, List.drop_nil, List.length_cons, List.length_nil, List.length_append, Nat.zero_add, Nat.add_zero, Nat.reduceAdd, Nat.reduceMul, Nat.reduceDiv, Nat.reduceSub, Nat.mul_one, Nat.one_mul, Nat.div_one, Nat.le_refl, Nat.reduceLeDiff, Nat.reduceLT, Int.toNat_natCast, Int.toNat_zero, Nat.zero_le, Int.natCast_nonneg, Int.reduceLE, Int.reduceLT, Option.some.injEq, foldA, maxA, minA, Cell.int.injEq, AV.c.injEq]; rfl) (AW_seq (AW_cond rfl ?_ ?_)))
  · intro ht
    have ht : (i : Int) < xs.length := of_decide_eq_true ht
    have ht2 : i < xs.length := by omega
    obtain ⟨u, o, full, rfl, hfull, hget⟩ := (hy.kept hk).get (i := i) (by rw [W64w_length]; exact ht2)
    rw [W64w_get ht2] at hget
    have hlt : (i : Int) < ((W64w xs).length : Nat) := by rw [W64w_length]; omega
    have e3 := place_succ (i := i) (n := xs.length) (by omega) hi
    have ef : flat (beB 8) xs (i + 1) = flat (beB 8) xs i ++ beB 8 (xs.getD i 0) := rfl
    have fli := fl4 i
    refine AW_skip (AW_seq (AW_block (AW_seq (AW_run (by simp only [List.take_succ_cons, List.take_zero, List.drop_succ_cons, List.drop_zero, bne_self_eq_false, List.map_cons, List.map_nil, Bool.true_beq, Bool.false_beq, run_nil, run_cons, run_gate, cont_some, gate_true, gate_false, hrun_nil, hrun_cons, hrun_gate, hcont_some, hgate_true, hgate_false, put_some, put_none, ev_t, ev_k, wantedA, execA, stepA, List.set_cons_succ, List.set_cons_zero, List.getD_cons_succ, List.getD_cons_zero, List.getElem?_cons_zero, List.getElem?_cons_succ, if_true, if_false, binA, binInt, unA, eqA, Option.map, eq_self, true_or, or_true, true_and, and_true, and_self, beq_self_eq_true, Bool.not_true, Bool.not_false, reduceCtorEq, Bool.false_eq_true, ite_true, ite_false, cellsAV, fitsAll, CK.fits, decide_true, Bool.and_true, Bool.true_and, fillA, AV.cells, writeN, readN, sliceCells, appendA, lenA, i64, loA, hiA, hcells_last, hown_last, List.take_zero, List.drop_zero, List.nil_append, List.cons_append, List.append_nil, List.take_nil, List.drop_nil, List.length_cons, List.length_nil, List.length_append, Nat.zero_add, Nat.add_zero, Nat.reduceAdd, Nat.reduceMul, Nat.reduceDiv, Nat.reduceSub, Nat.mul_one, Nat.one_mul, Nat.div_one, Nat.le_refl, Nat.reduceLeDiff, Nat.reduceLT, Int.toNat_natCast, Int.toNat_zero, Nat.zero_le, Int.natCast_nonneg, Int.reduceLE, Int.reduceLT, Option.some.injEq, foldA, maxA, minA, Cell.int.injEq, AV.c.injEq, hfull, hlt, hget]; rfl) ?_))))
    generalize xs.getD i 0 = w at *
    refine AW_seq (AW_run (by simp only [List.take_succ_cons, List.take_zero, List.drop_succ_cons, List.drop_zero, bne_self_eq_false, List.map_cons, List.map_nil, Bool.true_beq, Bool.false_beq, run_nil, run_cons, run_gate, cont_some, gate_true, gate_false, hrun_nil, hrun_cons, hrun_gate, hcont_some, hgate_true, hgate_false, put_some, put_none, ev_t, ev_k, wantedA, execA, stepA, List.set_cons_succ, List.set_cons_zero, List.getD_cons_succ, List.getD_cons_zero, List.getElem?_cons_zero, List.getElem?_cons_succ, if_true, if_false, binA, binInt, unA, eqA, Option.map, eq_self, true_or, or_true, true_and, and_true, and_self, beq_self_eq_true, Bool.not_true, Bool.not_false, reduceCtorEq, Bool.false_eq_true, ite_true, ite_false, cellsAV, fitsAll, CK.fits, decide_true, Bool.and_true, Bool.true_and, fillA, AV.cells, writeN, readN, sliceCells, appendA, lenA, i64, loA, hiA, hcells_last, hown_last, List.take_zero, List.drop_zero, List.nil_append, List.cons_append, List.append_nil, List.take_nil, List.drop_nil, List.length_cons, List.length_nil, List.length_append, Nat.zero_add, Nat.add_zero, Nat.reduceAdd, Nat.reduceMul, Nat.reduceDiv, Nat.reduceSub, Nat.mul_one, Nat.one_mul, Nat.div_one, Nat.le_refl, Nat.reduceLeDiff, Nat.reduceLT, Int.toNat_natCast, Int.toNat_zero, Nat.zero_le, Int.natCast_nonneg, Int.reduceLE, Int.reduceLT, Option.some.injEq, foldA, maxA, minA, Cell.int.injEq, AV.c.injEq]; rfl) (AW_block ?_))
    refine AW_loopN (be64Inv (.slc u o (W64w xs).length 1) xs i w H) 8 ⟨by omega, hk, x, by rw [List.drop_of_length_le (by rw [leB_length]; omega)]; simpa using hx, stale _ _ rfl⟩ ?_
    rintro k fr H2 ⟨hk8, hkk, x, hx, s, rfl⟩
    refine AW_seq (AW_seq (AW_run (by simp only [List.take_succ_cons, List.take_zero, List.drop_succ_cons, List.drop_zero, bne_self_eq_false, List.map_cons, List.map_nil, Bool.true_beq, Bool.false_beq, run_nil, run_cons, run_gate, cont_some, gate_true, gate_false, hrun_nil, hrun_cons, hrun_gate, hcont_some, hgate_true, hgate_false, put_some, put_none, ev_t, ev_k, wantedA, execA, stepA, List.set_cons_succ, List.set_cons_zero, List.getD_cons_succ, List.getD_cons_zero, List.getElem?_cons_zero, List.getElem?_cons_succ, if_true, if_false, binA, binInt, unA, eqA, Option.map, eq_self, true_or, or_true, true_and, and_true, and_self, beq_self_eq_true, Bool.not_true, Bool.not_false, reduceCtorEq, Bool.false_eq_true, ite_true, ite_false, cellsAV, fitsAll, CK.fits, decide_true, Bool.and_true, Bool.true_and, fillA, AV.cells, writeN, readN, sliceCells, appendA, lenA, i64, loA, hiA, hcells_last, hown_last, List.take_zero, List.drop_zero, List.nil_append, List.cons_append, List.append_nil, List.take_nil, List.drop_nil, List.length_cons, List.length_nil, List.length_append, Nat.zero_add, Nat.add_zero, Nat.reduceAdd, Nat.reduceMul, Nat.reduceDiv, Nat.reduceSub, Nat.mul_one, Nat.one_mul, Nat.div_one, Nat.le_refl, Nat.reduceLeDiff, Nat.reduceLT, Int.toNat_natCast, Int.toNat_zero, Nat.zero_le, Int.natCast_nonneg, Int.reduceLE, Int.reduceLT, Option.some.injEq, foldA, maxA, minA, Cell.int.injEq, AV.c.injEq]; rfl) (AW_cond rfl ?_ ?_)))
    · intro ht3
      have ht3 : (k : Int) - 1 ≥ 0 := of_decide_eq_true ht3
      obtain ⟨q, rfl⟩ : ∃ q, k = q + 1 := ⟨k - 1, by omega⟩
      have eq1 : ((q + 1 : Nat) : Int) - 1 = (q : Int) := by omega
      have e5 : IntKind.i64.wrap (8 * (q : Int)) = ((8 * q : Nat) : Int) := by rw [wrap_i64_of (by omega) (by omega)]; omega
      have s1 : shrA .u64 (w : Int) ((8 * q : Nat) : Int) = ((w / 256 ^ q : Nat) : Int) := by rw [shr_of (show 8 * q ≤ 64 by omega), pow8]
      have n1 : ¬ ((8 * q : Nat) : Int) < 0 := by omega
      have e6 : IntKind.i64.wrap ((q : Int) - 1) = (q : Int) - 1 := wrap_i64_of (by omega) (by omega)
      have hq : q < (leB 8 w).length := by rw [leB_length]; omega
      have gq : (leB 8 w).getD q 0 = w / 256 ^ q % 256 := by simp [leB, show q < 8 by omega]
      simp only [eq1]
      refine AW_skip (AW_seq (AW_block ?_))
      refine AW_ops (AO_take 7 (by simp only [List.take_succ_cons, List.take_zero, List.drop_succ_cons, List.drop_zero, bne_self_eq_false, List.map_cons, List.map_nil, Bool.true_beq, Bool.false_beq, run_nil, run_cons, run_gate, cont_some, gate_true, gate_false, hrun_nil, hrun_cons, hrun_gate, hcont_some, hgate_true, hgate_false, put_some, put_none, ev_t, ev_k, wantedA, execA, stepA, List.set_cons_succ, List.set_cons_zero, List.getD_cons_succ, List.getD_cons_zero, List.getElem?_cons_zero, List.getElem?_cons_succ, if_true, if_false, binA, binInt, unA, eqA, Option.map, eq_self, true_or, or_true, true_and, and_true, and_self, beq_self_eq_true, Bool.not_true, Bool.not_false, reduceCtorEq, Bool.false_eq_true, ite_true, ite_false, cellsAV, fitsAll, CK.fits, decide_true, Bool.and_true, Bool.true_and, fillA, AV.cells, writeN, readN, sliceCells, appendA, lenA, i64, loA, hiA, hcells_last, hown_last, List.take_zero, List.drop_zero, List.nil_append, List.cons_append, List.append_nil, List.take_nil, List.drop_nil, List.length_cons, List.length_nil, List.length_append, Nat.zero_add, Nat.add_zero, Nat.reduceAdd, Nat.reduceMul, Nat.reduceDiv, Nat.reduceSub, Nat.mul_one, Nat.one_mul, Nat.div_one, Nat.le_refl, Nat.reduceLeDiff, Nat.reduceLT, Int.toNat_natCast, Int.toNat_zero, Nat.zero_le, Int.natCast_nonneg, Int.reduceLE, Int.reduceLT, Option.some.injEq, foldA, maxA, minA, Cell.int.injEq, AV.c.injEq, e5, s1, n1, byte_of]; rfl) ?_)
      refine AO_append (f := H.length) hx.app (cells_last rfl) rfl (by omega) (by simp) (Nat.le_refl _) (by have := hkk.1; simp; omega) (by simp [W8_length, fli, leB_length]; omega) rfl rfl ?_
      intro x' H3 hx' k2 _
      have ew : W8 (flat (beB 8) xs i ++ ((leB 8 w).drop (q + 1)).reverse) ++ [Cell.int .u8 ((w / 256 ^ q % 256 : Nat) : Int)] = W8 (flat (beB 8) xs i ++ ((leB 8 w).drop q).reverse) := by rw [drop_rev hq, gq, ← List.append_assoc, W8_append (ys := [_])]; rfl
      rw [ew] at hx'
      refine AO_take 1 (by simp only [List.take_succ_cons, List.take_zero, List.drop_succ_cons, List.drop_zero, bne_self_eq_false, List.map_cons, List.map_nil, Bool.true_beq, Bool.false_beq, run_nil, run_cons, run_gate, cont_some, gate_true, gate_false, hrun_nil, hrun_cons, hrun_gate, hcont_some, hgate_true, hgate_false, put_some, put_none, ev_t, ev_k, wantedA, execA, stepA, List.set_cons_succ, List.set_cons_zero, List.getD_cons_succ, List.getD_cons_zero, List.getElem?_cons_zero, List.getElem?_cons_succ, if_true, if_false, binA, binInt, unA, eqA, Option.map, eq_self, true_or, or_true, true_and, and_true, and_self, beq_self_eq_true, Bool.not_true, Bool.not_false, reduceCtorEq, Bool.false_eq_true, ite_true, ite_false, cellsAV, fitsAll, CK.fits, decide_true, Bool.and_true, Bool.true_and, fillA, AV.cells, writeN, readN, sliceCells, appendA, lenA, i64, loA, hiA, hcells_last, hown_last, List.take_zero, List.drop_zero, List.nil_append, List.cons_append, List.append_nil, List.take_nil, List.drop_nil, List.length_cons, List.length_nil, List.length_append, Nat.zero_add, Nat.add_zero, Nat.reduceAdd, Nat.reduceMul, Nat.reduceDiv, Nat.reduceSub, Nat.mul_one, Nat.one_mul, Nat.div_one, Nat.le_refl, Nat.reduceLeDiff, Nat.reduceLT, Int.toNat_natCast, Int.toNat_zero, Nat.zero_le, Int.natCast_nonneg, Int.reduceLE, Int.reduceLT, Option.some.injEq, foldA, maxA, minA, Cell.int.injEq, AV.c.injEq]; rfl) (AO_nil ?_)
      exact AW_run (by simp only [List.take_succ_cons, List.take_zero, List.drop_succ_cons, List.drop_zero, bne_self_eq_false, List.map_cons, List.map_nil, Bool.true_beq, Bool.false_beq, run_nil, run_cons, run_gate, cont_some, gate_true, gate_false, hrun_nil, hrun_cons, hrun_gate, hcont_some, hgate_true, hgate_false, put_some, put_none, ev_t, ev_k, wantedA, execA, stepA, List.set_cons_succ, List.set_cons_zero, List.getD_cons_succ, List.getD_cons_zero, List.getElem?_cons_zero, List.getElem?_cons_succ, if_true, if_false, binA, binInt, unA, eqA, Option.map, eq_self, true_or, or_true, true_and, and_true, and_self, beq_self_eq_true, Bool.not_true, Bool.not_false, reduceCtorEq, Bool.false_eq_true, ite_true, ite_false, cellsAV, fitsAll, CK.fits, decide_true, Bool.and_true, Bool.true_and, fillA, AV.cells, writeN, readN, sliceCells, appendA, lenA, i64, loA, hiA, hcells_last, hown_last, List.take_zero, List.drop_zero, List.nil_append, List.cons_append, List.append_nil, List.take_nil, List.drop_nil, List.length_cons, List.length_nil, List.length_append, Nat.zero_add, Nat.add_zero, Nat.reduceAdd, Nat.reduceMul, Nat.reduceDiv, Nat.reduceSub, Nat.mul_one, Nat.one_mul, Nat.div_one, Nat.le_refl, Nat.reduceLeDiff, Nat.reduceLT, Int.toNat_natCast, Int.toNat_zero, Nat.zero_le, Int.natCast_nonneg, Int.reduceLE, Int.reduceLT, Option.some.injEq, foldA, maxA, minA, Cell.int.injEq, AV.c.injEq, e6]; rfl) ⟨q, by omega, by omega, hkk.trans ((Kept.push _ _ _).trans k2), x', hx', stale _ _ rfl⟩
    · intro ht3
      have ht3 : ¬ (k : Int) - 1 ≥ 0 := of_decide_eq_false ht3
      obtain rfl : k = 0 := by omega
      rw [List.drop_zero] at hx
      have hx : Own H.length H2 x 1 (W8 (flat (beB 8) xs (i + 1))) := by rw [ef]; exact hx
      refine AW_exit ?_
      exact AW_run (by simp only [List.take_succ_cons, List.take_zero, List.drop_succ_cons, List.drop_zero, bne_self_eq_false, List.map_cons, List.map_nil, Bool.true_beq, Bool.false_beq, run_nil, run_cons, run_gate, cont_some, gate_true, gate_false, hrun_nil, hrun_cons, hrun_gate, hcont_some, hgate_true, hgate_false, put_some, put_none, ev_t, ev_k, wantedA, execA, stepA, List.set_cons_succ, List.set_cons_zero, List.getD_cons_succ, List.getD_cons_zero, List.getElem?_cons_zero, List.getElem?_cons_succ, if_true, if_false, binA, binInt, unA, eqA, Option.map, eq_self, true_or, or_true, true_and, and_true, and_self, beq_self_eq_true, Bool.not_true, Bool.not_false, reduceCtorEq, Bool.false_eq_true, ite_true, ite_false, cellsAV, fitsAll, CK.fits, decide_true, Bool.and_true, Bool.true_and, fillA, AV.cells, writeN, readN, sliceCells, appendA, lenA, i64, loA, hiA, hcells_last, hown_last, List.take_zero, List.drop_zero, List.nil_append, List.cons_append, List.append_nil, List.take_nil, List.drop_nil, List.length_cons, List.length_nil, List.length_append, Nat.zero_add, Nat.add_zero, Nat.reduceAdd, Nat.reduceMul, Nat.reduceDiv, Nat.reduceSub, Nat.mul_one, Nat.one_mul, Nat.div_one, Nat.le_refl, Nat.reduceLeDiff, Nat.reduceLT, Int.toNat_natCast, Int.toNat_zero, Nat.zero_le, Int.natCast_nonneg, Int.reduceLE, Int.reduceLT, Option.some.injEq, foldA, maxA, minA, Cell.int.injEq, AV.c.injEq, e3]; rfl) ⟨xs.length - (i + 1), by omega, i + 1, by omega, rfl, hkk, x, hx, stale _ _ (by rw [W64w_length] <;> rfl)⟩
  · intro ht
    have ht : ¬ (i : Int) < xs.length := of_decide_eq_false ht
    obtain rfl : i = xs.length := by omega
    exact AW_exit (AW_seq (AW_run (by simp only [List.take_succ_cons, List.take_zero, List.drop_succ_cons, List.drop_zero, bne_self_eq_false, List.map_cons, List.map_nil, Bool.true_beq, Bool.false_beq, run_nil, run_cons, run_gate, cont_some, gate_true, gate_false, hrun_nil, hrun_cons, hrun_gate, hcont_some, hgate_true, hgate_false, put_some, put_none, ev_t, ev_k, wantedA, execA, stepA, List.set_cons_succ, List.set_cons_zero, List.getD_cons_succ, List.getD_cons_zero, List.getElem?_cons_zero, List.getElem?_cons_succ, if_true, if_false, binA, binInt, unA, eqA, Option.map, eq_self, true_or, or_true, true_and, and_true, and_self, beq_self_eq_true, Bool.not_true, Bool.not_false, reduceCtorEq, Bool.false_eq_true, ite_true, ite_false, cellsAV, fitsAll, CK.fits, decide_true, Bool.and_true, Bool.true_and, fillA, AV.cells, writeN, readN, sliceCells, appendA, lenA, i64, loA, hiA, hcells_last, hown_last, List.take_zero, List.drop_zero, List.nil_append, List.cons_append, List.append_nil, List.take_nil, List.drop_nil, List.length_cons, List.length_nil, List.length_append, Nat.zero_add, Nat.add_zero, Nat.reduceAdd, Nat.reduceMul, Nat.reduceDiv, Nat.reduceSub, Nat.mul_one, Nat.one_mul, Nat.div_one, Nat.le_refl, Nat.reduceLeDiff, Nat.reduceLT, Int.toNat_natCast, Int.toNat_zero, Nat.zero_le, Int.natCast_nonneg, Int.reduceLE, Int.reduceLT, Option.some.injEq, foldA, maxA, minA, Cell.int.injEq, AV.c.injEq]; rfl) (AW_ret ⟨_, rfl, x, rfl, hx⟩)))
end PK

/- Words taken out of bytes, walked. -/
namespace PK
open Go PAbs
set_option linter.unusedSimpArgs false
set_option linter.unusedVariables false
set_option maxRecDepth 100000

def tk (k : Nat) (at_ : Nat → Nat) (bs : List Nat) : Nat → List Nat
  | 0 => List.replicate (bs.length / k) 0
  | i + 1 => (tk k at_ bs i).set (i / k) ((tk k at_ bs i).getD (i / k) 0 ||| (bs.getD i 0 * 2 ^ (8 * at_ (i % k)) % 2 ^ (8 * k)))
theorem tk_length (k : Nat) (at_ : Nat → Nat) (bs : List Nat) : ∀ i, (tk k at_ bs i).length = bs.length / k
  | 0 => by simp [tk]
  | i + 1 => by simp [tk, tk_length k at_ bs i]
theorem getD_set' {xs : List Nat} {a b v : Nat} : (xs.set a v).getD b 0 = if a = b ∧ a < xs.length then v else xs.getD b 0 := by
  simp only [List.getD_eq_getElem?_getD, List.getElem?_set]
  by_cases h : a = b
  · subst h
    by_cases h2 : a < xs.length <;> simp [h2]
  · simp [h]
theorem tk_lt (k : Nat) (at_ : Nat → Nat) (bs : List Nat) : ∀ i j, (tk k at_ bs i).getD j 0 < 2 ^ (8 * k)
  | 0, j => by
    simp only [tk, List.getD_eq_getElem?_getD, List.getElem?_replicate]
    split <;> simp [Nat.two_pow_pos]
  | i + 1, j => by
    simp only [tk, getD_set']
    split
    · exact Nat.or_lt_two_pow (tk_lt k at_ bs i _) (Nat.mod_lt _ (Nat.two_pow_pos _))
    · exact tk_lt k at_ bs i j
theorem W32_set {xs : List Nat} {i n : Nat} (h : i < xs.length) : List.take i (W32 xs) ++ [Cell.int .u32 (n : Int)] ++ List.drop (i + 1) (W32 xs) = W32 (xs.set i n) := by
  simp only [W32, List.map_set, List.append_assoc, List.cons_append, List.nil_append]
  rw [List.set_eq_take_append_cons_drop, if_pos (by simpa using h)]
theorem zeros32 (n : Nat) : (List.replicate n [Cell.int .u32 0]).flatten = W32 (List.replicate n 0) := by
  induction n with
  | zero => rfl
  | succ n ih => simp only [List.replicate_succ, List.flatten_cons, ih, W32, List.map_cons]; rfl


def takeInv (at_ : Nat → Nat) (f b : Nat) (y : Cell) (bs : List Nat) (H0 : AHeap) (m : Nat) (fr : AFrame) (H : AHeap) : Prop := ∃ i : Nat, i ≤ bs.length ∧ m = bs.length - i ∧ Kept H0.length H0 H ∧ hown H b = some (W32 (tk 4 at_ bs i)) ∧ (∃ s : Nat → AV, fr = [.c y, .c (.fn f), s 2, s 3, .c .snil, .c (.int .i64 0), .c (.slc b 0 (bs.length / 4) 1), s 7, s 8, s 9, s 10, s 11, s 12, s 13, s 14, s 15, s 16, .c y, .c (.int .i64 (bs.length : Int)), .c (.int .i64 (i : Int)), s 20, s 21, s 22, s 23, s 24, s 25, s 26, s 27, s 28, s 29, s 30, s 31, s 32, s 33, s 34, s 35, s 36, s 37, s 38, s 39, s 40])

theorem AC_take (H : AHeap) (y : Cell) (bs : List Nat) (f : Nat) (at_ : Nat → Nat) (hy : Rd H y 1 (W8 bs)) (hl : bs.length ≤ 1000000) (hbs : ∀ k, bs.getD k 0 < 256) (hat : ∀ q, q < 4 → at_ q < 4)
    (hf : ∀ (H : AHeap) (q : Nat), q < 4 → AC A H.length f [.c (.int .i64 (q : Int))] H (fun v H' => v = .c (.int .i64 ((at_ q : Nat) : Int)) ∧ H' = H)) :
    AC A H.length F_words_take [.c y, .c (.fn f)] H (fun v H' => (bs.length % 4 ≠ 0 ∧ v = .tup [.c .snil, .c (.int .i64 9)]) ∨ (bs.length % 4 = 0 ∧ ∃ x, v = .tup [.c x, .c (.int .i64 0)] ∧ Own H.length H' x 1 (W32 (tk 4 at_ bs bs.length)))) := by
  have yl : (W8 bs).length = bs.length := W8_length
  have z : ¬ ((4 : Int) = 0) := by omega
  have em : Int.tmod (bs.length : Int) 4 = ((bs.length % 4 : Nat) : Int) := by rw [tmod_pos (by omega)]; omega
  have ed : IntKind.i64.wrap (Int.tdiv (bs.length : Int) 4) = ((bs.length / 4 : Nat) : Int) := by rw [Int.tdiv_eq_ediv_of_nonneg (by omega), wrap_i64_of (by omega) (by omega)]; omega
  refine AC_enter t_words_take ?_
  simp only [c_words_take, enterA, List.replicate, List.length_cons, List.length_nil, Nat.reduceAdd, Nat.reduceSub, List.cons_append, List.nil_append]
  refine AW_seq (AW_run (by simp only [List.take_succ_cons, List.take_zero, List.drop_succ_cons, List.drop_zero, bne_self_eq_false, List.map_cons, List.map_nil, Bool.true_beq, Bool.false_beq, run_nil, run_cons, run_gate, cont_some, gate_true, gate_false, hrun_nil, hrun_cons, hrun_gate, hcont_some, hgate_true, hgate_false, put_some, put_none, ev_t, ev_k, wantedA, execA, stepA, List.set_cons_succ, List.set_cons_zero, List.getD_cons_succ, List.getD_cons_zero, List.getElem?_cons_zero, List.getElem?_cons_succ, if_true, if_false, binA, binInt, unA, eqA, Option.map, eq_self, true_or, or_true, true_and, and_true, and_self, beq_self_eq_true, Bool.not_true, Bool.not_false, reduceCtorEq, Bool.false_eq_true, ite_true, ite_false, cellsAV, fitsAll, CK.fits, decide_true, Bool.and_true, Bool.true_and, fillA, AV.cells, writeN, readN, sliceCells, appendA, lenA, i64, loA, hiA, hcells_last, hown_last, List.take_zero, List.drop_zero, List.nil_append, List.cons_append, List.append_nil, List.take_nil, List.drop_nil, List.length_cons, List.length_nil, List.length_append, Nat.zero_add, Nat.add_zero, Nat.reduceAdd, Nat.reduceMul, Nat.reduceDiv, Nat.reduceSub, Nat.mul_one, Nat.one_mul, Nat.div_one, Nat.le_refl, Nat.reduceLeDiff, Nat.reduceLT, Int.toNat_natCast, Int.toNat_zero, Nat.zero_le, Int.natCast_nonneg, Int.reduceLE, Int.reduceLT, Option.some.injEq, foldA, maxA, minA, Cell.int.injEq, AV.c.injEq]; rfl) ?_)
  refine AW_seq (AW_seq (AW_ops (AO_take 1 (by simp only [List.take_succ_cons, List.take_zero, List.drop_succ_cons, List.drop_zero, bne_self_eq_false, List.map_cons, List.map_nil, Bool.true_beq, Bool.false_beq, run_nil, run_cons, run_gate, cont_some, gate_true, gate_false, hrun_nil, hrun_cons, hrun_gate, hcont_some, hgate_true, hgate_false, put_some, put_none, ev_t, ev_k, wantedA, execA, stepA, List.set_cons_succ, List.set_cons_zero, List.getD_cons_succ, List.getD_cons_zero, List.getElem?_cons_zero, List.getElem?_cons_succ, if_true, if_false, binA, binInt, unA, eqA, Option.map, eq_self, true_or, or_true, true_and, and_true, and_self, beq_self_eq_true, Bool.not_true, Bool.not_false, reduceCtorEq, Bool.false_eq_true, ite_true, ite_false, cellsAV, fitsAll, CK.fits, decide_true, Bool.and_true, Bool.true_and, fillA, AV.cells, writeN, readN, sliceCells, appendA, lenA, i64, loA, hiA, hcells_last, hown_last, List.take_zero, List.drop_zero, List.nil_append, List.cons_append, List.append_nil, List.take_nil, List.drop_nil, List.length_cons, List.length_nil, List.length_append, Nat.zero_add, Nat.add_zero, Nat.reduceAdd, Nat.reduceMul, Nat.reduceDiv, Nat.reduceSub, Nat.mul_one, Nat.one_mul, Nat.div_one, Nat.le_refl, Nat.reduceLeDiff, Nat.reduceLT, Int.toNat_natCast, Int.toNat_zero, Nat.zero_le, Int.natCast_nonneg, Int.reduceLE, Int.reduceLT, Option.some.injEq, foldA, maxA, minA, Cell.int.injEq, AV.c.injEq]; rfl) (AO_step rfl (exec_lenN hy yl rfl) ?_))))
  refine AO_take 2 (by simp only [List.take_succ_cons, List.take_zero, List.drop_succ_cons, List.drop_zero, bne_self_eq_false, List.map_cons, List.map_nil, Bool.true_beq, Bool.false_beq, run_nil, run_cons, run_gate, cont_some, gate_true, gate_false, hrun_nil, hrun_cons, hrun_gate, hcont_some, hgate_true, hgate_false, put_some, put_none, ev_t, ev_k, wantedA, execA, stepA, List.set_cons_succ, List.set_cons_zero, List.getD_cons_succ, List.getD_cons_zero, List.getElem?_cons_zero, List.getElem?_cons_succ, if_true, if_false, binA, binInt, unA, eqA, Option.map, eq_self, true_or, or_true, true_and, and_true, and_self, beq_self_eq_true, Bool.not_true, Bool.not_false, reduceCtorEq, Bool.false_eq_true, ite_true, ite_false, cellsAV, fitsAll, CK.fits, decide_true, Bool.and_true, Bool.true_and, fillA, AV.cells, writeN, readN, sliceCells, appendA, lenA, i64, loA, hiA, hcells_last, hown_last, List.take_zero, List.drop_zero, List.nil_append, List.cons_append, List.append_nil, List.take_nil, List.drop_nil, List.length_cons, List.length_nil, List.length_append, Nat.zero_add, Nat.add_zero, Nat.reduceAdd, Nat.reduceMul, Nat.reduceDiv, Nat.reduceSub, Nat.mul_one, Nat.one_mul, Nat.div_one, Nat.le_refl, Nat.reduceLeDiff, Nat.reduceLT, Int.toNat_natCast, Int.toNat_zero, Nat.zero_le, Int.natCast_nonneg, Int.reduceLE, Int.reduceLT, Option.some.injEq, foldA, maxA, minA, Cell.int.injEq, AV.c.injEq, z, em]; rfl) (AO_nil (AW_cond rfl ?_ ?_))
  · intro h
    have h : ((bs.length % 4 : Nat) : Int) ≠ 0 := by simpa using h
    exact AW_seq (AW_run (by simp only [List.take_succ_cons, List.take_zero, List.drop_succ_cons, List.drop_zero, bne_self_eq_false, List.map_cons, List.map_nil, Bool.true_beq, Bool.false_beq, run_nil, run_cons, run_gate, cont_some, gate_true, gate_false, hrun_nil, hrun_cons, hrun_gate, hcont_some, hgate_true, hgate_false, put_some, put_none, ev_t, ev_k, wantedA, execA, stepA, List.set_cons_succ, List.set_cons_zero, List.getD_cons_succ, List.getD_cons_zero, List.getElem?_cons_zero, List.getElem?_cons_succ, if_true, if_false, binA, binInt, unA, eqA, Option.map, eq_self, true_or, or_true, true_and, and_true, and_self, beq_self_eq_true, Bool.not_true, Bool.not_false, reduceCtorEq, Bool.false_eq_true, ite_true, ite_false, cellsAV, fitsAll, CK.fits, decide_true, Bool.and_true, Bool.true_and, fillA, AV.cells, writeN, readN, sliceCells, appendA, lenA, i64, loA, hiA, hcells_last, hown_last, List.take_zero, List.drop_zero, List.nil_append, List.cons_append, List.append_nil, List.take_nil, List.drop_nil, List.length_cons, List.length_nil, List.length_append, Nat.zero_add, Nat.add_zero, Nat.reduceAdd, Nat.reduceMul, Nat.reduceDiv, Nat.reduceSub, Nat.mul_one, Nat.one_mul, Nat.div_one, Nat.le_refl, Nat.reduceLeDiff, Nat.reduceLT, Int.toNat_natCast, Int.toNat_zero, Nat.zero_le, Int.natCast_nonneg, Int.reduceLE, Int.reduceLT, Option.some.injEq, foldA, maxA, minA, Cell.int.injEq, AV.c.injEq]; rfl) (AW_ret ⟨_, rfl, .inl ⟨by omega, rfl⟩⟩))
  intro h
  have h : ((bs.length % 4 : Nat) : Int) = 0 := by simpa using h
  have h0 : bs.length % 4 = 0 := by omega
  refine AW_skip (AW_seq (AW_ops (AO_take 1 (by simp only [List.take_succ_cons, List.take_zero, List.drop_succ_cons, List.drop_zero, bne_self_eq_false, List.map_cons, List.map_nil, Bool.true_beq, Bool.false_beq, run_nil, run_cons, run_gate, cont_some, gate_true, gate_false, hrun_nil, hrun_cons, hrun_gate, hcont_some, hgate_true, hgate_false, put_some, put_none, ev_t, ev_k, wantedA, execA, stepA, List.set_cons_succ, List.set_cons_zero, List.getD_cons_succ, List.getD_cons_zero, List.getElem?_cons_zero, List.getElem?_cons_succ, if_true, if_false, binA, binInt, unA, eqA, Option.map, eq_self, true_or, or_true, true_and, and_true, and_self, beq_self_eq_true, Bool.not_true, Bool.not_false, reduceCtorEq, Bool.false_eq_true, ite_true, ite_false, cellsAV, fitsAll, CK.fits, decide_true, Bool.and_true, Bool.true_and, fillA, AV.cells, writeN, readN, sliceCells, appendA, lenA, i64, loA, hiA, hcells_last, hown_last, List.take_zero, List.drop_zero, List.nil_append, List.cons_append, List.append_nil, List.take_nil, List.drop_nil, List.length_cons, List.length_nil, List.length_append, Nat.zero_add, Nat.add_zero, Nat.reduceAdd, Nat.reduceMul, Nat.reduceDiv, Nat.reduceSub, Nat.mul_one, Nat.one_mul, Nat.div_one, Nat.le_refl, Nat.reduceLeDiff, Nat.reduceLT, Int.toNat_natCast, Int.toNat_zero, Nat.zero_le, Int.natCast_nonneg, Int.reduceLE, Int.reduceLT, Option.some.injEq, foldA, maxA, minA, Cell.int.injEq, AV.c.injEq]; rfl) (AO_step rfl (exec_lenN hy yl rfl) ?_))))
  have c1 : (0 : Int) ≤ ((bs.length / 4 : Nat) : Int) := by omega
  have c2 : ((bs.length / 4 : Nat) : Int) ≤ ((bs.length / 4 : Nat) : Int) := Int.le_refl _
  have c3 : ((bs.length / 4 : Nat) : Int) * (4 : Nat) ≤ 140737488355328 := by omega
  refine AO_take 3 (by simp only [List.take_succ_cons, List.take_zero, List.drop_succ_cons, List.drop_zero, bne_self_eq_false, List.map_cons, List.map_nil, Bool.true_beq, Bool.false_beq, run_nil, run_cons, run_gate, cont_some, gate_true, gate_false, hrun_nil, hrun_cons, hrun_gate, hcont_some, hgate_true, hgate_false, put_some, put_none, ev_t, ev_k, wantedA, execA, stepA, List.set_cons_succ, List.set_cons_zero, List.getD_cons_succ, List.getD_cons_zero, List.getElem?_cons_zero, List.getElem?_cons_succ, if_true, if_false, binA, binInt, unA, eqA, Option.map, eq_self, true_or, or_true, true_and, and_true, and_self, beq_self_eq_true, Bool.not_true, Bool.not_false, reduceCtorEq, Bool.false_eq_true, ite_true, ite_false, cellsAV, fitsAll, CK.fits, decide_true, Bool.and_true, Bool.true_and, fillA, AV.cells, writeN, readN, sliceCells, appendA, lenA, i64, loA, hiA, hcells_last, hown_last, List.take_zero, List.drop_zero, List.nil_append, List.cons_append, List.append_nil, List.take_nil, List.drop_nil, List.length_cons, List.length_nil, List.length_append, Nat.zero_add, Nat.add_zero, Nat.reduceAdd, Nat.reduceMul, Nat.reduceDiv, Nat.reduceSub, Nat.mul_one, Nat.one_mul, Nat.div_one, Nat.le_refl, Nat.reduceLeDiff, Nat.reduceLT, Int.toNat_natCast, Int.toNat_zero, Nat.zero_le, Int.natCast_nonneg, Int.reduceLE, Int.reduceLT, Option.some.injEq, foldA, maxA, minA, Cell.int.injEq, AV.c.injEq, z, ed, c1, c2, c3, zeros32]; rfl) (AO_nil ?_)
  refine AW_seq (AW_seq (AW_ops (AO_take 1 (by simp only [List.take_succ_cons, List.take_zero, List.drop_succ_cons, List.drop_zero, bne_self_eq_false, List.map_cons, List.map_nil, Bool.true_beq, Bool.false_beq, run_nil, run_cons, run_gate, cont_some, gate_true, gate_false, hrun_nil, hrun_cons, hrun_gate, hcont_some, hgate_true, hgate_false, put_some, put_none, ev_t, ev_k, wantedA, execA, stepA, List.set_cons_succ, List.set_cons_zero, List.getD_cons_succ, List.getD_cons_zero, List.getElem?_cons_zero, List.getElem?_cons_succ, if_true, if_false, binA, binInt, unA, eqA, Option.map, eq_self, true_or, or_true, true_and, and_true, and_self, beq_self_eq_true, Bool.not_true, Bool.not_false, reduceCtorEq, Bool.false_eq_true, ite_true, ite_false, cellsAV, fitsAll, CK.fits, decide_true, Bool.and_true, Bool.true_and, fillA, AV.cells, writeN, readN, sliceCells, appendA, lenA, i64, loA, hiA, hcells_last, hown_last, List.take_zero, List.drop_zero, List.nil_append, List.cons_append, List.append_nil, List.take_nil, List.drop_nil, List.length_cons, List.length_nil, List.length_append, Nat.zero_add, Nat.add_zero, Nat.reduceAdd, Nat.reduceMul, Nat.reduceDiv, Nat.reduceSub, Nat.mul_one, Nat.one_mul, Nat.div_one, Nat.le_refl, Nat.reduceLeDiff, Nat.reduceLT, Int.toNat_natCast, Int.toNat_zero, Nat.zero_le, Int.natCast_nonneg, Int.reduceLE, Int.reduceLT, Option.some.injEq, foldA, maxA, minA, Cell.int.injEq, AV.c.injEq]; rfl) (AO_step rfl (exec_lenN (hy.kept (Kept.push _ _ _)) yl rfl) ?_))))
  refine AO_take 1 (by simp only [List.take_succ_cons, List.take_zero, List.drop_succ_cons, List.drop_zero, bne_self_eq_false, List.map_cons, List.map_nil, Bool.true_beq, Bool.false_beq, run_nil, run_cons, run_gate, cont_some, gate_true, gate_false, hrun_nil, hrun_cons, hrun_gate, hcont_some, hgate_true, hgate_false, put_some, put_none, ev_t, ev_k, wantedA, execA, stepA, List.set_cons_succ, List.set_cons_zero, List.getD_cons_succ, List.getD_cons_zero, List.getElem?_cons_zero, List.getElem?_cons_succ, if_true, if_false, binA, binInt, unA, eqA, Option.map, eq_self, true_or, or_true, true_and, and_true, and_self, beq_self_eq_true, Bool.not_true, Bool.not_false, reduceCtorEq, Bool.false_eq_true, ite_true, ite_false, cellsAV, fitsAll, CK.fits, decide_true, Bool.and_true, Bool.true_and, fillA, AV.cells, writeN, readN, sliceCells, appendA, lenA, i64, loA, hiA, hcells_last, hown_last, List.take_zero, List.drop_zero, List.nil_append, List.cons_append, List.append_nil, List.take_nil, List.drop_nil, List.length_cons, List.length_nil, List.length_append, Nat.zero_add, Nat.add_zero, Nat.reduceAdd, Nat.reduceMul, Nat.reduceDiv, Nat.reduceSub, Nat.mul_one, Nat.one_mul, Nat.div_one, Nat.le_refl, Nat.reduceLeDiff, Nat.reduceLT, Int.toNat_natCast, Int.toNat_zero, Nat.zero_le, Int.natCast_nonneg, Int.reduceLE, Int.reduceLT, Option.some.injEq, foldA, maxA, minA, Cell.int.injEq, AV.c.injEq]; rfl) (AO_nil (AW_block ?_))
  generalize hb : H.length = b at *
  refine AW_loopN (takeInv at_ f b y bs H) bs.length ⟨0, by omega, by omega, Kept.push _ _ _, by rw [← hb]; exact hown_last, stale _ _ rfl⟩ ?_
  rintro m fr H1 ⟨i, hi, hm, hk, ho, s, rfl⟩
  refine AW_seq (AW_run (by simp only [List.take_succ_cons, List.take_zero, List.drop_succ_cons, List.drop_zero, bne_self_eq_false, List.map_cons, List.map_nil, Bool.true_beq, Bool.false_beq, run_nil, run_cons, run_gate, cont_some, gate_true, gate_false, hrun_nil, hrun_cons, hrun_gate, hcont_some, hgate_true, hgate_false, put_some, put_none, ev_t, ev_k, wantedA, execA, stepA, List.set_cons_succ, List.set_cons_zero, List.getD_cons_succ, List.getD_cons_zero, List.getElem?_cons_zero, List.getElem?_cons_succ, if_true, if_false, binA, binInt, unA, eqA, Option.map, eq_self, true_or, or_true, true_and, and_true, and_self, beq_self_eq_true, Bool.not_true, Bool.not_false, reduceCtorEq, Bool.false_eq_true, ite_true, ite_false, cellsAV, fitsAll, CK.fits, decide_true, Bool.and_true, Bool.true_and, fillA, AV.cells, writeN, readN, sliceCells, appendA, lenA, i64, loA, hiA, hcells_last, hown_last, List.take_zero, List.drop_zero, List.nil_append, List.cons_append, List.append_nil, List.take_nil, List.drop_nil, List.length_cons, List.length_nil, List.length_append, Nat.zero_add, Nat.add_zero, Nat.reduceAdd, Nat.reduceMul, Nat.reduceDiv, Nat.reduceSub, Nat.mul_one, Nat.one_mul, Nat.div_one, Nat.le_refl, Nat.reduceLeDiff, Nat.reduceLT, Int.toNat_natCast, Int.toNat_zero, Nat.zero_le, Int.natCast_nonneg, Int.reduceLE, Int.reduceLT, Option.some.injEq, foldA, maxA, minA, Cell.int.injEq, AV.c.injEq]; rfl) (AW_seq (AW_cond rfl ?_ ?_)))
  · intro ht
    have ht : (i : Int) < bs.length := of_decide_eq_true ht
    have ht2 : i < bs.length := by omega
    obtain ⟨u, o, full, rfl, hfull, hget⟩ := (hy.kept hk).get (i := i) (by rw [yl]; exact ht2)
    rw [W8_get ht2] at hget
    have hlt : (i : Int) < ((W8 bs).length : Nat) := by rw [yl]; omega
    have e3 := place_succ (i := i) (n := bs.length) (by omega) hi
    have q4 : i % 4 < 4 := Nat.mod_lt _ (by omega)
    have a4 := hat _ q4
    have hj : i / 4 < bs.length / 4 := by omega
    have e4 : IntKind.i64.wrap (Int.tdiv (i : Int) 4) = ((i / 4 : Nat) : Int) := by rw [Int.tdiv_eq_ediv_of_nonneg (by omega), wrap_i64_of (by omega) (by omega)]; omega
    have e5 : Int.tmod (i : Int) 4 = ((i % 4 : Nat) : Int) := by rw [tmod_pos (by omega)]; omega
    have hj2 : ((i / 4 : Nat) : Int) < ((bs.length / 4 : Nat) : Int) := by omega
    have hj3 : ((i / 4 : Nat) : Int) ≥ 0 := by omega
    have gj : (W32 (tk 4 at_ bs i))[i / 4]? = some _ := W32_get (by rw [tk_length]; exact hj)
    have go := hcells_own ho
    have hbi := hbs i
    have e6 : IntKind.u32.wrap ((bs.getD i 0 : Nat) : Int) = ((bs.getD i 0 : Nat) : Int) := by rw [wrap_u32]; omega
    have e7 : IntKind.i64.wrap (8 * ((at_ (i % 4) : Nat) : Int)) = ((8 * at_ (i % 4) : Nat) : Int) := by rw [wrap_i64_of (by omega) (by omega)]; omega
    have n1 : ¬ ((8 * at_ (i % 4) : Nat) : Int) < 0 := by omega
    have s1 : shlA .u32 ((bs.getD i 0 : Nat) : Int) ((8 * at_ (i % 4) : Nat) : Int) = _ := shl_of rfl (show 8 * at_ (i % 4) ≤ 32 by omega)
    have o1 : bitsA .or .u32 (((tk 4 at_ bs i).getD (i / 4) 0 : Nat) : Int) ((bs.getD i 0 * 2 ^ (8 * at_ (i % 4)) % 2 ^ IntKind.u32.bits : Nat) : Int) = _ := or_of rfl (tk_lt 4 at_ bs i _) (Nat.mod_lt _ (Nat.two_pow_pos _))
    have es : _ = W32 (tk 4 at_ bs (i + 1)) := W32_set (xs := tk 4 at_ bs i) (i := i / 4) (n := (tk 4 at_ bs i).getD (i / 4) 0 ||| (bs.getD i 0 * 2 ^ (8 * at_ (i % 4)) % 2 ^ IntKind.u32.bits)) (by rw [tk_length]; exact hj)
    have l1 : i / 4 + 1 ≤ bs.length / 4 := by omega
    have fb : b ≤ b := Nat.le_refl b
    refine AW_skip (AW_seq (AW_block (AW_seq (AW_run (by simp only [List.take_succ_cons, List.take_zero, List.drop_succ_cons, List.drop_zero, bne_self_eq_false, List.map_cons, List.map_nil, Bool.true_beq, Bool.false_beq, run_nil, run_cons, run_gate, cont_some, gate_true, gate_false, hrun_nil, hrun_cons, hrun_gate, hcont_some, hgate_true, hgate_false, put_some, put_none, ev_t, ev_k, wantedA, execA, stepA, List.set_cons_succ, List.set_cons_zero, List.getD_cons_succ, List.getD_cons_zero, List.getElem?_cons_zero, List.getElem?_cons_succ, if_true, if_false, binA, binInt, unA, eqA, Option.map, eq_self, true_or, or_true, true_and, and_true, and_self, beq_self_eq_true, Bool.not_true, Bool.not_false, reduceCtorEq, Bool.false_eq_true, ite_true, ite_false, cellsAV, fitsAll, CK.fits, decide_true, Bool.and_true, Bool.true_and, fillA, AV.cells, writeN, readN, sliceCells, appendA, lenA, i64, loA, hiA, hcells_last, hown_last, List.take_zero, List.drop_zero, List.nil_append, List.cons_append, List.append_nil, List.take_nil, List.drop_nil, List.length_cons, List.length_nil, List.length_append, Nat.zero_add, Nat.add_zero, Nat.reduceAdd, Nat.reduceMul, Nat.reduceDiv, Nat.reduceSub, Nat.mul_one, Nat.one_mul, Nat.div_one, Nat.le_refl, Nat.reduceLeDiff, Nat.reduceLT, Int.toNat_natCast, Int.toNat_zero, Nat.zero_le, Int.natCast_nonneg, Int.reduceLE, Int.reduceLT, Option.some.injEq, foldA, maxA, minA, Cell.int.injEq, AV.c.injEq, hfull, hlt, hget]; rfl) ?_))))
    refine AW_draw (AHd_take 10 (by simp only [List.take_succ_cons, List.take_zero, List.drop_succ_cons, List.drop_zero, bne_self_eq_false, List.map_cons, List.map_nil, Bool.true_beq, Bool.false_beq, run_nil, run_cons, run_gate, cont_some, gate_true, gate_false, hrun_nil, hrun_cons, hrun_gate, hcont_some, hgate_true, hgate_false, put_some, put_none, ev_t, ev_k, wantedA, execA, stepA, List.set_cons_succ, List.set_cons_zero, List.getD_cons_succ, List.getD_cons_zero, List.getElem?_cons_zero, List.getElem?_cons_succ, if_true, if_false, binA, binInt, unA, eqA, Option.map, eq_self, true_or, or_true, true_and, and_true, and_self, beq_self_eq_true, Bool.not_true, Bool.not_false, reduceCtorEq, Bool.false_eq_true, ite_true, ite_false, cellsAV, fitsAll, CK.fits, decide_true, Bool.and_true, Bool.true_and, fillA, AV.cells, writeN, readN, sliceCells, appendA, lenA, i64, loA, hiA, hcells_last, hown_last, List.take_zero, List.drop_zero, List.nil_append, List.cons_append, List.append_nil, List.take_nil, List.drop_nil, List.length_cons, List.length_nil, List.length_append, Nat.zero_add, Nat.add_zero, Nat.reduceAdd, Nat.reduceMul, Nat.reduceDiv, Nat.reduceSub, Nat.mul_one, Nat.one_mul, Nat.div_one, Nat.le_refl, Nat.reduceLeDiff, Nat.reduceLT, Int.toNat_natCast, Int.toNat_zero, Nat.zero_le, Int.natCast_nonneg, Int.reduceLE, Int.reduceLT, Option.some.injEq, foldA, maxA, minA, Cell.int.injEq, AV.c.injEq, z, e4, e5, e6, hj2, hj3, go, gj]; rfl) ?_)
    refine AHd_callV rfl rfl (hf H1 (i % 4) q4) ?_
    rintro _ _ ⟨rfl, rfl⟩ -
    rename_i H1
    refine AHd_take 2 (by simp only [List.take_succ_cons, List.take_zero, List.drop_succ_cons, List.drop_zero, bne_self_eq_false, List.map_cons, List.map_nil, Bool.true_beq, Bool.false_beq, run_nil, run_cons, run_gate, cont_some, gate_true, gate_false, hrun_nil, hrun_cons, hrun_gate, hcont_some, hgate_true, hgate_false, put_some, put_none, ev_t, ev_k, wantedA, execA, stepA, List.set_cons_succ, List.set_cons_zero, List.getD_cons_succ, List.getD_cons_zero, List.getElem?_cons_zero, List.getElem?_cons_succ, if_true, if_false, binA, binInt, unA, eqA, Option.map, eq_self, true_or, or_true, true_and, and_true, and_self, beq_self_eq_true, Bool.not_true, Bool.not_false, reduceCtorEq, Bool.false_eq_true, ite_true, ite_false, cellsAV, fitsAll, CK.fits, decide_true, Bool.and_true, Bool.true_and, fillA, AV.cells, writeN, readN, sliceCells, appendA, lenA, i64, loA, hiA, hcells_last, hown_last, List.take_zero, List.drop_zero, List.nil_append, List.cons_append, List.append_nil, List.take_nil, List.drop_nil, List.length_cons, List.length_nil, List.length_append, Nat.zero_add, Nat.add_zero, Nat.reduceAdd, Nat.reduceMul, Nat.reduceDiv, Nat.reduceSub, Nat.mul_one, Nat.one_mul, Nat.div_one, Nat.le_refl, Nat.reduceLeDiff, Nat.reduceLT, Int.toNat_natCast, Int.toNat_zero, Nat.zero_le, Int.natCast_nonneg, Int.reduceLE, Int.reduceLT, Option.some.injEq, foldA, maxA, minA, Cell.int.injEq, AV.c.injEq, e7, n1, s1]; rfl) (AHd_nil ?_)
    refine AO_take 3 (by simp only [List.take_succ_cons, List.take_zero, List.drop_succ_cons, List.drop_zero, bne_self_eq_false, List.map_cons, List.map_nil, Bool.true_beq, Bool.false_beq, run_nil, run_cons, run_gate, cont_some, gate_true, gate_false, hrun_nil, hrun_cons, hrun_gate, hcont_some, hgate_true, hgate_false, put_some, put_none, ev_t, ev_k, wantedA, execA, stepA, List.set_cons_succ, List.set_cons_zero, List.getD_cons_succ, List.getD_cons_zero, List.getElem?_cons_zero, List.getElem?_cons_succ, if_true, if_false, binA, binInt, unA, eqA, Option.map, eq_self, true_or, or_true, true_and, and_true, and_self, beq_self_eq_true, Bool.not_true, Bool.not_false, reduceCtorEq, Bool.false_eq_true, ite_true, ite_false, cellsAV, fitsAll, CK.fits, decide_true, Bool.and_true, Bool.true_and, fillA, AV.cells, writeN, readN, sliceCells, appendA, lenA, i64, loA, hiA, hcells_last, hown_last, List.take_zero, List.drop_zero, List.nil_append, List.cons_append, List.append_nil, List.take_nil, List.drop_nil, List.length_cons, List.length_nil, List.length_append, Nat.zero_add, Nat.add_zero, Nat.reduceAdd, Nat.reduceMul, Nat.reduceDiv, Nat.reduceSub, Nat.mul_one, Nat.one_mul, Nat.div_one, Nat.le_refl, Nat.reduceLeDiff, Nat.reduceLT, Int.toNat_natCast, Int.toNat_zero, Nat.zero_le, Int.natCast_nonneg, Int.reduceLE, Int.reduceLT, Option.some.injEq, foldA, maxA, minA, Cell.int.injEq, AV.c.injEq, o1, hj2, hj3, go, ho, W32_length, tk_length, l1, es, fb]; rfl) (AO_nil ?_)
    have hbl := hown_lt ho
    exact AW_run (by simp only [List.take_succ_cons, List.take_zero, List.drop_succ_cons, List.drop_zero, bne_self_eq_false, List.map_cons, List.map_nil, Bool.true_beq, Bool.false_beq, run_nil, run_cons, run_gate, cont_some, gate_true, gate_false, hrun_nil, hrun_cons, hrun_gate, hcont_some, hgate_true, hgate_false, put_some, put_none, ev_t, ev_k, wantedA, execA, stepA, List.set_cons_succ, List.set_cons_zero, List.getD_cons_succ, List.getD_cons_zero, List.getElem?_cons_zero, List.getElem?_cons_succ, if_true, if_false, binA, binInt, unA, eqA, Option.map, eq_self, true_or, or_true, true_and, and_true, and_self, beq_self_eq_true, Bool.not_true, Bool.not_false, reduceCtorEq, Bool.false_eq_true, ite_true, ite_false, cellsAV, fitsAll, CK.fits, decide_true, Bool.and_true, Bool.true_and, fillA, AV.cells, writeN, readN, sliceCells, appendA, lenA, i64, loA, hiA, hcells_last, hown_last, List.take_zero, List.drop_zero, List.nil_append, List.cons_append, List.append_nil, List.take_nil, List.drop_nil, List.length_cons, List.length_nil, List.length_append, Nat.zero_add, Nat.add_zero, Nat.reduceAdd, Nat.reduceMul, Nat.reduceDiv, Nat.reduceSub, Nat.mul_one, Nat.one_mul, Nat.div_one, Nat.le_refl, Nat.reduceLeDiff, Nat.reduceLT, Int.toNat_natCast, Int.toNat_zero, Nat.zero_le, Int.natCast_nonneg, Int.reduceLE, Int.reduceLT, Option.some.injEq, foldA, maxA, minA, Cell.int.injEq, AV.c.injEq, e3]; rfl) ⟨bs.length - (i + 1), by omega, i + 1, by omega, rfl, hk.trans (Kept.set (by omega)), hown_set hbl, stale _ _ (by rw [yl] <;> rfl)⟩
  · intro ht
    have ht : ¬ (i : Int) < bs.length := of_decide_eq_false ht
    obtain rfl : i = bs.length := by omega
    refine AW_exit (AW_seq (AW_run (by simp only [List.take_succ_cons, List.take_zero, List.drop_succ_cons, List.drop_zero, bne_self_eq_false, List.map_cons, List.map_nil, Bool.true_beq, Bool.false_beq, run_nil, run_cons, run_gate, cont_some, gate_true, gate_false, hrun_nil, hrun_cons, hrun_gate, hcont_some, hgate_true, hgate_false, put_some, put_none, ev_t, ev_k, wantedA, execA, stepA, List.set_cons_succ, List.set_cons_zero, List.getD_cons_succ, List.getD_cons_zero, List.getElem?_cons_zero, List.getElem?_cons_succ, if_true, if_false, binA, binInt, unA, eqA, Option.map, eq_self, true_or, or_true, true_and, and_true, and_self, beq_self_eq_true, Bool.not_true, Bool.not_false, reduceCtorEq, Bool.false_eq_true, ite_true, ite_false, cellsAV, fitsAll, CK.fits, decide_true, Bool.and_true, Bool.true_and, fillA, AV.cells, writeN, readN, sliceCells, appendA, lenA, i64, loA, hiA, hcells_last, hown_last, List.take_zero, List.drop_zero, List.nil_append, List.cons_append, List.append_nil, List.take_nil, List.drop_nil, List.length_cons, List.length_nil, List.length_append, Nat.zero_add, Nat.add_zero, Nat.reduceAdd, Nat.reduceMul, Nat.reduceDiv, Nat.reduceSub, Nat.mul_one, Nat.one_mul, Nat.div_one, Nat.le_refl, Nat.reduceLeDiff, Nat.reduceLT, Int.toNat_natCast, Int.toNat_zero, Nat.zero_le, Int.natCast_nonneg, Int.reduceLE, Int.reduceLT, Option.some.injEq, foldA, maxA, minA, Cell.int.injEq, AV.c.injEq]; rfl) (AW_ret ⟨_, rfl, .inr ⟨h0, _, rfl, ?_⟩⟩)))
    exact .inr ⟨b, bs.length / 4, rfl, by rw [W32_length, tk_length]; omega, by omega, ho⟩
end PK

/- Words taken, contracts of whole functions; and the plain law: what was written is taken back. -/
namespace PK
open Go PAbs
set_option linter.unusedSimpArgs false
set_option linter.unusedVariables false
set_option maxRecDepth 100000

theorem AC_lowest (H : AHeap) (q : Nat) : AC A H.length F_words_lowest [.c (.int .i64 (q : Int))] H (fun v H' => v = .c (.int .i64 ((id q : Nat) : Int)) ∧ H' = H) := by
  refine AC_enter t_words_lowest ?_
  simp only [c_words_lowest, enterA, List.replicate, List.length_cons, List.length_nil, Nat.reduceAdd, Nat.reduceSub, List.cons_append, List.nil_append]
  exact AW_seq (AW_run (by simp only [List.take_succ_cons, List.take_zero, List.drop_succ_cons, List.drop_zero, bne_self_eq_false, List.map_cons, List.map_nil, Bool.true_beq, Bool.false_beq, run_nil, run_cons, run_gate, cont_some, gate_true, gate_false, hrun_nil, hrun_cons, hrun_gate, hcont_some, hgate_true, hgate_false, put_some, put_none, ev_t, ev_k, wantedA, execA, stepA, List.set_cons_succ, List.set_cons_zero, List.getD_cons_succ, List.getD_cons_zero, List.getElem?_cons_zero, List.getElem?_cons_succ, if_true, if_false, binA, binInt, unA, eqA, Option.map, eq_self, true_or, or_true, true_and, and_true, and_self, beq_self_eq_true, Bool.not_true, Bool.not_false, reduceCtorEq, Bool.false_eq_true, ite_true, ite_false, cellsAV, fitsAll, CK.fits, decide_true, Bool.and_true, Bool.true_and, fillA, AV.cells, writeN, readN, sliceCells, appendA, lenA, i64, loA, hiA, hcells_last, hown_last, List.take_zero, List.drop_zero, List.nil_append, List.cons_append, List.append_nil, List.take_nil, List.drop_nil, List.length_cons, List.length_nil, List.length_append, Nat.zero_add, Nat.add_zero, Nat.reduceAdd, Nat.reduceMul, Nat.reduceDiv, Nat.reduceSub, Nat.mul_one, Nat.one_mul, Nat.div_one, Nat.le_refl, Nat.reduceLeDiff, Nat.reduceLT, Int.toNat_natCast, Int.toNat_zero, Nat.zero_le, Int.natCast_nonneg, Int.reduceLE, Int.reduceLT, Option.some.injEq, foldA, maxA, minA, Cell.int.injEq, AV.c.injEq]; rfl) (AW_seq (AW_run (by simp only [List.take_succ_cons, List.take_zero, List.drop_succ_cons, List.drop_zero, bne_self_eq_false, List.map_cons, List.map_nil, Bool.true_beq, Bool.false_beq, run_nil, run_cons, run_gate, cont_some, gate_true, gate_false, hrun_nil, hrun_cons, hrun_gate, hcont_some, hgate_true, hgate_false, put_some, put_none, ev_t, ev_k, wantedA, execA, stepA, List.set_cons_succ, List.set_cons_zero, List.getD_cons_succ, List.getD_cons_zero, List.getElem?_cons_zero, List.getElem?_cons_succ, if_true, if_false, binA, binInt, unA, eqA, Option.map, eq_self, true_or, or_true, true_and, and_true, and_self, beq_self_eq_true, Bool.not_true, Bool.not_false, reduceCtorEq, Bool.false_eq_true, ite_true, ite_false, cellsAV, fitsAll, CK.fits, decide_true, Bool.and_true, Bool.true_and, fillA, AV.cells, writeN, readN, sliceCells, appendA, lenA, i64, loA, hiA, hcells_last, hown_last, List.take_zero, List.drop_zero, List.nil_append, List.cons_append, List.append_nil, List.take_nil, List.drop_nil, List.length_cons, List.length_nil, List.length_append, Nat.zero_add, Nat.add_zero, Nat.reduceAdd, Nat.reduceMul, Nat.reduceDiv, Nat.reduceSub, Nat.mul_one, Nat.one_mul, Nat.div_one, Nat.le_refl, Nat.reduceLeDiff, Nat.reduceLT, Int.toNat_natCast, Int.toNat_zero, Nat.zero_le, Int.natCast_nonneg, Int.reduceLE, Int.reduceLT, Option.some.injEq, foldA, maxA, minA, Cell.int.injEq, AV.c.injEq]; rfl) (AW_ret ⟨_, rfl, rfl, rfl⟩))))
theorem AC_highest (H : AHeap) (q : Nat) (hq : q < 4) : AC A H.length F_words_highest [.c (.int .i64 (q : Int))] H (fun v H' => v = .c (.int .i64 ((3 - q : Nat) : Int)) ∧ H' = H) := by
  have e : IntKind.i64.wrap (3 - (q : Int)) = ((3 - q : Nat) : Int) := by rw [wrap_i64_of (by omega) (by omega)]; omega
  refine AC_enter t_words_highest ?_
  simp only [c_words_highest, enterA, List.replicate, List.length_cons, List.length_nil, Nat.reduceAdd, Nat.reduceSub, List.cons_append, List.nil_append]
  exact AW_seq (AW_run (by simp only [List.take_succ_cons, List.take_zero, List.drop_succ_cons, List.drop_zero, bne_self_eq_false, List.map_cons, List.map_nil, Bool.true_beq, Bool.false_beq, run_nil, run_cons, run_gate, cont_some, gate_true, gate_false, hrun_nil, hrun_cons, hrun_gate, hcont_some, hgate_true, hgate_false, put_some, put_none, ev_t, ev_k, wantedA, execA, stepA, List.set_cons_succ, List.set_cons_zero, List.getD_cons_succ, List.getD_cons_zero, List.getElem?_cons_zero, List.getElem?_cons_succ, if_true, if_false, binA, binInt, unA, eqA, Option.map, eq_self, true_or, or_true, true_and, and_true, and_self, beq_self_eq_true, Bool.not_true, Bool.not_false, reduceCtorEq, Bool.false_eq_true, ite_true, ite_false, cellsAV, fitsAll, CK.fits, decide_true, Bool.and_true, Bool.true_and, fillA, AV.cells, writeN, readN, sliceCells, appendA, lenA, i64, loA, hiA, hcells_last, hown_last, List.take_zero, List.drop_zero, List.nil_append, List.cons_append, List.append_nil, List.take_nil, List.drop_nil, List.length_cons, List.length_nil, List.length_append, Nat.zero_add, Nat.add_zero, Nat.reduceAdd, Nat.reduceMul, Nat.reduceDiv, Nat.reduceSub, Nat.mul_one, Nat.one_mul, Nat.div_one, Nat.le_refl, Nat.reduceLeDiff, Nat.reduceLT, Int.toNat_natCast, Int.toNat_zero, Nat.zero_le, Int.natCast_nonneg, Int.reduceLE, Int.reduceLT, Option.some.injEq, foldA, maxA, minA, Cell.int.injEq, AV.c.injEq]; rfl) (AW_seq (AW_run (by simp only [List.take_succ_cons, List.take_zero, List.drop_succ_cons, List.drop_zero, bne_self_eq_false, List.map_cons, List.map_nil, Bool.true_beq, Bool.false_beq, run_nil, run_cons, run_gate, cont_some, gate_true, gate_false, hrun_nil, hrun_cons, hrun_gate, hcont_some, hgate_true, hgate_false, put_some, put_none, ev_t, ev_k, wantedA, execA, stepA, List.set_cons_succ, List.set_cons_zero, List.getD_cons_succ, List.getD_cons_zero, List.getElem?_cons_zero, List.getElem?_cons_succ, if_true, if_false, binA, binInt, unA, eqA, Option.map, eq_self, true_or, or_true, true_and, and_true, and_self, beq_self_eq_true, Bool.not_true, Bool.not_false, reduceCtorEq, Bool.false_eq_true, ite_true, ite_false, cellsAV, fitsAll, CK.fits, decide_true, Bool.and_true, Bool.true_and, fillA, AV.cells, writeN, readN, sliceCells, appendA, lenA, i64, loA, hiA, hcells_last, hown_last, List.take_zero, List.drop_zero, List.nil_append, List.cons_append, List.append_nil, List.take_nil, List.drop_nil, List.length_cons, List.length_nil, List.length_append, Nat.zero_add, Nat.add_zero, Nat.reduceAdd, Nat.reduceMul, Nat.reduceDiv, Nat.reduceSub, Nat.mul_one, Nat.one_mul, Nat.div_one, Nat.le_refl, Nat.reduceLeDiff, Nat.reduceLT, Int.toNat_natCast, Int.toNat_zero, Nat.zero_le, Int.natCast_nonneg, Int.reduceLE, Int.reduceLT, Option.some.injEq, foldA, maxA, minA, Cell.int.injEq, AV.c.injEq, e]; rfl) (AW_ret ⟨_, rfl, rfl, rfl⟩))))

def Taken (f : Nat) (W : List Nat → List Cell) (k : Nat) (at_ : Nat → Nat) (bs : List Nat) (v : AV) (H : AHeap) : Prop := (bs.length % k ≠ 0 ∧ v = .tup [.c .snil, .c (.int .i64 9)]) ∨ (bs.length % k = 0 ∧ ∃ x, v = .tup [.c x, .c (.int .i64 0)] ∧ Own f H x 1 (W (tk k at_ bs bs.length)))

theorem AC_Take32 (H : AHeap) (y : Cell) (bs : List Nat) (hy : Rd H y 1 (W8 bs)) (hl : bs.length ≤ 1000000) (hbs : ∀ k, bs.getD k 0 < 256) : AC A H.length F_words_Take32 [.c y] H (Taken H.length W32 4 id bs) := by
  refine AC_enter t_words_Take32 ?_
  simp only [c_words_Take32, enterA, List.replicate, List.length_cons, List.length_nil, Nat.reduceAdd, Nat.reduceSub, List.cons_append, List.nil_append]
  refine AW_seq (AW_run (by simp only [List.take_succ_cons, List.take_zero, List.drop_succ_cons, List.drop_zero, bne_self_eq_false, List.map_cons, List.map_nil, Bool.true_beq, Bool.false_beq, run_nil, run_cons, run_gate, cont_some, gate_true, gate_false, hrun_nil, hrun_cons, hrun_gate, hcont_some, hgate_true, hgate_false, put_some, put_none, ev_t, ev_k, wantedA, execA, stepA, List.set_cons_succ, List.set_cons_zero, List.getD_cons_succ, List.getD_cons_zero, List.getElem?_cons_zero, List.getElem?_cons_succ, if_true, if_false, binA, binInt, unA, eqA, Option.map, eq_self, true_or, or_true, true_and, and_true, and_self, beq_self_eq_true, Bool.not_true, Bool.not_false, reduceCtorEq, Bool.false_eq_true, ite_true, ite_false, cellsAV, fitsAll, CK.fits, decide_true, Bool.and_true, Bool.true_and, fillA, AV.cells, writeN, readN, sliceCells, appendA, lenA, i64, loA, hiA, hcells_last, hown_last, List.take_zero, List.drop_zero, List.nil_append, List.cons_append, List.append_nil, List.take_nil, List.drop_nil, List.length_cons, List.length_nil, List.length_append, Nat.zero_add, Nat.add_zero, Nat.reduceAdd, Nat.reduceMul, Nat.reduceDiv, Nat.reduceSub, Nat.mul_one, Nat.one_mul, Nat.div_one, Nat.le_refl, Nat.reduceLeDiff, Nat.reduceLT, Int.toNat_natCast, Int.toNat_zero, Nat.zero_le, Int.natCast_nonneg, Int.reduceLE, Int.reduceLT, Option.some.injEq, foldA, maxA, minA, Cell.int.injEq, AV.c.injEq]; rfl) ?_)
  refine AW_seq (AW_ops (AO_take 1 (by simp only [List.take_succ_cons, List.take_zero, List.drop_succ_cons, List.drop_zero, bne_self_eq_false, List.map_cons, List.map_nil, Bool.true_beq, Bool.false_beq, run_nil, run_cons, run_gate, cont_some, gate_true, gate_false, hrun_nil, hrun_cons, hrun_gate, hcont_some, hgate_true, hgate_false, put_some, put_none, ev_t, ev_k, wantedA, execA, stepA, List.set_cons_succ, List.set_cons_zero, List.getD_cons_succ, List.getD_cons_zero, List.getElem?_cons_zero, List.getElem?_cons_succ, if_true, if_false, binA, binInt, unA, eqA, Option.map, eq_self, true_or, or_true, true_and, and_true, and_self, beq_self_eq_true, Bool.not_true, Bool.not_false, reduceCtorEq, Bool.false_eq_true, ite_true, ite_false, cellsAV, fitsAll, CK.fits, decide_true, Bool.and_true, Bool.true_and, fillA, AV.cells, writeN, readN, sliceCells, appendA, lenA, i64, loA, hiA, hcells_last, hown_last, List.take_zero, List.drop_zero, List.nil_append, List.cons_append, List.append_nil, List.take_nil, List.drop_nil, List.length_cons, List.length_nil, List.length_append, Nat.zero_add, Nat.add_zero, Nat.reduceAdd, Nat.reduceMul, Nat.reduceDiv, Nat.reduceSub, Nat.mul_one, Nat.one_mul, Nat.div_one, Nat.le_refl, Nat.reduceLeDiff, Nat.reduceLT, Int.toNat_natCast, Int.toNat_zero, Nat.zero_le, Int.natCast_nonneg, Int.reduceLE, Int.reduceLT, Option.some.injEq, foldA, maxA, minA, Cell.int.injEq, AV.c.injEq]; rfl) ?_))
  refine AO_call rfl (AC_take H y bs F_words_lowest id hy hl hbs (fun q h => h) (fun H q _ => AC_lowest H q)) ?_
  rintro v H1 (⟨h, rfl⟩ | ⟨h, x, rfl, hx⟩)
  · exact AO_take 4 (by simp only [List.take_succ_cons, List.take_zero, List.drop_succ_cons, List.drop_zero, bne_self_eq_false, List.map_cons, List.map_nil, Bool.true_beq, Bool.false_beq, run_nil, run_cons, run_gate, cont_some, gate_true, gate_false, hrun_nil, hrun_cons, hrun_gate, hcont_some, hgate_true, hgate_false, put_some, put_none, ev_t, ev_k, wantedA, execA, stepA, List.set_cons_succ, List.set_cons_zero, List.getD_cons_succ, List.getD_cons_zero, List.getElem?_cons_zero, List.getElem?_cons_succ, if_true, if_false, binA, binInt, unA, eqA, Option.map, eq_self, true_or, or_true, true_and, and_true, and_self, beq_self_eq_true, Bool.not_true, Bool.not_false, reduceCtorEq, Bool.false_eq_true, ite_true, ite_false, cellsAV, fitsAll, CK.fits, decide_true, Bool.and_true, Bool.true_and, fillA, AV.cells, writeN, readN, sliceCells, appendA, lenA, i64, loA, hiA, hcells_last, hown_last, List.take_zero, List.drop_zero, List.nil_append, List.cons_append, List.append_nil, List.take_nil, List.drop_nil, List.length_cons, List.length_nil, List.length_append, Nat.zero_add, Nat.add_zero, Nat.reduceAdd, Nat.reduceMul, Nat.reduceDiv, Nat.reduceSub, Nat.mul_one, Nat.one_mul, Nat.div_one, Nat.le_refl, Nat.reduceLeDiff, Nat.reduceLT, Int.toNat_natCast, Int.toNat_zero, Nat.zero_le, Int.natCast_nonneg, Int.reduceLE, Int.reduceLT, Option.some.injEq, foldA, maxA, minA, Cell.int.injEq, AV.c.injEq]; rfl) (AO_nil (AW_ret ⟨_, rfl, .inl ⟨h, rfl⟩⟩))
  · exact AO_take 4 (by simp only [List.take_succ_cons, List.take_zero, List.drop_succ_cons, List.drop_zero, bne_self_eq_false, List.map_cons, List.map_nil, Bool.true_beq, Bool.false_beq, run_nil, run_cons, run_gate, cont_some, gate_true, gate_false, hrun_nil, hrun_cons, hrun_gate, hcont_some, hgate_true, hgate_false, put_some, put_none, ev_t, ev_k, wantedA, execA, stepA, List.set_cons_succ, List.set_cons_zero, List.getD_cons_succ, List.getD_cons_zero, List.getElem?_cons_zero, List.getElem?_cons_succ, if_true, if_false, binA, binInt, unA, eqA, Option.map, eq_self, true_or, or_true, true_and, and_true, and_self, beq_self_eq_true, Bool.not_true, Bool.not_false, reduceCtorEq, Bool.false_eq_true, ite_true, ite_false, cellsAV, fitsAll, CK.fits, decide_true, Bool.and_true, Bool.true_and, fillA, AV.cells, writeN, readN, sliceCells, appendA, lenA, i64, loA, hiA, hcells_last, hown_last, List.take_zero, List.drop_zero, List.nil_append, List.cons_append, List.append_nil, List.take_nil, List.drop_nil, List.length_cons, List.length_nil, List.length_append, Nat.zero_add, Nat.add_zero, Nat.reduceAdd, Nat.reduceMul, Nat.reduceDiv, Nat.reduceSub, Nat.mul_one, Nat.one_mul, Nat.div_one, Nat.le_refl, Nat.reduceLeDiff, Nat.reduceLT, Int.toNat_natCast, Int.toNat_zero, Nat.zero_le, Int.natCast_nonneg, Int.reduceLE, Int.reduceLT, Option.some.injEq, foldA, maxA, minA, Cell.int.injEq, AV.c.injEq]; rfl) (AO_nil (AW_ret ⟨_, rfl, .inr ⟨h, x, rfl, hx⟩⟩))
theorem AC_TakeBig32 (H : AHeap) (y : Cell) (bs : List Nat) (hy : Rd H y 1 (W8 bs)) (hl : bs.length ≤ 1000000) (hbs : ∀ k, bs.getD k 0 < 256) : AC A H.length F_words_TakeBig32 [.c y] H (Taken H.length W32 4 (3 - ·) bs) := by
  refine AC_enter t_words_TakeBig32 ?_
  simp only [c_words_TakeBig32, enterA, List.replicate, List.length_cons, List.length_nil, Nat.reduceAdd, Nat.reduceSub, List.cons_append, List.nil_append]
  refine AW_seq (AW_run (by simp only [List.take_succ_cons, List.take_zero, List.drop_succ_cons, List.drop_zero, bne_self_eq_false, List.map_cons, List.map_nil, Bool.true_beq, Bool.false_beq, run_nil, run_cons, run_gate, cont_some, gate_true, gate_false, hrun_nil, hrun_cons, hrun_gate, hcont_some, hgate_true, hgate_false, put_some, put_none, ev_t, ev_k, wantedA, execA, stepA, List.set_cons_succ, List.set_cons_zero, List.getD_cons_succ, List.getD_cons_zero, List.getElem?_cons_zero, List.getElem?_cons_succ, if_true, if_false, binA, binInt, unA, eqA, Option.map, eq_self, true_or, or_true, true_and, and_true, and_self, beq_self_eq_true, Bool.not_true, Bool.not_false, reduceCtorEq, Bool.false_eq_true, ite_true, ite_false, cellsAV, fitsAll, CK.fits, decide_true, Bool.and_true, Bool.true_and, fillA, AV.cells, writeN, readN, sliceCells, appendA, lenA, i64, loA, hiA, hcells_last, hown_last, List.take_zero, List.drop_zero, List.nil_append, List.cons_append, List.append_nil, List.take_nil, List.drop_nil, List.length_cons, List.length_nil, List.length_append, Nat.zero_add, Nat.add_zero, Nat.reduceAdd, Nat.reduceMul, Nat.reduceDiv, Nat.reduceSub, Nat.mul_one, Nat.one_mul, Nat.div_one, Nat.le_refl, Nat.reduceLeDiff, Nat.reduceLT, Int.toNat_natCast, Int.toNat_zero, Nat.zero_le, Int.natCast_nonneg, Int.reduceLE, Int.reduceLT, Option.some.injEq, foldA, maxA, minA, Cell.int.injEq, AV.c.injEq]; rfl) ?_)
  refine AW_seq (AW_ops (AO_take 1 (by simp only [List.take_succ_cons, List.take_zero, List.drop_succ_cons, List.drop_zero, bne_self_eq_false, List.map_cons, List.map_nil, Bool.true_beq, Bool.false_beq, run_nil, run_cons, run_gate, cont_some, gate_true, gate_false, hrun_nil, hrun_cons, hrun_gate, hcont_some, hgate_true, hgate_false, put_some, put_none, ev_t, ev_k, wantedA, execA, stepA, List.set_cons_succ, List.set_cons_zero, List.getD_cons_succ, List.getD_cons_zero, List.getElem?_cons_zero, List.getElem?_cons_succ, if_true, if_false, binA, binInt, unA, eqA, Option.map, eq_self, true_or, or_true, true_and, and_true, and_self, beq_self_eq_true, Bool.not_true, Bool.not_false, reduceCtorEq, Bool.false_eq_true, ite_true, ite_false, cellsAV, fitsAll, CK.fits, decide_true, Bool.and_true, Bool.true_and, fillA, AV.cells, writeN, readN, sliceCells, appendA, lenA, i64, loA, hiA, hcells_last, hown_last, List.take_zero, List.drop_zero, List.nil_append, List.cons_append, List.append_nil, List.take_nil, List.drop_nil, List.length_cons, List.length_nil, List.length_append, Nat.zero_add, Nat.add_zero, Nat.reduceAdd, Nat.reduceMul, Nat.reduceDiv, Nat.reduceSub, Nat.mul_one, Nat.one_mul, Nat.div_one, Nat.le_refl, Nat.reduceLeDiff, Nat.reduceLT, Int.toNat_natCast, Int.toNat_zero, Nat.zero_le, Int.natCast_nonneg, Int.reduceLE, Int.reduceLT, Option.some.injEq, foldA, maxA, minA, Cell.int.injEq, AV.c.injEq]; rfl) ?_))
  refine AO_call rfl (AC_take H y bs F_words_highest (3 - ·) hy hl hbs (fun q h => by show 3 - q < 4; omega) (fun H q h => AC_highest H q h)) ?_
  rintro v H1 (⟨h, rfl⟩ | ⟨h, x, rfl, hx⟩)
  · exact AO_take 4 (by simp only [List.take_succ_cons, List.take_zero, List.drop_succ_cons, List.drop_zero, bne_self_eq_false, List.map_cons, List.map_nil, Bool.true_beq, Bool.false_beq, run_nil, run_cons, run_gate, cont_some, gate_true, gate_false, hrun_nil, hrun_cons, hrun_gate, hcont_some, hgate_true, hgate_false, put_some, put_none, ev_t, ev_k, wantedA, execA, stepA, List.set_cons_succ, List.set_cons_zero, List.getD_cons_succ, List.getD_cons_zero, List.getElem?_cons_zero, List.getElem?_cons_succ, if_true, if_false, binA, binInt, unA, eqA, Option.map, eq_self, true_or, or_true, true_and, and_true, and_self, beq_self_eq_true, Bool.not_true, Bool.not_false, reduceCtorEq, Bool.false_eq_true, ite_true, ite_false, cellsAV, fitsAll, CK.fits, decide_true, Bool.and_true, Bool.true_and, fillA, AV.cells, writeN, readN, sliceCells, appendA, lenA, i64, loA, hiA, hcells_last, hown_last, List.take_zero, List.drop_zero, List.nil_append, List.cons_append, List.append_nil, List.take_nil, List.drop_nil, List.length_cons, List.length_nil, List.length_append, Nat.zero_add, Nat.add_zero, Nat.reduceAdd, Nat.reduceMul, Nat.reduceDiv, Nat.reduceSub, Nat.mul_one, Nat.one_mul, Nat.div_one, Nat.le_refl, Nat.reduceLeDiff, Nat.reduceLT, Int.toNat_natCast, Int.toNat_zero, Nat.zero_le, Int.natCast_nonneg, Int.reduceLE, Int.reduceLT, Option.some.injEq, foldA, maxA, minA, Cell.int.injEq, AV.c.injEq]; rfl) (AO_nil (AW_ret ⟨_, rfl, .inl ⟨h, rfl⟩⟩))
  · exact AO_take 4 (by simp only [List.take_succ_cons, List.take_zero, List.drop_succ_cons, List.drop_zero, bne_self_eq_false, List.map_cons, List.map_nil, Bool.true_beq, Bool.false_beq, run_nil, run_cons, run_gate, cont_some, gate_true, gate_false, hrun_nil, hrun_cons, hrun_gate, hcont_some, hgate_true, hgate_false, put_some, put_none, ev_t, ev_k, wantedA, execA, stepA, List.set_cons_succ, List.set_cons_zero, List.getD_cons_succ, List.getD_cons_zero, List.getElem?_cons_zero, List.getElem?_cons_succ, if_true, if_false, binA, binInt, unA, eqA, Option.map, eq_self, true_or, or_true, true_and, and_true, and_self, beq_self_eq_true, Bool.not_true, Bool.not_false, reduceCtorEq, Bool.false_eq_true, ite_true, ite_false, cellsAV, fitsAll, CK.fits, decide_true, Bool.and_true, Bool.true_and, fillA, AV.cells, writeN, readN, sliceCells, appendA, lenA, i64, loA, hiA, hcells_last, hown_last, List.take_zero, List.drop_zero, List.nil_append, List.cons_append, List.append_nil, List.take_nil, List.drop_nil, List.length_cons, List.length_nil, List.length_append, Nat.zero_add, Nat.add_zero, Nat.reduceAdd, Nat.reduceMul, Nat.reduceDiv, Nat.reduceSub, Nat.mul_one, Nat.one_mul, Nat.div_one, Nat.le_refl, Nat.reduceLeDiff, Nat.reduceLT, Int.toNat_natCast, Int.toNat_zero, Nat.zero_le, Int.natCast_nonneg, Int.reduceLE, Int.reduceLT, Option.some.injEq, foldA, maxA, minA, Cell.int.injEq, AV.c.injEq]; rfl) (AO_nil (AW_ret ⟨_, rfl, .inr ⟨h, x, rfl, hx⟩⟩))

end PK

/- Plain law: words written as bytes are what is taken back. -/
namespace PK
open Go PAbs
set_option linter.unusedSimpArgs false
set_option linter.unusedVariables false
set_option maxRecDepth 100000

theorem orAdd {i n a : Nat} (hn : 2 ^ i = n) (ha : a < n) (w : Nat) : w * n + a = w * n ||| a := by
  subst hn
  have := Nat.shiftLeft_add_eq_or_of_lt ha w
  rw [Nat.shiftLeft_eq] at this; exact this
end PK

/- The document's words of bytes, and bytes swapped: walked. -/
namespace PK
open Go PAbs
set_option linter.unusedSimpArgs false
set_option linter.unusedVariables false
set_option maxRecDepth 100000

def topv (bs : List Nat) (p each : Nat) : Nat → Nat
  | 0 => 0
  | j + 1 => 256 * topv bs p each j + bs.getD (p + (each - 1 - j)) 0
def wordsL (bs : List Nat) (each : Nat) : Nat → List Nat
  | 0 => []
  | i + 1 => wordsL bs each i ++ [topv bs (i * each) each each]
theorem wordsL_length (bs : List Nat) (each : Nat) : ∀ i, (wordsL bs each i).length = i
  | 0 => rfl
  | i + 1 => by simp [wordsL, wordsL_length bs each i]
end PK

/- The document's Quarter and Undone; SalsaQuarters, walked. -/

namespace PK
open Go PAbs
set_option linter.unusedSimpArgs false
set_option linter.unusedVariables false
set_option linter.unusedSectionVars false
set_option maxRecDepth 100000
set_option maxHeartbeats 4000000

def c4 (a b c d : Nat) : List Cell := [.int .u32 (a : Int), .int .u32 (b : Int), .int .u32 (c : Int), .int .u32 (d : Int)]
def z4 : List Cell := rep 4 (.int .u32 0)
section
variable (H : AHeap) (a b c d : Nat) (ha : a < 4294967296) (hb : b < 4294967296) (hc : c < 4294967296) (hd : d < 4294967296)
include ha hb hc hd

end

end PK

/- Salsa's double round and core: walked. -/
namespace PK
open Go PAbs
set_option linter.unusedSimpArgs false
set_option linter.unusedVariables false
set_option maxRecDepth 100000
set_option maxHeartbeats 4000000

theorem W32_setL {l : List Nat} {i n : Nat} : (W32 l).set i (.int .u32 (n : Int)) = W32 (l.set i n) := by simp [W32, List.map_set]
def qAt (x : List Nat) (a b c d : Nat) : List Nat :=
  (((x.set a (q4 (x.getD a 0) (x.getD b 0) (x.getD c 0) (x.getD d 0))).set b (q1 (x.getD a 0) (x.getD b 0) (x.getD c 0) (x.getD d 0))).set c (q2 (x.getD a 0) (x.getD b 0) (x.getD c 0) (x.getD d 0))).set d (q3 (x.getD a 0) (x.getD b 0) (x.getD c 0) (x.getD d 0))
def la (i : Nat) : Nat := [0, 5, 10, 15, 0, 5, 10, 15].getD i 0
def lb (i : Nat) : Nat := [4, 9, 14, 3, 1, 6, 11, 12].getD i 0
def lc (i : Nat) : Nat := [8, 13, 2, 7, 2, 7, 8, 13].getD i 0
def ld (i : Nat) : Nat := [12, 1, 6, 11, 3, 4, 9, 14].getD i 0
def dblK (x : List Nat) : Nat → List Nat
  | 0 => x
  | k + 1 => qAt (dblK x k) (la k) (lb k) (lc k) (ld k)
def dbl (x : List Nat) : List Nat := dblK x 8
def Words (x : List Nat) : Prop := x.length = 16 ∧ ∀ k, x.getD k 0 < 4294967296
theorem Words.set {x : List Nat} (h : Words x) {i n : Nat} (hn : n < 4294967296) : Words (x.set i n) := by
  refine ⟨by rw [List.length_set]; exact h.1, fun k => ?_⟩
  rw [List.getD_eq_getElem?_getD, List.getElem?_set]
  split
  · split
    · exact hn
    · simp
  · rw [← List.getD_eq_getElem?_getD]; exact h.2 k
theorem Words.qAt {x : List Nat} (h : Words x) (a b c d : Nat) : Words (qAt x a b c d) :=
  (((h.set (q4_lt _ _ _ _ (h.2 a) (h.2 b) (h.2 c) (h.2 d))).set (q1_lt _ _ _ _ (h.2 a) (h.2 b) (h.2 c) (h.2 d))).set (q2_lt _ _ _ _ (h.2 a) (h.2 b) (h.2 c) (h.2 d))).set (q3_lt _ _ _ _ (h.2 a) (h.2 b) (h.2 c) (h.2 d))
theorem Words.dblK {x : List Nat} (h : Words x) : ∀ k, Words (dblK x k)
  | 0 => h
  | k + 1 => (Words.dblK h k).qAt _ _ _ _
theorem Words.len {x : List Nat} (h : Words x) : (W32 x).length = 16 := by rw [W32_length]; exact h.1
theorem Words.get {x : List Nat} (h : Words x) {i : Nat} (hi : i < 16) : (W32 x)[i]? = some (.int .u32 ((x.getD i 0 : Nat) : Int)) := W32_get (by rw [h.1]; exact hi)

def lines32 : List Cell := [.int .i64 0, .int .i64 4, .int .i64 8, .int .i64 12, .int .i64 5, .int .i64 9, .int .i64 13, .int .i64 1, .int .i64 10, .int .i64 14, .int .i64 2, .int .i64 6, .int .i64 15, .int .i64 3, .int .i64 7, .int .i64 11,
  .int .i64 0, .int .i64 1, .int .i64 2, .int .i64 3, .int .i64 5, .int .i64 6, .int .i64 7, .int .i64 4, .int .i64 10, .int .i64 11, .int .i64 8, .int .i64 9, .int .i64 15, .int .i64 12, .int .i64 13, .int .i64 14]
theorem lines_at : ∀ i : Fin 8, (lines32.drop (i.val * 4)).take 4 = [.int .i64 ((la i.val : Nat) : Int), .int .i64 ((lb i.val : Nat) : Int), .int .i64 ((lc i.val : Nat) : Int), .int .i64 ((ld i.val : Nat) : Int)] := by decide
theorem lines_lt : ∀ i : Fin 8, la i.val < 16 ∧ lb i.val < 16 ∧ lc i.val < 16 ∧ ld i.val < 16 := by decide
theorem rep_32 {α : Type} {x : α} : rep 32 x = [x, x, x, x, x, x, x, x, x, x, x, x, x, x, x, x, x, x, x, x, x, x, x, x, x, x, x, x, x, x, x, x] := rfl

theorem AC_lines (H : AHeap) : AC A H.length F_salsa_lines [] H (fun v H' => v = .agg lines32) := by
  refine AC_enter t_salsa_lines ?_; simp only [c_salsa_lines, enterA, List.replicate, List.length_cons, List.length_nil, Nat.reduceAdd, Nat.reduceSub, List.cons_append, List.nil_append]
  (repeat (first | with_reducible refine thenQ_n ?_ | with_reducible refine blockQ_n ?_ | refine AW_skip ?_ | refine AW_seq ?_ | refine AW_ops ?_ | refine AW_blockS ?_ | refine AW_blockR ?_ | refine AW_blockD ?_ | refine AW_blockC ?_ | refine AO_nil ?_ | refine AW_draw ?_ | refine AW_draw3 ?_ | refine AW_blockD3 ?_ | refine AHd_nil ?_ | ((first | with_reducible apply AO_pre | with_reducible apply AHd_pre); focus (simp only [Sm, wantedA, execA, stepA, List.getElem?_cons_zero, List.getElem?_cons_succ, if_true, if_false, binA, binInt, unA, eqA, Option.map, eq_self, reduceCtorEq, ite_true, ite_false, cellsAV, fitsAll, CK.fits, fillA, AV.cells, writeN, readN, sliceCells, appendA, lenA, i64, loA, hiA, Nat.reduceAdd, Nat.reduceMul, Nat.reduceDiv, Nat.reduceSub, Nat.reduceLeDiff, Nat.reduceLT, Int.reduceLE, Int.reduceLT, foldA, maxA, minA, Int.reduceBEq, Int.reduceBNe, Int.reduceGT, Int.reduceGE, Int.reduceEq, Int.reduceNe, Int.reduceToNat, AOp.stops, ↓want_eq, ↓exec_lenX]; with_reducible rfl))))
  (repeat (first | with_reducible refine thenQ_n ?_ | with_reducible refine blockQ_n ?_ | refine AW_skip ?_ | refine AW_seq ?_ | refine AW_ops ?_ | refine AW_blockS ?_ | refine AW_blockR ?_ | refine AW_blockD ?_ | refine AW_blockC ?_ | refine AO_nil ?_ | refine AW_draw ?_ | refine AW_draw3 ?_ | refine AW_blockD3 ?_ | refine AHd_nil ?_ | ((first | with_reducible apply AO_pre | with_reducible apply AHd_pre); focus (simp only [Sm, wantedA, execA, stepA, List.getElem?_cons_zero, List.getElem?_cons_succ, if_true, if_false, binA, binInt, unA, eqA, Option.map, eq_self, reduceCtorEq, ite_true, ite_false, cellsAV, fitsAll, CK.fits, fillA, AV.cells, writeN, readN, sliceCells, appendA, lenA, i64, loA, hiA, Nat.reduceAdd, Nat.reduceMul, Nat.reduceDiv, Nat.reduceSub, Nat.reduceLeDiff, Nat.reduceLT, Int.reduceLE, Int.reduceLT, foldA, maxA, minA, Int.reduceBEq, Int.reduceBNe, Int.reduceGT, Int.reduceGE, Int.reduceEq, Int.reduceNe, Int.reduceToNat, AOp.stops, ↓want_eq, ↓exec_lenX, rep_4, rep_32, ↓exec_storeN, storeN_last (Nat.le_refl _)]; with_reducible rfl))))
  exact AW_ret ⟨_, by simp only [outA, resA, ressA, AV.tv, Option.map_some, List.take_succ_cons, List.take_zero, List.drop_succ_cons, List.drop_zero, bne_self_eq_false, List.map_cons, List.map_nil, Bool.true_beq, Bool.false_beq, run_nil, run_cons, run_gate, cont_some, gate_true, gate_false, hrun_nil, hrun_cons, hrun_gate, hcont_some, hgate_true, hgate_false, put_some, put_none, ev_t, ev_k, wantedA, execA, stepA, List.set_cons_succ, List.set_cons_zero, List.getD_cons_succ, List.getD_cons_zero, List.getElem?_cons_zero, List.getElem?_cons_succ, if_true, if_false, binA, binInt, unA, eqA, Option.map, eq_self, true_or, or_true, true_and, and_true, and_self, beq_self_eq_true, Bool.not_true, Bool.not_false, reduceCtorEq, Bool.false_eq_true, ite_true, ite_false, cellsAV, fitsAll, CK.fits, decide_true, Bool.and_true, Bool.true_and, fillA, AV.cells, writeN, readN, sliceCells, appendA, lenA, i64, loA, hiA, hcells_last, hown_last, List.take_zero, List.drop_zero, List.nil_append, List.cons_append, List.append_nil, List.take_nil, List.drop_nil, List.length_cons, List.length_nil, List.length_append, Nat.zero_add, Nat.add_zero, Nat.reduceAdd, Nat.reduceMul, Nat.reduceDiv, Nat.reduceSub, Nat.mul_one, Nat.one_mul, Nat.div_one, Nat.le_refl, Nat.reduceLeDiff, Nat.reduceLT, Int.toNat_natCast, Int.toNat_zero, Nat.zero_le, Int.natCast_nonneg, Int.reduceLE, Int.reduceLT, Option.some.injEq, foldA, maxA, minA, Cell.int.injEq, AV.c.injEq, pre_nil, pre_cons, pre_gate, pre1_cons, pre1_gate, qstop_true, qstop_false, qstopg_false, qgate_true, qgate_false, pcont_some, pstop_true, pstop_false, pstopg_false, pgate_true, pgate_false, hpre_nil, hpre_cons, hpre_gate, hpre1_cons, hpre1_gate, hqstop_true, hqstop_false, hqstopg_false, hqgate_true, hqgate_false, hpcont_some, hpstop_true, hpstop_false, hpstopg_false, hpgate_true, hpgate_false, Int.reduceBEq, Int.reduceBNe, Int.reduceGT, Int.reduceGE, Int.reduceEq, Int.reduceNe, decide_false, nat_0, nat_1, nat_2, nat_3, nat_4, nat_8, nat_16, nat_64, nat_128, Int.reduceToNat, AOp.stops, pre1_nil, hpre1_nil, ↓want_eq, wantV_bool, wantV_undef, ↓exec_lenX, lenX_snil, lenX_slc] <;> with_reducible rfl, by rfl⟩


def dbI (p : Nat) (x : List Nat) (H0 : AHeap) (i : Nat) (fr : AFrame) (H : AHeap) : Prop := Chg (· = p) H0 H ∧ hown H p = some (W32 (dblK x i)) ∧ hown H (p + 1) = some (rep 16 (.int .u32 0)) ∧ (∃ s : Nat → AV, fr = [s 0, .c (.ptr p 0), .c (.ptr (p + 1) 0), s 3, s 4, s 5, s 6, s 7, s 8, .agg lines32, .c (.int .i64 (i : Int)), s 11, s 12, s 13, s 14, s 15, s 16, s 17, s 18, s 19, s 20, s 21, s 22, s 23, s 24, s 25, s 26, s 27, s 28, s 29, s 30, s 31, s 32, s 33, s 34, s 35, s 36, s 37, s 38, s 39, s 40, s 41, s 42, s 43, s 44, s 45, s 46, s 47, s 48])

theorem AC_Double (H : AHeap) (x : List Nat) (hx : Words x) : AC A H.length F_salsa_Double [.agg (W32 x)] H (fun v H' => v = .agg (W32 (dbl x))) := by
  refine AC_enter t_salsa_Double ?_; simp only [c_salsa_Double, enterA, List.replicate, List.length_cons, List.length_nil, Nat.reduceAdd, Nat.reduceSub, List.cons_append, List.nil_append]
  refine AW_seq (AW_ops (AO_pre (by simp only [List.take_succ_cons, List.take_zero, List.drop_succ_cons, List.drop_zero, bne_self_eq_false, List.map_cons, List.map_nil, Bool.true_beq, Bool.false_beq, run_nil, run_cons, run_gate, cont_some, gate_true, gate_false, hrun_nil, hrun_cons, hrun_gate, hcont_some, hgate_true, hgate_false, put_some, put_none, ev_t, ev_k, wantedA, execA, stepA, List.set_cons_succ, List.set_cons_zero, List.getD_cons_succ, List.getD_cons_zero, List.getElem?_cons_zero, List.getElem?_cons_succ, if_true, if_false, binA, binInt, unA, eqA, Option.map, eq_self, true_or, or_true, true_and, and_true, and_self, beq_self_eq_true, Bool.not_true, Bool.not_false, reduceCtorEq, Bool.false_eq_true, ite_true, ite_false, cellsAV, fitsAll, CK.fits, decide_true, Bool.and_true, Bool.true_and, fillA, AV.cells, writeN, readN, sliceCells, appendA, lenA, i64, loA, hiA, hcells_last, hown_last, List.take_zero, List.drop_zero, List.nil_append, List.cons_append, List.append_nil, List.take_nil, List.drop_nil, List.length_cons, List.length_nil, List.length_append, Nat.zero_add, Nat.add_zero, Nat.reduceAdd, Nat.reduceMul, Nat.reduceDiv, Nat.reduceSub, Nat.mul_one, Nat.one_mul, Nat.div_one, Nat.le_refl, Nat.reduceLeDiff, Nat.reduceLT, Int.toNat_natCast, Int.toNat_zero, Nat.zero_le, Int.natCast_nonneg, Int.reduceLE, Int.reduceLT, Option.some.injEq, foldA, maxA, minA, Cell.int.injEq, AV.c.injEq, pre_nil, pre_cons, pre_gate, pre1_cons, pre1_gate, qstop_true, qstop_false, qstopg_false, qgate_true, qgate_false, pcont_some, pstop_true, pstop_false, pstopg_false, pgate_true, pgate_false, hpre_nil, hpre_cons, hpre_gate, hpre1_cons, hpre1_gate, hqstop_true, hqstop_false, hqstopg_false, hqgate_true, hqgate_false, hpcont_some, hpstop_true, hpstop_false, hpstopg_false, hpgate_true, hpgate_false, Int.reduceBEq, Int.reduceBNe, Int.reduceGT, Int.reduceGE, Int.reduceEq, Int.reduceNe, decide_false, nat_0, nat_1, nat_2, nat_3, nat_4, nat_8, nat_16, nat_64, nat_128, Int.reduceToNat, AOp.stops, pre1_nil, hpre1_nil, ↓want_eq, wantV_bool, wantV_undef, ↓exec_lenX, lenX_snil, lenX_slc]; with_reducible rfl) (AO_nil ?_)))
  have ho : hown (H ++ [Blk.own (W32 x)] ++ [Blk.own (rep 16 (.int .u32 0))]) H.length = some (W32 x) := hown_app hown_last
  have hz : hown (H ++ [Blk.own (W32 x)] ++ [Blk.own (rep 16 (.int .u32 0))]) (H ++ [Blk.own (W32 x)]).length = some (rep 16 (.int .u32 0)) := hown_last
  have hq1 : (H ++ [Blk.own (W32 x)]).length = H.length + 1 := by simp
  rw [hq1] at hz
  try simp only [List.length_append, List.length_cons, List.length_nil, Nat.zero_add]
  have hfl : H.length ≤ (H ++ [Blk.own (W32 x)] ++ [Blk.own (rep 16 (.int .u32 0))]).length := by simp
  generalize H ++ [Blk.own (W32 x)] ++ [Blk.own (rep 16 (.int .u32 0))] = H1 at *
  generalize H.length = p at *
  (repeat (first | with_reducible refine thenQ_n ?_ | with_reducible refine blockQ_n ?_ | refine AW_skip ?_ | refine AW_seq ?_ | refine AW_ops ?_ | refine AW_blockS ?_ | refine AW_blockR ?_ | refine AW_blockD ?_ | refine AW_blockC ?_ | refine AO_nil ?_ | refine AW_draw ?_ | refine AW_draw3 ?_ | refine AW_blockD3 ?_ | refine AHd_nil ?_ | ((first | with_reducible apply AO_pre | with_reducible apply AHd_pre); focus (simp only [Sm, wantedA, execA, stepA, List.getElem?_cons_zero, List.getElem?_cons_succ, if_true, if_false, binA, binInt, unA, eqA, Option.map, eq_self, reduceCtorEq, ite_true, ite_false, cellsAV, fitsAll, CK.fits, fillA, AV.cells, writeN, readN, sliceCells, appendA, lenA, i64, loA, hiA, Nat.reduceAdd, Nat.reduceMul, Nat.reduceDiv, Nat.reduceSub, Nat.reduceLeDiff, Nat.reduceLT, Int.reduceLE, Int.reduceLT, foldA, maxA, minA, Int.reduceBEq, Int.reduceBNe, Int.reduceGT, Int.reduceGE, Int.reduceEq, Int.reduceNe, Int.reduceToNat, AOp.stops, ↓want_eq, ↓exec_lenX]; with_reducible rfl))))
  refine AO_call rfl ((AC_lines H1).kept hfl) ?_
  rintro _ H2 ⟨rfl, k2⟩
  have c2 := Chg.of_kept k2
  have ho2 := c2.hown (fun h => h) ho
  have hz2 := c2.hown (fun h => h) hz
  clear ho hz k2 c2 hq1
  (repeat (first | with_reducible refine thenQ_n ?_ | with_reducible refine blockQ_n ?_ | refine AW_skip ?_ | refine AW_seq ?_ | refine AW_ops ?_ | refine AW_blockS ?_ | refine AW_blockR ?_ | refine AW_blockD ?_ | refine AW_blockC ?_ | refine AO_nil ?_ | refine AW_draw ?_ | refine AW_draw3 ?_ | refine AW_blockD3 ?_ | refine AHd_nil ?_ | ((first | with_reducible apply AO_pre | with_reducible apply AHd_pre); focus (simp only [Sm, wantedA, execA, stepA, List.getElem?_cons_zero, List.getElem?_cons_succ, if_true, if_false, binA, binInt, unA, eqA, Option.map, eq_self, reduceCtorEq, ite_true, ite_false, cellsAV, fitsAll, CK.fits, fillA, AV.cells, writeN, readN, sliceCells, appendA, lenA, i64, loA, hiA, Nat.reduceAdd, Nat.reduceMul, Nat.reduceDiv, Nat.reduceSub, Nat.reduceLeDiff, Nat.reduceLT, Int.reduceLE, Int.reduceLT, foldA, maxA, minA, Int.reduceBEq, Int.reduceBNe, Int.reduceGT, Int.reduceGE, Int.reduceEq, Int.reduceNe, Int.reduceToNat, AOp.stops, ↓want_eq, ↓exec_lenX]; with_reducible rfl))))
  refine AW_mid (fun e fr H' => e = .normal ∧ dbI p x H2 8 fr H') ?_ ?_
  · refine AW_block (AW_up (dbI p x H2) 8 ⟨Chg.refl _ _, ho2, hz2, stale _ _ rfl⟩ ?_)
    rintro i fr H3 hi ⟨c3, ho3, hz3, st, rfl⟩
    (repeat (first | with_reducible refine thenQ_n ?_ | with_reducible refine blockQ_n ?_ | refine AW_skip ?_ | refine AW_seq ?_ | refine AW_ops ?_ | refine AW_blockS ?_ | refine AW_blockR ?_ | refine AW_blockD ?_ | refine AW_blockC ?_ | refine AO_nil ?_ | refine AW_draw ?_ | refine AW_draw3 ?_ | refine AW_blockD3 ?_ | refine AHd_nil ?_ | ((first | with_reducible apply AO_pre | with_reducible apply AHd_pre); focus (simp only [Sm, wantedA, execA, stepA, List.getElem?_cons_zero, List.getElem?_cons_succ, if_true, if_false, binA, binInt, unA, eqA, Option.map, eq_self, reduceCtorEq, ite_true, ite_false, cellsAV, fitsAll, CK.fits, fillA, AV.cells, writeN, readN, sliceCells, appendA, lenA, i64, loA, hiA, Nat.reduceAdd, Nat.reduceMul, Nat.reduceDiv, Nat.reduceSub, Nat.reduceLeDiff, Nat.reduceLT, Int.reduceLE, Int.reduceLT, foldA, maxA, minA, Int.reduceBEq, Int.reduceBNe, Int.reduceGT, Int.reduceGE, Int.reduceEq, Int.reduceNe, Int.reduceToNat, AOp.stops, ↓want_eq, ↓exec_lenX]; with_reducible rfl))))
    refine AW_cond rfl ?_ ?_ <;> intro ht
    · have ht : (i : Int) < 8 := of_decide_eq_true ht
      have hi8 : i < 8 := by omega
      have hline := lines_at ⟨i, hi8⟩
      obtain ⟨a1, a2, a3, a4⟩ := lines_lt ⟨i, hi8⟩
      have hW := hx.dblK i
      have hsucc : dblK x (i + 1) = qAt (dblK x i) (la i) (lb i) (lc i) (ld i) := rfl
      simp only at hline a1 a2 a3 a4
      generalize dblK x i = l at *
      generalize la i = a at *
      generalize lb i = b at *
      generalize lc i = c at *
      generalize ld i = d at *
      have q0 : i * 4 + 4 ≤ lines32.length := by show i * 4 + 4 ≤ 32; omega
      (repeat (first | with_reducible refine thenQ_n ?_ | with_reducible refine blockQ_n ?_ | refine AW_skip ?_ | refine AW_seq ?_ | refine AW_ops ?_ | refine AW_blockS ?_ | refine AW_blockR ?_ | refine AW_blockD ?_ | refine AW_blockC ?_ | refine AO_nil ?_ | refine AW_draw ?_ | refine AW_draw3 ?_ | refine AW_blockD3 ?_ | refine AHd_nil ?_ | ((first | with_reducible apply AO_pre | with_reducible apply AHd_pre); focus (simp only [Sm, wantedA, execA, stepA, List.getElem?_cons_zero, List.getElem?_cons_succ, if_true, if_false, binA, binInt, unA, eqA, Option.map, eq_self, reduceCtorEq, ite_true, ite_false, cellsAV, fitsAll, CK.fits, fillA, AV.cells, writeN, readN, sliceCells, appendA, lenA, i64, loA, hiA, Nat.reduceAdd, Nat.reduceMul, Nat.reduceDiv, Nat.reduceSub, Nat.reduceLeDiff, Nat.reduceLT, Int.reduceLE, Int.reduceLT, foldA, maxA, minA, Int.reduceBEq, Int.reduceBNe, Int.reduceGT, Int.reduceGE, Int.reduceEq, Int.reduceNe, Int.reduceToNat, AOp.stops, ↓want_eq, ↓exec_lenX, ht, q0, hline, rep_4, ↓exec_storeN, storeN_last (by have := hown_lt hz3; omega : p ≤ H3.length)]; with_reducible rfl))))
      have c4 : Chg none_ H3 (H3 ++ [Blk.own [.int .i64 (a : Int), .int .i64 (b : Int), .int .i64 (c : Int), .int .i64 (d : Int)]]) := Chg.push _ _ _
      have ho4 := c4.hown (fun h => h) ho3
      have hz4 := c4.hown (fun h => h) hz3
      generalize H3 ++ [Blk.own [.int .i64 (a : Int), .int .i64 (b : Int), .int .i64 (c : Int), .int .i64 (d : Int)]] = H4 at *
      obtain ⟨H5, e5, hp5, c5, hz5⟩ : ∃ H5, H4 = H5.set p (.own (W32 l)) ∧ p < H5.length ∧ Chg none_ H3 H5 ∧ hown H5 (p + 1) = some (rep 16 (.int .u32 0)) := ⟨H4, set_id ho4, hown_lt ho4, c4, hz4⟩
      rw [e5]
      clear e5 ho4 hz4 c4
      have b1 : (a : Int) < 16 := by omega
      have b2 : (b : Int) < 16 := by omega
      have b3 : (c : Int) < 16 := by omega
      have b4 : (d : Int) < 16 := by omega
      (repeat (first | with_reducible refine thenQ_n ?_ | with_reducible refine blockQ_n ?_ | refine AW_skip ?_ | refine AW_seq ?_ | refine AW_ops ?_ | refine AW_blockS ?_ | refine AW_blockR ?_ | refine AW_blockD ?_ | refine AW_blockC ?_ | refine AO_nil ?_ | refine AW_draw ?_ | refine AW_draw3 ?_ | refine AW_blockD3 ?_ | refine AHd_nil ?_ | ((first | with_reducible apply AO_pre | with_reducible apply AHd_pre); focus (simp only [Sm, wantedA, execA, stepA, List.getElem?_cons_zero, List.getElem?_cons_succ, if_true, if_false, binA, binInt, unA, eqA, Option.map, eq_self, reduceCtorEq, ite_true, ite_false, cellsAV, fitsAll, CK.fits, fillA, AV.cells, writeN, readN, sliceCells, appendA, lenA, i64, loA, hiA, Nat.reduceAdd, Nat.reduceMul, Nat.reduceDiv, Nat.reduceSub, Nat.reduceLeDiff, Nat.reduceLT, Int.reduceLE, Int.reduceLT, foldA, maxA, minA, Int.reduceBEq, Int.reduceBNe, Int.reduceGT, Int.reduceGE, Int.reduceEq, Int.reduceNe, Int.reduceToNat, AOp.stops, ↓want_eq, ↓exec_lenX, hcells_setS hp5, b1, b2, b3, b4, hW.get a1, hW.get a2, hW.get a3, hW.get a4, Nat.zero_add]; with_reducible rfl))))
      refine AHd_call rfl (AC_Quarter _ _ _ _ _ _ (hW.2 a) (hW.2 b) (hW.2 c) (hW.2 d)) ?_
      rintro _ _ ⟨rfl, rfl⟩ _
      (repeat (first | with_reducible refine thenQ_n ?_ | with_reducible refine blockQ_n ?_ | refine AW_skip ?_ | refine AW_seq ?_ | refine AW_ops ?_ | refine AW_blockS ?_ | refine AW_blockR ?_ | refine AW_blockD ?_ | refine AW_blockC ?_ | refine AO_nil ?_ | refine AW_draw ?_ | refine AW_draw3 ?_ | refine AW_blockD3 ?_ | refine AHd_nil ?_ | ((first | with_reducible apply AO_pre | with_reducible apply AHd_pre); focus (simp only [Sm, wantedA, execA, stepA, List.getElem?_cons_zero, List.getElem?_cons_succ, if_true, if_false, binA, binInt, unA, eqA, Option.map, eq_self, reduceCtorEq, ite_true, ite_false, cellsAV, fitsAll, CK.fits, fillA, AV.cells, writeN, readN, sliceCells, appendA, lenA, i64, loA, hiA, Nat.reduceAdd, Nat.reduceMul, Nat.reduceDiv, Nat.reduceSub, Nat.reduceLeDiff, Nat.reduceLT, Int.reduceLE, Int.reduceLT, foldA, maxA, minA, Int.reduceBEq, Int.reduceBNe, Int.reduceGT, Int.reduceGE, Int.reduceEq, Int.reduceNe, Int.reduceToNat, AOp.stops, ↓want_eq, ↓exec_lenX, hcells_setS hp5, b1, b2, b3, b4, ↓exec_storeX, storeX_setS hp5 (Nat.le_refl _), W32_setL, W32_length, List.length_set, hW.1, a1, a2, a3, a4, Nat.zero_add, i64_succ (show i < 9223372036854775807 by omega)]; with_reducible rfl))))
      refine ⟨hi8, (c3.trans (c5.mono (T := (· = p)) fun _ _ h => h.elim) fun _ _ h => h).trans (Chg.set (S := (· = p)) rfl) fun _ _ h => h, ?_, ?_, stale _ _ rfl⟩
      · rw [hown_set hp5, hsucc]; rfl
      · rw [hown_set_ne (by omega)]; exact hz5
    · obtain rfl : i = 8 := by have : ¬ (i : Int) < 8 := of_decide_eq_false ht; omega
      exact AW_exit ⟨rfl, c3, ho3, hz3, stale _ _ rfl⟩
  rintro e fr H3 ⟨rfl, c3, ho3, hz3, st, rfl⟩
  have hl : (W32 (dblK x 8)).length = 16 := (hx.dblK 8).len
  have hr : readN H3 p 0 16 = some (W32 (dblK x 8)) := by rw [← hl]; exact readN_all (hcells_own ho3)
  have hp3 := hown_lt hz3
  (repeat (first | with_reducible refine thenQ_n ?_ | with_reducible refine blockQ_n ?_ | refine AW_skip ?_ | refine AW_seq ?_ | refine AW_ops ?_ | refine AW_blockS ?_ | refine AW_blockR ?_ | refine AW_blockD ?_ | refine AW_blockC ?_ | refine AO_nil ?_ | refine AW_draw ?_ | refine AW_draw3 ?_ | refine AW_blockD3 ?_ | refine AHd_nil ?_ | ((first | with_reducible apply AO_pre | with_reducible apply AHd_pre); focus (simp only [Sm, wantedA, execA, stepA, List.getElem?_cons_zero, List.getElem?_cons_succ, if_true, if_false, binA, binInt, unA, eqA, Option.map, eq_self, reduceCtorEq, ite_true, ite_false, cellsAV, fitsAll, CK.fits, fillA, AV.cells, writeN, readN, sliceCells, appendA, lenA, i64, loA, hiA, Nat.reduceAdd, Nat.reduceMul, Nat.reduceDiv, Nat.reduceSub, Nat.reduceLeDiff, Nat.reduceLT, Int.reduceLE, Int.reduceLT, foldA, maxA, minA, Int.reduceBEq, Int.reduceBNe, Int.reduceGT, Int.reduceGE, Int.reduceEq, Int.reduceNe, Int.reduceToNat, AOp.stops, ↓want_eq, ↓exec_lenX, ↓hr, ↓exec_storeN, storeN_all hz3 (Nat.le_succ _) rep_len hl]; with_reducible rfl))))
  have hr2 : readN (H3.set (p + 1) (.own (W32 (dblK x 8)))) (p + 1) 0 16 = some (W32 (dblK x 8)) := by rw [← hl]; exact readN_all (hcells_set hp3)
  exact AW_ret ⟨_, by simp only [outA, resA, ressA, AV.tv, Option.map_some, List.take_succ_cons, List.take_zero, List.drop_succ_cons, List.drop_zero, bne_self_eq_false, List.map_cons, List.map_nil, Bool.true_beq, Bool.false_beq, run_nil, run_cons, run_gate, cont_some, gate_true, gate_false, hrun_nil, hrun_cons, hrun_gate, hcont_some, hgate_true, hgate_false, put_some, put_none, ev_t, ev_k, wantedA, execA, stepA, List.set_cons_succ, List.set_cons_zero, List.getD_cons_succ, List.getD_cons_zero, List.getElem?_cons_zero, List.getElem?_cons_succ, if_true, if_false, binA, binInt, unA, eqA, Option.map, eq_self, true_or, or_true, true_and, and_true, and_self, beq_self_eq_true, Bool.not_true, Bool.not_false, reduceCtorEq, Bool.false_eq_true, ite_true, ite_false, cellsAV, fitsAll, CK.fits, decide_true, Bool.and_true, Bool.true_and, fillA, AV.cells, writeN, readN, sliceCells, appendA, lenA, i64, loA, hiA, hcells_last, hown_last, List.take_zero, List.drop_zero, List.nil_append, List.cons_append, List.append_nil, List.take_nil, List.drop_nil, List.length_cons, List.length_nil, List.length_append, Nat.zero_add, Nat.add_zero, Nat.reduceAdd, Nat.reduceMul, Nat.reduceDiv, Nat.reduceSub, Nat.mul_one, Nat.one_mul, Nat.div_one, Nat.le_refl, Nat.reduceLeDiff, Nat.reduceLT, Int.toNat_natCast, Int.toNat_zero, Nat.zero_le, Int.natCast_nonneg, Int.reduceLE, Int.reduceLT, Option.some.injEq, foldA, maxA, minA, Cell.int.injEq, AV.c.injEq, pre_nil, pre_cons, pre_gate, pre1_cons, pre1_gate, qstop_true, qstop_false, qstopg_false, qgate_true, qgate_false, pcont_some, pstop_true, pstop_false, pstopg_false, pgate_true, pgate_false, hpre_nil, hpre_cons, hpre_gate, hpre1_cons, hpre1_gate, hqstop_true, hqstop_false, hqstopg_false, hqgate_true, hqgate_false, hpcont_some, hpstop_true, hpstop_false, hpstopg_false, hpgate_true, hpgate_false, Int.reduceBEq, Int.reduceBNe, Int.reduceGT, Int.reduceGE, Int.reduceEq, Int.reduceNe, decide_false, nat_0, nat_1, nat_2, nat_3, nat_4, nat_8, nat_16, nat_64, nat_128, Int.reduceToNat, AOp.stops, pre1_nil, hpre1_nil, ↓want_eq, wantV_bool, wantV_undef, ↓exec_lenX, lenX_snil, lenX_slc, ↓hr2] <;> with_reducible rfl, by rfl⟩
end PK

/- Salsa's core, eight rounds: walked; the document's half rounds and core. -/
namespace PK
open Go PAbs
set_option linter.unusedSimpArgs false
set_option linter.unusedVariables false
set_option maxRecDepth 100000
set_option maxHeartbeats 1000000

def dblN (x : List Nat) : Nat → List Nat
  | 0 => x
  | k + 1 => dbl (dblN x k)
theorem Words.dblN {x : List Nat} (h : Words x) : ∀ k, Words (dblN x k)
  | 0 => h
  | k + 1 => (Words.dblN h k).dblK 8
def addS (y x : List Nat) (k : Nat) : List Nat := upd (fun i => s32 (y.getD i 0) (x.getD i 0)) y k
def core (x : List Nat) (n : Nat) : List Nat := addS (dblN x n) x 16
theorem Words.addS {y : List Nat} (h : Words y) (x : List Nat) : ∀ k, Words (addS y x k)
  | 0 => h
  | k + 1 => (Words.addS h x k).set (s32_lt _ _)
theorem addS_self {y x : List Nat} {k : Nat} (h : Words y) (hk : k < 16) : (addS y x k).getD k 0 = y.getD k 0 := by
  rw [List.getD_eq_getElem?_getD, List.getD_eq_getElem?_getD]
  have := upd_self (f := fun i => s32 (y.getD i 0) (x.getD i 0)) (l := y) k (by rw [h.1]; exact hk)
  show ((upd _ y k)[k]?).getD 0 = _
  rw [this]


def co1 (p n : Nat) (x : List Nat) (H0 : AHeap) (i : Nat) (fr : AFrame) (H : AHeap) : Prop := Chg (· = p + 2) H0 H ∧ hown H (p + 2) = some (W32 (dblN x i)) ∧ (∃ s : Nat → AV, fr = [s 0, s 1, .c (.ptr p 0), s 3, .c (.ptr (p + 1) 0), s 5, .c (.ptr (p + 2) 0), s 7, s 8, s 9, s 10, s 11, s 12, s 13, s 14, s 15, .c (.int .i64 (n : Int)), .c (.int .i64 (i : Int)), s 18, s 19, s 20, s 21, s 22, s 23, s 24, s 25, s 26, s 27, s 28, s 29, s 30, s 31, s 32, s 33, s 34])

def co2 (p : Nat) (y x : List Nat) (H0 : AHeap) (i : Nat) (fr : AFrame) (H : AHeap) : Prop := Chg (· = p + 2) H0 H ∧ hown H (p + 2) = some (W32 (addS y x i)) ∧ (∃ s : Nat → AV, fr = [s 0, s 1, .c (.ptr p 0), s 3, .c (.ptr (p + 1) 0), s 5, .c (.ptr (p + 2) 0), s 7, s 8, s 9, s 10, s 11, s 12, s 13, s 14, s 15, s 16, s 17, s 18, s 19, s 20, s 21, .c (.int .i64 (i : Int)), s 23, s 24, s 25, s 26, s 27, s 28, s 29, s 30, s 31, s 32, s 33, s 34])

theorem AC_Core (H : AHeap) (x : List Nat) (hx : Words x) (z : Int) (hz : -9223372036854775808 ≤ z ∧ z ≤ 9223372036854775807) : AC A H.length F_salsa_Core [.agg (W32 x), .c (.int .i64 z)] H
    (fun v H' => ((z < 0 ∨ z > 100) ∧ v = .tup [.agg (rep 16 (.int .u32 0)), .c (.int .i64 1)]) ∨ (0 ≤ z ∧ z ≤ 100 ∧ v = .tup [.agg (W32 (core x z.toNat)), .c (.int .i64 0)])) := by
  refine AC_enter t_salsa_Core ?_; simp only [c_salsa_Core, enterA, List.replicate, List.length_cons, List.length_nil, Nat.reduceAdd, Nat.reduceSub, List.cons_append, List.nil_append]
  refine AW_seq (AW_ops (AO_pre (by simp only [List.take_succ_cons, List.take_zero, List.drop_succ_cons, List.drop_zero, bne_self_eq_false, List.map_cons, List.map_nil, Bool.true_beq, Bool.false_beq, run_nil, run_cons, run_gate, cont_some, gate_true, gate_false, hrun_nil, hrun_cons, hrun_gate, hcont_some, hgate_true, hgate_false, put_some, put_none, ev_t, ev_k, wantedA, execA, stepA, List.set_cons_succ, List.set_cons_zero, List.getD_cons_succ, List.getD_cons_zero, List.getElem?_cons_zero, List.getElem?_cons_succ, if_true, if_false, binA, binInt, unA, eqA, Option.map, eq_self, true_or, or_true, true_and, and_true, and_self, beq_self_eq_true, Bool.not_true, Bool.not_false, reduceCtorEq, Bool.false_eq_true, ite_true, ite_false, cellsAV, fitsAll, CK.fits, decide_true, Bool.and_true, Bool.true_and, fillA, AV.cells, writeN, readN, sliceCells, appendA, lenA, i64, loA, hiA, hcells_last, hown_last, List.take_zero, List.drop_zero, List.nil_append, List.cons_append, List.append_nil, List.take_nil, List.drop_nil, List.length_cons, List.length_nil, List.length_append, Nat.zero_add, Nat.add_zero, Nat.reduceAdd, Nat.reduceMul, Nat.reduceDiv, Nat.reduceSub, Nat.mul_one, Nat.one_mul, Nat.div_one, Nat.le_refl, Nat.reduceLeDiff, Nat.reduceLT, Int.toNat_natCast, Int.toNat_zero, Nat.zero_le, Int.natCast_nonneg, Int.reduceLE, Int.reduceLT, Option.some.injEq, foldA, maxA, minA, Cell.int.injEq, AV.c.injEq, pre_nil, pre_cons, pre_gate, pre1_cons, pre1_gate, qstop_true, qstop_false, qstopg_false, qgate_true, qgate_false, pcont_some, pstop_true, pstop_false, pstopg_false, pgate_true, pgate_false, hpre_nil, hpre_cons, hpre_gate, hpre1_cons, hpre1_gate, hqstop_true, hqstop_false, hqstopg_false, hqgate_true, hqgate_false, hpcont_some, hpstop_true, hpstop_false, hpstopg_false, hpgate_true, hpgate_false, Int.reduceBEq, Int.reduceBNe, Int.reduceGT, Int.reduceGE, Int.reduceEq, Int.reduceNe, decide_false, nat_0, nat_1, nat_2, nat_3, nat_4, nat_8, nat_16, nat_64, nat_128, Int.reduceToNat, AOp.stops, pre1_nil, hpre1_nil, ↓want_eq, wantV_bool, wantV_undef, ↓exec_lenX, lenX_snil, lenX_slc]; with_reducible rfl) (AO_nil ?_)))
  have ho : hown (H ++ [Blk.own (W32 x)] ++ [Blk.own (rep 16 (.int .u32 0))]) H.length = some (W32 x) := hown_app hown_last
  have hz4 : hown (H ++ [Blk.own (W32 x)] ++ [Blk.own (rep 16 (.int .u32 0))]) (H ++ [Blk.own (W32 x)]).length = some (rep 16 (.int .u32 0)) := hown_last
  have hq1 : (H ++ [Blk.own (W32 x)]).length = H.length + 1 := by simp
  rw [hq1] at hz4
  try simp only [List.length_append, List.length_cons, List.length_nil, Nat.zero_add]
  have hfl : (H ++ [Blk.own (W32 x)] ++ [Blk.own (rep 16 (.int .u32 0))]).length = H.length + 2 := by simp
  generalize H ++ [Blk.own (W32 x)] ++ [Blk.own (rep 16 (.int .u32 0))] = H1 at *
  generalize H.length = p at *
  have hbad : (z < 0 ∨ z > 100) → AW A p (.seq (.region
      [⟨some 14, .build (rep 16 (.int .u32 0)) [], none⟩,
        ⟨none, .store 16 (.t 4) (.t 14), none⟩,
        ⟨some 5, .mv (.k (.c (.int .i64 1))), none⟩]) .ret) [] H1 (fun _ _ _ => True) → True := fun _ _ => trivial
  have hr4 : ∀ (K : AHeap), K = H1.set (p + 1) (.own (rep 16 (.int .u32 0))) → readN K (p + 1) 0 16 = some (rep 16 (.int .u32 0)) := by
    rintro _ rfl
    exact readN_all (cs := rep 16 (Cell.int .u32 0)) (hcells_set (hown_lt hz4))
  rcases Decidable.em (z < 0) with h1 | h1
  · (repeat (first | with_reducible refine thenQ_n ?_ | with_reducible refine blockQ_n ?_ | refine AW_skip ?_ | refine AW_seq ?_ | refine AW_ops ?_ | refine AW_blockS ?_ | refine AW_blockR ?_ | refine AW_blockD ?_ | refine AW_blockC ?_ | refine AO_nil ?_ | refine AW_draw ?_ | refine AW_draw3 ?_ | refine AW_blockD3 ?_ | refine AHd_nil ?_ | ((first | with_reducible apply AO_pre | with_reducible apply AHd_pre); focus (simp only [Sm, wantedA, execA, stepA, List.getElem?_cons_zero, List.getElem?_cons_succ, if_true, if_false, binA, binInt, unA, eqA, Option.map, eq_self, reduceCtorEq, ite_true, ite_false, cellsAV, fitsAll, CK.fits, fillA, AV.cells, writeN, readN, sliceCells, appendA, lenA, i64, loA, hiA, Nat.reduceAdd, Nat.reduceMul, Nat.reduceDiv, Nat.reduceSub, Nat.reduceLeDiff, Nat.reduceLT, Int.reduceLE, Int.reduceLT, foldA, maxA, minA, Int.reduceBEq, Int.reduceBNe, Int.reduceGT, Int.reduceGE, Int.reduceEq, Int.reduceNe, Int.reduceToNat, AOp.stops, ↓want_eq, ↓exec_lenX, decide_eq_true h1]; with_reducible rfl))))
    refine AW_cond (t := true) rfl (fun _ => ?_) (fun h => by cases h)
    (repeat (first | with_reducible refine thenQ_n ?_ | with_reducible refine blockQ_n ?_ | refine AW_skip ?_ | refine AW_seq ?_ | refine AW_ops ?_ | refine AW_blockS ?_ | refine AW_blockR ?_ | refine AW_blockD ?_ | refine AW_blockC ?_ | refine AO_nil ?_ | refine AW_draw ?_ | refine AW_draw3 ?_ | refine AW_blockD3 ?_ | refine AHd_nil ?_ | ((first | with_reducible apply AO_pre | with_reducible apply AHd_pre); focus (simp only [Sm, wantedA, execA, stepA, List.getElem?_cons_zero, List.getElem?_cons_succ, if_true, if_false, binA, binInt, unA, eqA, Option.map, eq_self, reduceCtorEq, ite_true, ite_false, cellsAV, fitsAll, CK.fits, fillA, AV.cells, writeN, readN, sliceCells, appendA, lenA, i64, loA, hiA, Nat.reduceAdd, Nat.reduceMul, Nat.reduceDiv, Nat.reduceSub, Nat.reduceLeDiff, Nat.reduceLT, Int.reduceLE, Int.reduceLT, foldA, maxA, minA, Int.reduceBEq, Int.reduceBNe, Int.reduceGT, Int.reduceGE, Int.reduceEq, Int.reduceNe, Int.reduceToNat, AOp.stops, ↓want_eq, ↓exec_lenX, fillA, ↓exec_storeN, storeN_all hz4 (Nat.le_succ _) rep_len rep_len]; with_reducible rfl))))
    exact AW_ret ⟨_, by simp only [outA, resA, ressA, AV.tv, Option.map_some, List.take_succ_cons, List.take_zero, List.drop_succ_cons, List.drop_zero, bne_self_eq_false, List.map_cons, List.map_nil, Bool.true_beq, Bool.false_beq, run_nil, run_cons, run_gate, cont_some, gate_true, gate_false, hrun_nil, hrun_cons, hrun_gate, hcont_some, hgate_true, hgate_false, put_some, put_none, ev_t, ev_k, wantedA, execA, stepA, List.set_cons_succ, List.set_cons_zero, List.getD_cons_succ, List.getD_cons_zero, List.getElem?_cons_zero, List.getElem?_cons_succ, if_true, if_false, binA, binInt, unA, eqA, Option.map, eq_self, true_or, or_true, true_and, and_true, and_self, beq_self_eq_true, Bool.not_true, Bool.not_false, reduceCtorEq, Bool.false_eq_true, ite_true, ite_false, cellsAV, fitsAll, CK.fits, decide_true, Bool.and_true, Bool.true_and, fillA, AV.cells, writeN, readN, sliceCells, appendA, lenA, i64, loA, hiA, hcells_last, hown_last, List.take_zero, List.drop_zero, List.nil_append, List.cons_append, List.append_nil, List.take_nil, List.drop_nil, List.length_cons, List.length_nil, List.length_append, Nat.zero_add, Nat.add_zero, Nat.reduceAdd, Nat.reduceMul, Nat.reduceDiv, Nat.reduceSub, Nat.mul_one, Nat.one_mul, Nat.div_one, Nat.le_refl, Nat.reduceLeDiff, Nat.reduceLT, Int.toNat_natCast, Int.toNat_zero, Nat.zero_le, Int.natCast_nonneg, Int.reduceLE, Int.reduceLT, Option.some.injEq, foldA, maxA, minA, Cell.int.injEq, AV.c.injEq, pre_nil, pre_cons, pre_gate, pre1_cons, pre1_gate, qstop_true, qstop_false, qstopg_false, qgate_true, qgate_false, pcont_some, pstop_true, pstop_false, pstopg_false, pgate_true, pgate_false, hpre_nil, hpre_cons, hpre_gate, hpre1_cons, hpre1_gate, hqstop_true, hqstop_false, hqstopg_false, hqgate_true, hqgate_false, hpcont_some, hpstop_true, hpstop_false, hpstopg_false, hpgate_true, hpgate_false, Int.reduceBEq, Int.reduceBNe, Int.reduceGT, Int.reduceGE, Int.reduceEq, Int.reduceNe, decide_false, nat_0, nat_1, nat_2, nat_3, nat_4, nat_8, nat_16, nat_64, nat_128, Int.reduceToNat, AOp.stops, pre1_nil, hpre1_nil, ↓want_eq, wantV_bool, wantV_undef, ↓exec_lenX, lenX_snil, lenX_slc, ↓hr4 _ rfl] <;> with_reducible rfl, by exact .inl ⟨.inl h1, rfl⟩⟩
  rcases Decidable.em (z > 100) with h2 | h2
  · (repeat (first | with_reducible refine thenQ_n ?_ | with_reducible refine blockQ_n ?_ | refine AW_skip ?_ | refine AW_seq ?_ | refine AW_ops ?_ | refine AW_blockS ?_ | refine AW_blockR ?_ | refine AW_blockD ?_ | refine AW_blockC ?_ | refine AO_nil ?_ | refine AW_draw ?_ | refine AW_draw3 ?_ | refine AW_blockD3 ?_ | refine AHd_nil ?_ | ((first | with_reducible apply AO_pre | with_reducible apply AHd_pre); focus (simp only [Sm, wantedA, execA, stepA, List.getElem?_cons_zero, List.getElem?_cons_succ, if_true, if_false, binA, binInt, unA, eqA, Option.map, eq_self, reduceCtorEq, ite_true, ite_false, cellsAV, fitsAll, CK.fits, fillA, AV.cells, writeN, readN, sliceCells, appendA, lenA, i64, loA, hiA, Nat.reduceAdd, Nat.reduceMul, Nat.reduceDiv, Nat.reduceSub, Nat.reduceLeDiff, Nat.reduceLT, Int.reduceLE, Int.reduceLT, foldA, maxA, minA, Int.reduceBEq, Int.reduceBNe, Int.reduceGT, Int.reduceGE, Int.reduceEq, Int.reduceNe, Int.reduceToNat, AOp.stops, ↓want_eq, ↓exec_lenX, decide_eq_false h1, decide_eq_true h2]; with_reducible rfl))))
    refine AW_cond (t := true) rfl (fun _ => ?_) (fun h => by cases h)
    (repeat (first | with_reducible refine thenQ_n ?_ | with_reducible refine blockQ_n ?_ | refine AW_skip ?_ | refine AW_seq ?_ | refine AW_ops ?_ | refine AW_blockS ?_ | refine AW_blockR ?_ | refine AW_blockD ?_ | refine AW_blockC ?_ | refine AO_nil ?_ | refine AW_draw ?_ | refine AW_draw3 ?_ | refine AW_blockD3 ?_ | refine AHd_nil ?_ | ((first | with_reducible apply AO_pre | with_reducible apply AHd_pre); focus (simp only [Sm, wantedA, execA, stepA, List.getElem?_cons_zero, List.getElem?_cons_succ, if_true, if_false, binA, binInt, unA, eqA, Option.map, eq_self, reduceCtorEq, ite_true, ite_false, cellsAV, fitsAll, CK.fits, fillA, AV.cells, writeN, readN, sliceCells, appendA, lenA, i64, loA, hiA, Nat.reduceAdd, Nat.reduceMul, Nat.reduceDiv, Nat.reduceSub, Nat.reduceLeDiff, Nat.reduceLT, Int.reduceLE, Int.reduceLT, foldA, maxA, minA, Int.reduceBEq, Int.reduceBNe, Int.reduceGT, Int.reduceGE, Int.reduceEq, Int.reduceNe, Int.reduceToNat, AOp.stops, ↓want_eq, ↓exec_lenX, fillA, ↓exec_storeN, storeN_all hz4 (Nat.le_succ _) rep_len rep_len]; with_reducible rfl))))
    exact AW_ret ⟨_, by simp only [outA, resA, ressA, AV.tv, Option.map_some, List.take_succ_cons, List.take_zero, List.drop_succ_cons, List.drop_zero, bne_self_eq_false, List.map_cons, List.map_nil, Bool.true_beq, Bool.false_beq, run_nil, run_cons, run_gate, cont_some, gate_true, gate_false, hrun_nil, hrun_cons, hrun_gate, hcont_some, hgate_true, hgate_false, put_some, put_none, ev_t, ev_k, wantedA, execA, stepA, List.set_cons_succ, List.set_cons_zero, List.getD_cons_succ, List.getD_cons_zero, List.getElem?_cons_zero, List.getElem?_cons_succ, if_true, if_false, binA, binInt, unA, eqA, Option.map, eq_self, true_or, or_true, true_and, and_true, and_self, beq_self_eq_true, Bool.not_true, Bool.not_false, reduceCtorEq, Bool.false_eq_true, ite_true, ite_false, cellsAV, fitsAll, CK.fits, decide_true, Bool.and_true, Bool.true_and, fillA, AV.cells, writeN, readN, sliceCells, appendA, lenA, i64, loA, hiA, hcells_last, hown_last, List.take_zero, List.drop_zero, List.nil_append, List.cons_append, List.append_nil, List.take_nil, List.drop_nil, List.length_cons, List.length_nil, List.length_append, Nat.zero_add, Nat.add_zero, Nat.reduceAdd, Nat.reduceMul, Nat.reduceDiv, Nat.reduceSub, Nat.mul_one, Nat.one_mul, Nat.div_one, Nat.le_refl, Nat.reduceLeDiff, Nat.reduceLT, Int.toNat_natCast, Int.toNat_zero, Nat.zero_le, Int.natCast_nonneg, Int.reduceLE, Int.reduceLT, Option.some.injEq, foldA, maxA, minA, Cell.int.injEq, AV.c.injEq, pre_nil, pre_cons, pre_gate, pre1_cons, pre1_gate, qstop_true, qstop_false, qstopg_false, qgate_true, qgate_false, pcont_some, pstop_true, pstop_false, pstopg_false, pgate_true, pgate_false, hpre_nil, hpre_cons, hpre_gate, hpre1_cons, hpre1_gate, hqstop_true, hqstop_false, hqstopg_false, hqgate_true, hqgate_false, hpcont_some, hpstop_true, hpstop_false, hpstopg_false, hpgate_true, hpgate_false, Int.reduceBEq, Int.reduceBNe, Int.reduceGT, Int.reduceGE, Int.reduceEq, Int.reduceNe, decide_false, nat_0, nat_1, nat_2, nat_3, nat_4, nat_8, nat_16, nat_64, nat_128, Int.reduceToNat, AOp.stops, pre1_nil, hpre1_nil, ↓want_eq, wantV_bool, wantV_undef, ↓exec_lenX, lenX_snil, lenX_slc, ↓hr4 _ rfl] <;> with_reducible rfl, by exact .inl ⟨.inr h2, rfl⟩⟩
  obtain ⟨n, rfl⟩ := Int.eq_ofNat_of_zero_le (show 0 ≤ z by omega)
  have hn : n ≤ 100 := by omega
  (repeat (first | with_reducible refine thenQ_n ?_ | with_reducible refine blockQ_n ?_ | refine AW_skip ?_ | refine AW_seq ?_ | refine AW_ops ?_ | refine AW_blockS ?_ | refine AW_blockR ?_ | refine AW_blockD ?_ | refine AW_blockC ?_ | refine AO_nil ?_ | refine AW_draw ?_ | refine AW_draw3 ?_ | refine AW_blockD3 ?_ | refine AHd_nil ?_ | ((first | with_reducible apply AO_pre | with_reducible apply AHd_pre); focus (simp only [Sm, wantedA, execA, stepA, List.getElem?_cons_zero, List.getElem?_cons_succ, if_true, if_false, binA, binInt, unA, eqA, Option.map, eq_self, reduceCtorEq, ite_true, ite_false, cellsAV, fitsAll, CK.fits, fillA, AV.cells, writeN, readN, sliceCells, appendA, lenA, i64, loA, hiA, Nat.reduceAdd, Nat.reduceMul, Nat.reduceDiv, Nat.reduceSub, Nat.reduceLeDiff, Nat.reduceLT, Int.reduceLE, Int.reduceLT, foldA, maxA, minA, Int.reduceBEq, Int.reduceBNe, Int.reduceGT, Int.reduceGE, Int.reduceEq, Int.reduceNe, Int.reduceToNat, AOp.stops, ↓want_eq, ↓exec_lenX, decide_eq_false h1, decide_eq_false h2]; with_reducible rfl))))
  refine AW_cond (t := false) rfl (fun h => by cases h) fun _ => ?_
  have hr : readN H1 p 0 16 = some (W32 x) := by rw [← hx.len]; exact readN_all (hcells_own ho)
  (repeat (first | with_reducible refine thenQ_n ?_ | with_reducible refine blockQ_n ?_ | refine AW_skip ?_ | refine AW_seq ?_ | refine AW_ops ?_ | refine AW_blockS ?_ | refine AW_blockR ?_ | refine AW_blockD ?_ | refine AW_blockC ?_ | refine AO_nil ?_ | refine AW_draw ?_ | refine AW_draw3 ?_ | refine AW_blockD3 ?_ | refine AHd_nil ?_ | ((first | with_reducible apply AO_pre | with_reducible apply AHd_pre); focus (simp only [Sm, wantedA, execA, stepA, List.getElem?_cons_zero, List.getElem?_cons_succ, if_true, if_false, binA, binInt, unA, eqA, Option.map, eq_self, reduceCtorEq, ite_true, ite_false, cellsAV, fitsAll, CK.fits, fillA, AV.cells, writeN, readN, sliceCells, appendA, lenA, i64, loA, hiA, Nat.reduceAdd, Nat.reduceMul, Nat.reduceDiv, Nat.reduceSub, Nat.reduceLeDiff, Nat.reduceLT, Int.reduceLE, Int.reduceLT, foldA, maxA, minA, Int.reduceBEq, Int.reduceBNe, Int.reduceGT, Int.reduceGE, Int.reduceEq, Int.reduceNe, Int.reduceToNat, AOp.stops, ↓want_eq, ↓exec_lenX, ↓hr, ↓exec_storeN, storeN_last (by omega : p ≤ H1.length), rep_len, hx.len]; with_reducible rfl))))
  have c2 : Chg none_ H1 (H1 ++ [Blk.own (W32 x)]) := Chg.push _ _ _
  have ho2 := c2.hown (fun h => h) ho
  have hz2 := c2.hown (fun h => h) hz4
  have hy2 : hown (H1 ++ [Blk.own (W32 x)]) (p + 2) = some (W32 x) := by rw [← hfl]; exact hown_last
  rw [hfl]
  generalize H1 ++ [Blk.own (W32 x)] = H2 at *
  refine AW_mid (fun e fr H' => e = .normal ∧ co1 p n x H2 n fr H') ?_ ?_
  · refine AW_block (AW_up (co1 p n x H2) n ⟨Chg.refl _ _, hy2, stale _ _ rfl⟩ ?_)
    rintro i fr H3 hi ⟨c3, hy3, st, rfl⟩
    (repeat (first | with_reducible refine thenQ_n ?_ | with_reducible refine blockQ_n ?_ | refine AW_skip ?_ | refine AW_seq ?_ | refine AW_ops ?_ | refine AW_blockS ?_ | refine AW_blockR ?_ | refine AW_blockD ?_ | refine AW_blockC ?_ | refine AO_nil ?_ | refine AW_draw ?_ | refine AW_draw3 ?_ | refine AW_blockD3 ?_ | refine AHd_nil ?_ | ((first | with_reducible apply AO_pre | with_reducible apply AHd_pre); focus (simp only [Sm, wantedA, execA, stepA, List.getElem?_cons_zero, List.getElem?_cons_succ, if_true, if_false, binA, binInt, unA, eqA, Option.map, eq_self, reduceCtorEq, ite_true, ite_false, cellsAV, fitsAll, CK.fits, fillA, AV.cells, writeN, readN, sliceCells, appendA, lenA, i64, loA, hiA, Nat.reduceAdd, Nat.reduceMul, Nat.reduceDiv, Nat.reduceSub, Nat.reduceLeDiff, Nat.reduceLT, Int.reduceLE, Int.reduceLT, foldA, maxA, minA, Int.reduceBEq, Int.reduceBNe, Int.reduceGT, Int.reduceGE, Int.reduceEq, Int.reduceNe, Int.reduceToNat, AOp.stops, ↓want_eq, ↓exec_lenX]; with_reducible rfl))))
    refine AW_cond rfl ?_ ?_ <;> intro ht
    · have ht : (i : Int) < n := of_decide_eq_true ht
      have hW := hx.dblN i
      have hr3 : readN H3 (p + 2) 0 16 = some (W32 (dblN x i)) := by rw [← hW.len]; exact readN_all (hcells_own hy3)
      (repeat (first | with_reducible refine thenQ_n ?_ | with_reducible refine blockQ_n ?_ | refine AW_skip ?_ | refine AW_seq ?_ | refine AW_ops ?_ | refine AW_blockS ?_ | refine AW_blockR ?_ | refine AW_blockD ?_ | refine AW_blockC ?_ | refine AO_nil ?_ | refine AW_draw ?_ | refine AW_draw3 ?_ | refine AW_blockD3 ?_ | refine AHd_nil ?_ | ((first | with_reducible apply AO_pre | with_reducible apply AHd_pre); focus (simp only [Sm, wantedA, execA, stepA, List.getElem?_cons_zero, List.getElem?_cons_succ, if_true, if_false, binA, binInt, unA, eqA, Option.map, eq_self, reduceCtorEq, ite_true, ite_false, cellsAV, fitsAll, CK.fits, fillA, AV.cells, writeN, readN, sliceCells, appendA, lenA, i64, loA, hiA, Nat.reduceAdd, Nat.reduceMul, Nat.reduceDiv, Nat.reduceSub, Nat.reduceLeDiff, Nat.reduceLT, Int.reduceLE, Int.reduceLT, foldA, maxA, minA, Int.reduceBEq, Int.reduceBNe, Int.reduceGT, Int.reduceGE, Int.reduceEq, Int.reduceNe, Int.reduceToNat, AOp.stops, ↓want_eq, ↓exec_lenX, ↓hr3]; with_reducible rfl))))
      refine AO_call rfl ((AC_Double H3 _ hW).kept (by have := hown_lt hy3; omega)) ?_
      rintro _ H4 ⟨rfl, k4⟩
      have c4 := Chg.of_kept k4
      have hy4 := c4.hown (fun h => h) hy3
      (repeat (first | with_reducible refine thenQ_n ?_ | with_reducible refine blockQ_n ?_ | refine AW_skip ?_ | refine AW_seq ?_ | refine AW_ops ?_ | refine AW_blockS ?_ | refine AW_blockR ?_ | refine AW_blockD ?_ | refine AW_blockC ?_ | refine AO_nil ?_ | refine AW_draw ?_ | refine AW_draw3 ?_ | refine AW_blockD3 ?_ | refine AHd_nil ?_ | ((first | with_reducible apply AO_pre | with_reducible apply AHd_pre); focus (simp only [Sm, wantedA, execA, stepA, List.getElem?_cons_zero, List.getElem?_cons_succ, if_true, if_false, binA, binInt, unA, eqA, Option.map, eq_self, reduceCtorEq, ite_true, ite_false, cellsAV, fitsAll, CK.fits, fillA, AV.cells, writeN, readN, sliceCells, appendA, lenA, i64, loA, hiA, Nat.reduceAdd, Nat.reduceMul, Nat.reduceDiv, Nat.reduceSub, Nat.reduceLeDiff, Nat.reduceLT, Int.reduceLE, Int.reduceLT, foldA, maxA, minA, Int.reduceBEq, Int.reduceBNe, Int.reduceGT, Int.reduceGE, Int.reduceEq, Int.reduceNe, Int.reduceToNat, AOp.stops, ↓want_eq, ↓exec_lenX, ↓exec_storeN, storeN_all hy4 (by omega : p ≤ p + 2) hW.len (show (W32 (dbl (dblN x i))).length = 16 from (hW.dblK 8).len), i64_succ (show i < 9223372036854775807 by omega)]; with_reducible rfl))))
      refine ⟨by omega, (c3.trans c4 fun _ _ h => h.elim).trans (Chg.set (S := (· = p + 2)) rfl) fun _ _ h => h, hown_set (hown_lt hy4), stale _ _ rfl⟩
    · obtain rfl : i = n := by have : ¬ (i : Int) < n := of_decide_eq_false ht; omega
      exact AW_exit ⟨rfl, c3, hy3, stale _ _ rfl⟩
  rintro e fr H3 ⟨rfl, c3, hy3, st, rfl⟩
  have ho3 := c3.hown (by omega : ¬ p = p + 2) ho2
  have hz3 := c3.hown (by omega : ¬ p + 1 = p + 2) hz2
  have hW := hx.dblN n
  (repeat (first | with_reducible refine thenQ_n ?_ | with_reducible refine blockQ_n ?_ | refine AW_skip ?_ | refine AW_seq ?_ | refine AW_ops ?_ | refine AW_blockS ?_ | refine AW_blockR ?_ | refine AW_blockD ?_ | refine AW_blockC ?_ | refine AO_nil ?_ | refine AW_draw ?_ | refine AW_draw3 ?_ | refine AW_blockD3 ?_ | refine AHd_nil ?_ | ((first | with_reducible apply AO_pre | with_reducible apply AHd_pre); focus (simp only [Sm, wantedA, execA, stepA, List.getElem?_cons_zero, List.getElem?_cons_succ, if_true, if_false, binA, binInt, unA, eqA, Option.map, eq_self, reduceCtorEq, ite_true, ite_false, cellsAV, fitsAll, CK.fits, fillA, AV.cells, writeN, readN, sliceCells, appendA, lenA, i64, loA, hiA, Nat.reduceAdd, Nat.reduceMul, Nat.reduceDiv, Nat.reduceSub, Nat.reduceLeDiff, Nat.reduceLT, Int.reduceLE, Int.reduceLT, foldA, maxA, minA, Int.reduceBEq, Int.reduceBNe, Int.reduceGT, Int.reduceGE, Int.reduceEq, Int.reduceNe, Int.reduceToNat, AOp.stops, ↓want_eq, ↓exec_lenX]; with_reducible rfl))))
  refine AW_mid (fun e fr H' => e = .normal ∧ co2 p (dblN x n) x H3 16 fr H') ?_ ?_
  · refine AW_block (AW_up (co2 p (dblN x n) x H3) 16 ⟨Chg.refl _ _, hy3, stale _ _ rfl⟩ ?_)
    rintro i fr H4 hi ⟨c4, hy4, st, rfl⟩
    (repeat (first | with_reducible refine thenQ_n ?_ | with_reducible refine blockQ_n ?_ | refine AW_skip ?_ | refine AW_seq ?_ | refine AW_ops ?_ | refine AW_blockS ?_ | refine AW_blockR ?_ | refine AW_blockD ?_ | refine AW_blockC ?_ | refine AO_nil ?_ | refine AW_draw ?_ | refine AW_draw3 ?_ | refine AW_blockD3 ?_ | refine AHd_nil ?_ | ((first | with_reducible apply AO_pre | with_reducible apply AHd_pre); focus (simp only [Sm, wantedA, execA, stepA, List.getElem?_cons_zero, List.getElem?_cons_succ, if_true, if_false, binA, binInt, unA, eqA, Option.map, eq_self, reduceCtorEq, ite_true, ite_false, cellsAV, fitsAll, CK.fits, fillA, AV.cells, writeN, readN, sliceCells, appendA, lenA, i64, loA, hiA, Nat.reduceAdd, Nat.reduceMul, Nat.reduceDiv, Nat.reduceSub, Nat.reduceLeDiff, Nat.reduceLT, Int.reduceLE, Int.reduceLT, foldA, maxA, minA, Int.reduceBEq, Int.reduceBNe, Int.reduceGT, Int.reduceGE, Int.reduceEq, Int.reduceNe, Int.reduceToNat, AOp.stops, ↓want_eq, ↓exec_lenX]; with_reducible rfl))))
    refine AW_cond rfl ?_ ?_ <;> intro ht
    · have ht : (i : Int) < 16 := of_decide_eq_true ht
      have hi16 : i < 16 := by omega
      have ho4 := c4.hown (by omega : ¬ p = p + 2) ho3
      have hA := hW.addS x i
      have g1 := hA.get hi16
      rw [addS_self hW hi16] at g1
      have g2 := hx.get hi16
      (repeat (first | with_reducible refine thenQ_n ?_ | with_reducible refine blockQ_n ?_ | refine AW_skip ?_ | refine AW_seq ?_ | refine AW_ops ?_ | refine AW_blockS ?_ | refine AW_blockR ?_ | refine AW_blockD ?_ | refine AW_blockC ?_ | refine AO_nil ?_ | refine AW_draw ?_ | refine AW_draw3 ?_ | refine AW_blockD3 ?_ | refine AHd_nil ?_ | ((first | with_reducible apply AO_pre | with_reducible apply AHd_pre); focus (simp only [Sm, wantedA, execA, stepA, List.getElem?_cons_zero, List.getElem?_cons_succ, if_true, if_false, binA, binInt, unA, eqA, Option.map, eq_self, reduceCtorEq, ite_true, ite_false, cellsAV, fitsAll, CK.fits, fillA, AV.cells, writeN, readN, sliceCells, appendA, lenA, i64, loA, hiA, Nat.reduceAdd, Nat.reduceMul, Nat.reduceDiv, Nat.reduceSub, Nat.reduceLeDiff, Nat.reduceLT, Int.reduceLE, Int.reduceLT, foldA, maxA, minA, Int.reduceBEq, Int.reduceBNe, Int.reduceGT, Int.reduceGE, Int.reduceEq, Int.reduceNe, Int.reduceToNat, AOp.stops, ↓want_eq, ↓exec_lenX, hcells_own hy4, hcells_own ho4, ht, g1, g2, Nat.zero_add, u32_add, ↓exec_storeX, storeX_own hy4 (by omega : p ≤ p + 2) (by rw [hA.len]; exact hi16 : i < _), W32_setL, i64_succ (show i < 9223372036854775807 by omega)]; with_reducible rfl))))
      refine ⟨hi16, c4.trans (Chg.set (S := (· = p + 2)) rfl) fun _ _ h => h, hown_set (hown_lt hy4), stale _ _ rfl⟩
    · obtain rfl : i = 16 := by have : ¬ (i : Int) < 16 := of_decide_eq_false ht; omega
      exact AW_exit ⟨rfl, c4, hy4, stale _ _ rfl⟩
  rintro e fr H4 ⟨rfl, c4, hy4, st, rfl⟩
  have hz4' := c4.hown (by omega : ¬ p + 1 = p + 2) hz3
  have hA := hW.addS x 16
  have hr5 : readN H4 (p + 2) 0 16 = some (W32 (addS (dblN x n) x 16)) := by
    have := readN_all (hcells_own hy4)
    rw [hA.len] at this; exact this
  (repeat (first | with_reducible refine thenQ_n ?_ | with_reducible refine blockQ_n ?_ | refine AW_skip ?_ | refine AW_seq ?_ | refine AW_ops ?_ | refine AW_blockS ?_ | refine AW_blockR ?_ | refine AW_blockD ?_ | refine AW_blockC ?_ | refine AO_nil ?_ | refine AW_draw ?_ | refine AW_draw3 ?_ | refine AW_blockD3 ?_ | refine AHd_nil ?_ | ((first | with_reducible apply AO_pre | with_reducible apply AHd_pre); focus (simp only [Sm, wantedA, execA, stepA, List.getElem?_cons_zero, List.getElem?_cons_succ, if_true, if_false, binA, binInt, unA, eqA, Option.map, eq_self, reduceCtorEq, ite_true, ite_false, cellsAV, fitsAll, CK.fits, fillA, AV.cells, writeN, readN, sliceCells, appendA, lenA, i64, loA, hiA, Nat.reduceAdd, Nat.reduceMul, Nat.reduceDiv, Nat.reduceSub, Nat.reduceLeDiff, Nat.reduceLT, Int.reduceLE, Int.reduceLT, foldA, maxA, minA, Int.reduceBEq, Int.reduceBNe, Int.reduceGT, Int.reduceGE, Int.reduceEq, Int.reduceNe, Int.reduceToNat, AOp.stops, ↓want_eq, ↓exec_lenX, ↓hr5, ↓exec_storeN, storeN_all hz4' (by omega : p ≤ p + 1) rep_len hA.len]; with_reducible rfl))))
  have hr6 : readN (H4.set (p + 1) (.own (W32 (addS (dblN x n) x 16)))) (p + 1) 0 16 = some (W32 (addS (dblN x n) x 16)) := by
    have := readN_all (hcells_set (cs := W32 (addS (dblN x n) x 16)) (hown_lt hz4'))
    rw [hA.len] at this; exact this
  exact AW_ret ⟨_, by simp only [outA, resA, ressA, AV.tv, Option.map_some, List.take_succ_cons, List.take_zero, List.drop_succ_cons, List.drop_zero, bne_self_eq_false, List.map_cons, List.map_nil, Bool.true_beq, Bool.false_beq, run_nil, run_cons, run_gate, cont_some, gate_true, gate_false, hrun_nil, hrun_cons, hrun_gate, hcont_some, hgate_true, hgate_false, put_some, put_none, ev_t, ev_k, wantedA, execA, stepA, List.set_cons_succ, List.set_cons_zero, List.getD_cons_succ, List.getD_cons_zero, List.getElem?_cons_zero, List.getElem?_cons_succ, if_true, if_false, binA, binInt, unA, eqA, Option.map, eq_self, true_or, or_true, true_and, and_true, and_self, beq_self_eq_true, Bool.not_true, Bool.not_false, reduceCtorEq, Bool.false_eq_true, ite_true, ite_false, cellsAV, fitsAll, CK.fits, decide_true, Bool.and_true, Bool.true_and, fillA, AV.cells, writeN, readN, sliceCells, appendA, lenA, i64, loA, hiA, hcells_last, hown_last, List.take_zero, List.drop_zero, List.nil_append, List.cons_append, List.append_nil, List.take_nil, List.drop_nil, List.length_cons, List.length_nil, List.length_append, Nat.zero_add, Nat.add_zero, Nat.reduceAdd, Nat.reduceMul, Nat.reduceDiv, Nat.reduceSub, Nat.mul_one, Nat.one_mul, Nat.div_one, Nat.le_refl, Nat.reduceLeDiff, Nat.reduceLT, Int.toNat_natCast, Int.toNat_zero, Nat.zero_le, Int.natCast_nonneg, Int.reduceLE, Int.reduceLT, Option.some.injEq, foldA, maxA, minA, Cell.int.injEq, AV.c.injEq, pre_nil, pre_cons, pre_gate, pre1_cons, pre1_gate, qstop_true, qstop_false, qstopg_false, qgate_true, qgate_false, pcont_some, pstop_true, pstop_false, pstopg_false, pgate_true, pgate_false, hpre_nil, hpre_cons, hpre_gate, hpre1_cons, hpre1_gate, hqstop_true, hqstop_false, hqstopg_false, hqgate_true, hqgate_false, hpcont_some, hpstop_true, hpstop_false, hpstopg_false, hpgate_true, hpgate_false, Int.reduceBEq, Int.reduceBNe, Int.reduceGT, Int.reduceGE, Int.reduceEq, Int.reduceNe, decide_false, nat_0, nat_1, nat_2, nat_3, nat_4, nat_8, nat_16, nat_64, nat_128, Int.reduceToNat, AOp.stops, pre1_nil, hpre1_nil, ↓want_eq, wantV_bool, wantV_undef, ↓exec_lenX, lenX_snil, lenX_slc, ↓hr6] <;> with_reducible rfl, by rw [Int.toNat_natCast]; exact .inr ⟨by omega, by omega, by rfl⟩⟩
end PK

/- The document's half rounds and core; eight rounds: walked. -/
namespace PK
open Go PAbs
set_option linter.unusedSimpArgs false
set_option linter.unusedVariables false
set_option maxRecDepth 100000
set_option maxHeartbeats 2000000

def hat (rows : Bool) (i k : Nat) : Nat := if rows then 4 * i + (i + k) % 4 else 4 * ((i + k) % 4) + i
def I64 (l : List Nat) : List Cell := l.map fun (n : Nat) => Cell.int .i64 (n : Int)
theorem I64_set {l : List Nat} {i n : Nat} : (I64 l).set i (.int .i64 (n : Int)) = I64 (l.set i n) := by simp [I64, List.map_set]
theorem I64_length {l : List Nat} : (I64 l).length = l.length := by simp [I64]
theorem I64_get {l : List Nat} {i : Nat} (h : i < l.length) : (I64 l)[i]? = some (.int .i64 ((l.getD i 0 : Nat) : Int)) := by simp [I64, h]

end PK

/- Package shuffle as code of the abstract machine. -/
namespace PK
open Go PAbs

noncomputable def c_shuffle_Mix : AFn := AFn.mk 68 [.tmp 4, .tmp 5]
  (.seq (.region
      [⟨some 4, .mv (.k (.c (.snil))), none⟩,
        ⟨some 5, .mv (.k (.c (.int .i64 0))), none⟩])
  (.seq (.seq (.region
        [⟨some 13, .mv (.t 0), none⟩,
          ⟨some 14, .mv (.t 1), none⟩,
          ⟨some 15, .call F_shuffle_Check [.t 13, .t 14], none⟩,
          ⟨some 6, .mv (.t 15), none⟩])
    (.seq (.region
        [⟨some 16, .mv (.t 6), none⟩,
          ⟨some 17, .bin .neq (.t 16) (.k (.c (.int .i64 0))), none⟩])
    (.cond (.t 17)
      (.seq (.region
          [⟨some 18, .mv (.t 6), none⟩,
            ⟨some 4, .mv (.k (.c (.snil))), none⟩,
            ⟨some 5, .mv (.t 18), none⟩])
      (.ret))
      (.skip))))
  (.seq (.region
      [⟨some 20, .mv (.t 0), none⟩,
        ⟨some 21, .call F_shuffle_Places [.t 20], none⟩,
        ⟨some 19, .mv (.t 21), none⟩,
        ⟨some 22, .extract (.t 19) 0, none⟩,
        ⟨some 23, .extract (.t 19) 1, none⟩,
        ⟨some 7, .mv (.t 22), none⟩,
        ⟨some 8, .mv (.t 23), none⟩])
  (.seq (.region
      [⟨some 24, .mv (.t 1), none⟩,
        ⟨some 25, .len false (.t 24), none⟩,
        ⟨some 26, .makeSlice ([.int .u32 0]) 4 (.t 25) (.t 25), none⟩,
        ⟨some 9, .mv (.t 26), none⟩])
  (.seq (.region
      [⟨some 27, .mv (.t 1), none⟩,
        ⟨some 28, .mv (.t 1), none⟩,
        ⟨some 29, .len false (.t 28), none⟩,
        ⟨some 30, .bin .sub (.t 29) (.k (.c (.int .i64 16))), none⟩,
        ⟨some 31, .sliceS 1 (.t 27) (some (.t 30)) none, none⟩,
        ⟨some 32, .arrPtr 16 (.t 31), none⟩,
        ⟨some 33, .loadN 16 (.t 32), none⟩,
        ⟨some 10, .alloc (rep 16 (.int .u32 0)), none⟩,
        ⟨none, .store 16 (.t 10) (.t 33), none⟩])
  (.seq (.seq (.region
        [⟨some 34, .mv (.t 0), none⟩,
          ⟨some 35, .bin .mul (.k (.c (.int .i64 2))) (.t 34), none⟩,
          ⟨some 36, .mv (.k (.c (.int .i64 0))), none⟩])
    (.block 0
      (.loop
        (.seq (.region
            [⟨some 37, .bin .lss (.t 36) (.t 35), none⟩])
        (.seq (.cond (.t 37)
            (.skip)
            (.exit 0))
        (.seq (.block 1
            (.seq (.region
                [⟨some 38, .mv (.t 36), none⟩,
                  ⟨some 11, .mv (.t 38), none⟩])
            (.seq (.seq (.region
                  [⟨some 39, .mv (.k (.c (.int .i64 0))), none⟩])
              (.block 2
                (.loop
                  (.seq (.region
                      [⟨some 40, .bin .lss (.t 39) (.k (.c (.int .i64 16))), none⟩])
                  (.seq (.cond (.t 40)
                      (.skip)
                      (.exit 2))
                  (.seq (.block 3
                      (.seq (.region
                          [⟨some 41, .mv (.t 39), none⟩,
                            ⟨some 12, .mv (.t 41), none⟩])
                      (.draw
                        [⟨some 42, .mv (.t 12), none⟩,
                          ⟨some 43, .idxArr 16 1 (.t 10) (.t 42), none⟩,
                          ⟨some 44, .load1 (.t 43), none⟩,
                          ⟨some 45, .mv (.t 1), none⟩,
                          ⟨some 46, .mv (.t 11), none⟩,
                          ⟨some 47, .bin .mul (.k (.c (.int .i64 16))) (.t 46), none⟩,
                          ⟨some 48, .mv (.t 12), none⟩,
                          ⟨some 49, .bin .add (.t 47) (.t 48), none⟩,
                          ⟨some 50, .idxSlc 1 (.t 45) (.t 49), none⟩,
                          ⟨some 51, .load1 (.t 50), none⟩]
                        [⟨some 52, .bin .xor (.t 44) (.t 51), none⟩,
                          ⟨some 53, .idxArr 16 1 (.t 10) (.t 42), none⟩,
                          ⟨none, .store 1 (.t 53) (.t 52), none⟩])))
                  (.region
                    [⟨some 54, .bin .add (.t 39) (.k (.c (.int .i64 1))), none⟩,
                      ⟨some 39, .mv (.t 54), none⟩])))))))
            (.seq (.region
                [⟨some 55, .loadN 16 (.t 10), none⟩,
                  ⟨some 56, .call F_salsa_Eight [.t 55], none⟩,
                  ⟨none, .store 16 (.t 10) (.t 56), none⟩])
            (.draw
              [⟨some 57, .mv (.t 9), none⟩,
                ⟨some 58, .mv (.t 7), none⟩,
                ⟨some 59, .mv (.t 11), none⟩,
                ⟨some 60, .idxSlc 1 (.t 58) (.t 59), none⟩,
                ⟨some 61, .load1 (.t 60), none⟩,
                ⟨some 62, .bin .mul (.k (.c (.int .i64 16))) (.t 61), none⟩,
                ⟨some 63, .sliceS 1 (.t 57) (some (.t 62)) none, none⟩,
                ⟨some 64, .sliceArr 16 1 (.t 10) none none, none⟩]
              [⟨some 65, .copy 1 (.t 63) (.t 64), none⟩])))))
        (.region
          [⟨some 66, .bin .add (.t 36) (.k (.c (.int .i64 1))), none⟩,
            ⟨some 36, .mv (.t 66), none⟩])))))))
  (.seq (.region
      [⟨some 67, .mv (.t 9), none⟩,
        ⟨some 4, .mv (.t 67), none⟩,
        ⟨some 5, .mv (.k (.c (.int .i64 0))), none⟩])
  (.ret))))))))
theorem t_shuffle_Mix : A F_shuffle_Mix = some c_shuffle_Mix := by kernel_rfl

noncomputable def c_shuffle_Integer : AFn := AFn.mk 31 [.tmp 4, .tmp 5]
  (.seq (.region
      [⟨some 4, .mv (.k (.c (.int .u64 0))), none⟩,
        ⟨some 5, .mv (.k (.c (.int .i64 0))), none⟩])
  (.seq (.seq (.region
        [⟨some 8, .mv (.t 0), none⟩,
          ⟨some 9, .mv (.t 1), none⟩,
          ⟨some 10, .call F_shuffle_Check [.t 8, .t 9], none⟩,
          ⟨some 6, .mv (.t 10), none⟩])
    (.seq (.region
        [⟨some 11, .mv (.t 6), none⟩,
          ⟨some 12, .bin .neq (.t 11) (.k (.c (.int .i64 0))), none⟩])
    (.cond (.t 12)
      (.seq (.region
          [⟨some 13, .mv (.t 6), none⟩,
            ⟨some 4, .mv (.k (.c (.int .u64 0))), none⟩,
            ⟨some 5, .mv (.t 13), none⟩])
      (.ret))
      (.skip))))
  (.seq (.region
      [⟨some 14, .mv (.t 0), none⟩,
        ⟨some 15, .bin .mul (.k (.c (.int .i64 2))) (.t 14), none⟩,
        ⟨some 16, .bin .sub (.t 15) (.k (.c (.int .i64 1))), none⟩,
        ⟨some 17, .bin .mul (.k (.c (.int .i64 16))) (.t 16), none⟩,
        ⟨some 7, .mv (.t 17), none⟩])
  (.seq (.draw
      [⟨some 18, .mv (.t 1), none⟩,
        ⟨some 19, .mv (.t 7), none⟩,
        ⟨some 20, .idxSlc 1 (.t 18) (.t 19), none⟩,
        ⟨some 21, .load1 (.t 20), none⟩,
        ⟨some 22, .convInt .u64 (.t 21), none⟩,
        ⟨some 23, .mv (.t 1), none⟩,
        ⟨some 24, .mv (.t 7), none⟩,
        ⟨some 25, .bin .add (.t 24) (.k (.c (.int .i64 1))), none⟩,
        ⟨some 26, .idxSlc 1 (.t 23) (.t 25), none⟩,
        ⟨some 27, .load1 (.t 26), none⟩,
        ⟨some 28, .convInt .u64 (.t 27), none⟩,
        ⟨some 29, .bin .shl (.t 28) (.k (.c (.int .u64 32))), none⟩]
      [⟨some 30, .bin .or (.t 22) (.t 29), none⟩,
        ⟨some 4, .mv (.t 30), none⟩,
        ⟨some 5, .mv (.k (.c (.int .i64 0))), none⟩])
  (.ret)))))
theorem t_shuffle_Integer : A F_shuffle_Integer = some c_shuffle_Integer := by kernel_rfl

noncomputable def c_shuffle_Check : AFn := AFn.mk 18 [.tmp 4]
  (.seq (.region
      [⟨some 4, .mv (.k (.c (.int .i64 0))), none⟩])
  (.seq (.block 0
      (.seq (.region
          [⟨some 6, .mv (.t 0), none⟩,
            ⟨some 7, .bin .lss (.t 6) (.k (.c (.int .i64 1))), none⟩,
            ⟨some 8, .mv (.t 7), none⟩,
            ⟨some 9, .mv (.t 0), some (8, false)⟩,
            ⟨some 10, .bin .gtr (.t 9) (.k (.c (.int .i64 512))), some (8, false)⟩,
            ⟨some 11, .pick (.t 8) (.k (.c (.bool true))) (.t 10), none⟩,
            ⟨some 5, .mv (.t 11), none⟩])
      (.cond (.t 5)
        (.seq (.region
            [⟨some 4, .mv (.k (.c (.int .i64 2))), none⟩])
        (.ret))
        (.seq (.region
            [⟨some 13, .mv (.t 1), none⟩,
              ⟨some 14, .len false (.t 13), none⟩,
              ⟨some 15, .mv (.t 0), none⟩,
              ⟨some 16, .bin .mul (.k (.c (.int .i64 32))) (.t 15), none⟩,
              ⟨some 17, .bin .neq (.t 14) (.t 16), none⟩,
              ⟨some 12, .mv (.t 17), none⟩])
        (.cond (.t 12)
          (.seq (.region
              [⟨some 4, .mv (.k (.c (.int .i64 9))), none⟩])
          (.ret))
          (.skip))))))
  (.seq (.region
      [⟨some 4, .mv (.k (.c (.int .i64 0))), none⟩])
  (.ret))))
theorem t_shuffle_Check : A F_shuffle_Check = some c_shuffle_Check := by kernel_rfl

noncomputable def c_shuffle_Places : AFn := AFn.mk 37 [.tmp 2, .tmp 3]
  (.seq (.region
      [⟨some 2, .mv (.k (.c (.snil))), none⟩,
        ⟨some 3, .mv (.k (.c (.int .i64 0))), none⟩])
  (.seq (.seq (.region
        [⟨some 6, .mv (.t 0), none⟩,
          ⟨some 7, .bin .lss (.t 6) (.k (.c (.int .i64 1))), none⟩,
          ⟨some 8, .mv (.t 7), none⟩,
          ⟨some 9, .mv (.t 0), some (8, false)⟩,
          ⟨some 10, .bin .gtr (.t 9) (.k (.c (.int .i64 512))), some (8, false)⟩,
          ⟨some 11, .pick (.t 8) (.k (.c (.bool true))) (.t 10), none⟩])
    (.cond (.t 11)
      (.seq (.region
          [⟨some 2, .mv (.k (.c (.snil))), none⟩,
            ⟨some 3, .mv (.k (.c (.int .i64 2))), none⟩])
      (.ret))
      (.skip)))
  (.seq (.region
      [⟨some 12, .mv (.t 0), none⟩,
        ⟨some 13, .bin .mul (.k (.c (.int .i64 2))) (.t 12), none⟩,
        ⟨some 14, .makeSlice ([.int .i64 0]) 8 (.t 13) (.t 13), none⟩,
        ⟨some 4, .mv (.t 14), none⟩])
  (.seq (.seq (.region
        [⟨some 15, .mv (.t 4), none⟩,
          ⟨some 16, .len false (.t 15), none⟩,
          ⟨some 17, .mv (.k (.c (.int .i64 0))), none⟩])
    (.block 0
      (.loop
        (.seq (.region
            [⟨some 18, .bin .lss (.t 17) (.t 16), none⟩])
        (.seq (.cond (.t 18)
            (.skip)
            (.exit 0))
        (.seq (.block 1
            (.seq (.region
                [⟨some 19, .mv (.t 17), none⟩,
                  ⟨some 5, .mv (.t 19), none⟩])
            (.seq (.region
                [⟨some 20, .mv (.t 4), none⟩,
                  ⟨some 21, .mv (.t 5), none⟩,
                  ⟨some 22, .mv (.t 5), none⟩,
                  ⟨some 23, .bin .quo (.t 22) (.k (.c (.int .i64 2))), none⟩,
                  ⟨some 24, .idxSlc 1 (.t 20) (.t 21), none⟩,
                  ⟨none, .store 1 (.t 24) (.t 23), none⟩])
            (.seq (.region
                [⟨some 25, .mv (.t 5), none⟩,
                  ⟨some 26, .bin .rem (.t 25) (.k (.c (.int .i64 2))), none⟩,
                  ⟨some 27, .bin .eql (.t 26) (.k (.c (.int .i64 1))), none⟩])
            (.cond (.t 27)
              (.region
                [⟨some 28, .mv (.t 4), none⟩,
                  ⟨some 29, .mv (.t 5), none⟩,
                  ⟨some 30, .idxSlc 1 (.t 28) (.t 29), none⟩,
                  ⟨some 31, .load1 (.t 30), none⟩,
                  ⟨some 32, .mv (.t 0), none⟩,
                  ⟨some 33, .bin .add (.t 31) (.t 32), none⟩,
                  ⟨some 34, .idxSlc 1 (.t 28) (.t 29), none⟩,
                  ⟨none, .store 1 (.t 34) (.t 33), none⟩])
              (.skip))))))
        (.region
          [⟨some 35, .bin .add (.t 17) (.k (.c (.int .i64 1))), none⟩,
            ⟨some 17, .mv (.t 35), none⟩])))))))
  (.seq (.region
      [⟨some 36, .mv (.t 4), none⟩,
        ⟨some 2, .mv (.t 36), none⟩,
        ⟨some 3, .mv (.k (.c (.int .i64 0))), none⟩])
  (.ret))))))
theorem t_shuffle_Places : A F_shuffle_Places = some c_shuffle_Places := by kernel_rfl
end PK
