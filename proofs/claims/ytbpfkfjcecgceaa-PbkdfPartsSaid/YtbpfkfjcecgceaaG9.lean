/- Texts of this claim, put together: L01v L01k L01l KSha KPestleref05 L05a L05b. -/
import Derived.Test.YtbpfkfjcecgceaaG8
/- Words written as bytes by package words, walked. -/
namespace PK
open Go PAbs
set_option linter.unusedSimpArgs false
set_option linter.unusedVariables false
set_option maxRecDepth 100000

def flat (g : Nat → List Nat) (xs : List Nat) : Nat → List Nat
  | 0 => []
  | i + 1 => flat g xs i ++ g (xs.getD i 0)
theorem flat_length {g : Nat → List Nat} {k : Nat} (h : ∀ w, (g w).length = k) (xs : List Nat) : ∀ i, (flat g xs i).length = i * k
  | 0 => by simp [flat]
  | i + 1 => by simp [flat, flat_length h xs i, h, Nat.add_mul]
def beB (k w : Nat) : List Nat := (leB k w).reverse
theorem beB_length (k w : Nat) : (beB k w).length = k := by simp [beB, leB_length]

theorem shr_lit {k : IntKind} {w : Nat} {p : Int} {q : Nat} (hp : p = (q : Int)) (hq : q ≤ k.bits) : shrA k (w : Int) p = ((w / 2 ^ q : Nat) : Int) := by subst hp; exact shr_of hq
theorem byte_of (w : Nat) : IntKind.u8.wrap (w : Int) = ((w % 256 : Nat) : Int) := by rw [wrap_u8]; omega
theorem leB4 (w : Nat) : W8 (leB 4 w) = [.int .u8 ((w % 256 : Nat) : Int), .int .u8 ((w / 256 % 256 : Nat) : Int), .int .u8 ((w / 65536 % 256 : Nat) : Int), .int .u8 ((w / 16777216 % 256 : Nat) : Int)] := by
  simp only [leB, show List.range 4 = [0, 1, 2, 3] from rfl, List.map_cons, List.map_nil, W8, Nat.pow_zero, Nat.div_one, show 256 ^ 1 = 256 from rfl, show 256 ^ 2 = 65536 from rfl, show 256 ^ 3 = 16777216 from rfl]
theorem beB4 (w : Nat) : W8 (beB 4 w) = [.int .u8 ((w / 16777216 % 256 : Nat) : Int), .int .u8 ((w / 65536 % 256 : Nat) : Int), .int .u8 ((w / 256 % 256 : Nat) : Int), .int .u8 ((w % 256 : Nat) : Int)] := by
  have h := leB4 w
  simp only [W8] at h
  simp only [beB, W8, List.map_reverse, h]; rfl
theorem rep4 : rep 4 (Cell.int .u8 0) = [.int .u8 0, .int .u8 0, .int .u8 0, .int .u8 0] := rfl


def wrInv (g : Nat → List Nat) (y : Cell) (xs : List Nat) (H0 : AHeap) (m : Nat) (fr : AFrame) (H : AHeap) : Prop := ∃ i : Nat, i ≤ xs.length ∧ m = xs.length - i ∧ Kept H0.length H0 H ∧ ∃ x, Own H0.length H x 1 (W8 (flat g xs i)) ∧ (∃ s : Nat → AV, fr = [.c y, s 1, .c .snil, .c x, s 4, s 5, s 6, s 7, s 8, s 9, .c y, .c (.int .i64 (xs.length : Int)), .c (.int .i64 (i : Int)), s 13, s 14, s 15, s 16, s 17, s 18, s 19, s 20, s 21, s 22, s 23, s 24, s 25, s 26, s 27, s 28, s 29, s 30, s 31])

theorem AC_Big32 (H : AHeap) (y : Cell) (xs : List Nat) (hy : Rd H y 1 (W32 xs)) (hl : xs.length ≤ 1000000) : AC A H.length F_words_Big32 [.c y] H (fun v H' => ∃ x, v = .c x ∧ Own H.length H' x 1 (W8 (flat (beB 4) xs xs.length))) := by
  have e1 : IntKind.i64.wrap (4 * (xs.length : Int)) = ((4 * xs.length : Nat) : Int) := by rw [wrap_i64_of (by omega) (by omega)]; omega
  have e2 : ((4 * xs.length : Nat) : Int) * (1 : Nat) ≤ 140737488355328 := by omega
  have yl : (W32 xs).length = xs.length := W32_length
  have fl4 := flat_length (beB_length 4) xs
  refine AC_enter t_words_Big32 ?_
  simp only [c_words_Big32, enterA, List.replicate, List.length_cons, List.length_nil, Nat.reduceAdd, Nat.reduceSub, List.cons_append, List.nil_append]
  refine AW_seq (AW_run (by simp only [List.take_succ_cons, List.take_zero, List.drop_succ_cons, List.drop_zero, bne_self_eq_false, List.map_cons, List.map_nil, Bool.true_beq, Bool.false_beq, run_nil, run_cons, run_gate, cont_some, gate_true, gate_false, hrun_nil, hrun_cons, hrun_gate, hcont_some, hgate_true, hgate_false, put_some, put_none, ev_t, ev_k, wantedA, execA, stepA, List.set_cons_succ, List.set_cons_zero, List.getD_cons_succ, List.getD_cons_zero, List.getElem?_cons_zero, List.getElem?_cons_succ, if_true, if_false, binA, binInt, unA, eqA, Option.map, eq_self, true_or, or_true, true_and, and_true, and_self, beq_self_eq_true, Bool.not_true, Bool.not_false, reduceCtorEq, Bool.false_eq_true, ite_true, ite_false, fitsAll, CK.fits, decide_true, Bool.and_true, Bool.true_and, fillA, AV.cells, writeN, readN, sliceCells, appendA, lenA, i64, loA, hiA, hcells_last, hown_last, List.take_zero, List.drop_zero, List.nil_append, List.cons_append, List.append_nil, List.take_nil, List.drop_nil, List.length_cons, List.length_nil, List.length_append, Nat.zero_add, Nat.add_zero, Nat.reduceAdd, Nat.reduceMul, Nat.reduceDiv, Nat.reduceSub, Nat.mul_one, Nat.one_mul, Nat.div_one, Nat.le_refl, Nat.reduceLeDiff, Nat.reduceLT, Int.toNat_natCast, Int.toNat_zero, Nat.zero_le, Int.natCast_nonneg, Int.reduceLE, Int.reduceLT, Option.some.injEq, foldA, maxA, minA, Cell.int.injEq, AV.c.injEq]; rfl) ?_)
  refine AW_seq (AW_ops (AO_take 1 (by simp only [List.take_succ_cons, List.take_zero, List.drop_succ_cons, List.drop_zero, bne_self_eq_false, List.map_cons, List.map_nil, Bool.true_beq, Bool.false_beq, run_nil, run_cons, run_gate, cont_some, gate_true, gate_false, hrun_nil, hrun_cons, hrun_gate, hcont_some, hgate_true, hgate_false, put_some, put_none, ev_t, ev_k, wantedA, execA, stepA, List.set_cons_succ, List.set_cons_zero, List.getD_cons_succ, List.getD_cons_zero, List.getElem?_cons_zero, List.getElem?_cons_succ, if_true, if_false, binA, binInt, unA, eqA, Option.map, eq_self, true_or, or_true, true_and, and_true, and_self, beq_self_eq_true, Bool.not_true, Bool.not_false, reduceCtorEq, Bool.false_eq_true, ite_true, ite_false, fitsAll, CK.fits, decide_true, Bool.and_true, Bool.true_and, fillA, AV.cells, writeN, readN, sliceCells, appendA, lenA, i64, loA, hiA, hcells_last, hown_last, List.take_zero, List.drop_zero, List.nil_append, List.cons_append, List.append_nil, List.take_nil, List.drop_nil, List.length_cons, List.length_nil, List.length_append, Nat.zero_add, Nat.add_zero, Nat.reduceAdd, Nat.reduceMul, Nat.reduceDiv, Nat.reduceSub, Nat.mul_one, Nat.one_mul, Nat.div_one, Nat.le_refl, Nat.reduceLeDiff, Nat.reduceLT, Int.toNat_natCast, Int.toNat_zero, Nat.zero_le, Int.natCast_nonneg, Int.reduceLE, Int.reduceLT, Option.some.injEq, foldA, maxA, minA, Cell.int.injEq, AV.c.injEq]; rfl) (AO_step rfl (exec_lenN hy yl rfl) ?_)))
  refine AO_take 3 (by simp only [List.take_succ_cons, List.take_zero, List.drop_succ_cons, List.drop_zero, bne_self_eq_false, List.map_cons, List.map_nil, Bool.true_beq, Bool.false_beq, run_nil, run_cons, run_gate, cont_some, gate_true, gate_false, hrun_nil, hrun_cons, hrun_gate, hcont_some, hgate_true, hgate_false, put_some, put_none, ev_t, ev_k, wantedA, execA, stepA, List.set_cons_succ, List.set_cons_zero, List.getD_cons_succ, List.getD_cons_zero, List.getElem?_cons_zero, List.getElem?_cons_succ, if_true, if_false, binA, binInt, unA, eqA, Option.map, eq_self, true_or, or_true, true_and, and_true, and_self, beq_self_eq_true, Bool.not_true, Bool.not_false, reduceCtorEq, Bool.false_eq_true, ite_true, ite_false, fitsAll, CK.fits, decide_true, Bool.and_true, Bool.true_and, fillA, AV.cells, writeN, readN, sliceCells, appendA, lenA, i64, loA, hiA, hcells_last, hown_last, List.take_zero, List.drop_zero, List.nil_append, List.cons_append, List.append_nil, List.take_nil, List.drop_nil, List.length_cons, List.length_nil, List.length_append, Nat.zero_add, Nat.add_zero, Nat.reduceAdd, Nat.reduceMul, Nat.reduceDiv, Nat.reduceSub, Nat.mul_one, Nat.one_mul, Nat.div_one, Nat.le_refl, Nat.reduceLeDiff, Nat.reduceLT, Int.toNat_natCast, Int.toNat_zero, Nat.zero_le, Int.natCast_nonneg, Int.reduceLE, Int.reduceLT, Option.some.injEq, foldA, maxA, minA, Cell.int.injEq, AV.c.injEq, e1, e2, List.replicate_zero, List.flatten_nil, Int.le_refl]; rfl) (AO_nil ?_)
  refine AW_seq (AW_seq (AW_ops (AO_take 1 (by simp only [List.take_succ_cons, List.take_zero, List.drop_succ_cons, List.drop_zero, bne_self_eq_false, List.map_cons, List.map_nil, Bool.true_beq, Bool.false_beq, run_nil, run_cons, run_gate, cont_some, gate_true, gate_false, hrun_nil, hrun_cons, hrun_gate, hcont_some, hgate_true, hgate_false, put_some, put_none, ev_t, ev_k, wantedA, execA, stepA, List.set_cons_succ, List.set_cons_zero, List.getD_cons_succ, List.getD_cons_zero, List.getElem?_cons_zero, List.getElem?_cons_succ, if_true, if_false, binA, binInt, unA, eqA, Option.map, eq_self, true_or, or_true, true_and, and_true, and_self, beq_self_eq_true, Bool.not_true, Bool.not_false, reduceCtorEq, Bool.false_eq_true, ite_true, ite_false, fitsAll, CK.fits, decide_true, Bool.and_true, Bool.true_and, fillA, AV.cells, writeN, readN, sliceCells, appendA, lenA, i64, loA, hiA, hcells_last, hown_last, List.take_zero, List.drop_zero, List.nil_append, List.cons_append, List.append_nil, List.take_nil, List.drop_nil, List.length_cons, List.length_nil, List.length_append, Nat.zero_add, Nat.add_zero, Nat.reduceAdd, Nat.reduceMul, Nat.reduceDiv, Nat.reduceSub, Nat.mul_one, Nat.one_mul, Nat.div_one, Nat.le_refl, Nat.reduceLeDiff, Nat.reduceLT, Int.toNat_natCast, Int.toNat_zero, Nat.zero_le, Int.natCast_nonneg, Int.reduceLE, Int.reduceLT, Option.some.injEq, foldA, maxA, minA, Cell.int.injEq, AV.c.injEq]; rfl) (AO_step rfl (exec_lenN (hy.kept (Kept.push _ _ _)) yl rfl) ?_))))
  refine AO_take 1 (by simp only [List.take_succ_cons, List.take_zero, List.drop_succ_cons, List.drop_zero, bne_self_eq_false, List.map_cons, List.map_nil, Bool.true_beq, Bool.false_beq, run_nil, run_cons, run_gate, cont_some, gate_true, gate_false, hrun_nil, hrun_cons, hrun_gate, hcont_some, hgate_true, hgate_false, put_some, put_none, ev_t, ev_k, wantedA, execA, stepA, List.set_cons_succ, List.set_cons_zero, List.getD_cons_succ, List.getD_cons_zero, List.getElem?_cons_zero, List.getElem?_cons_succ, if_true, if_false, binA, binInt, unA, eqA, Option.map, eq_self, true_or, or_true, true_and, and_true, and_self, beq_self_eq_true, Bool.not_true, Bool.not_false, reduceCtorEq, Bool.false_eq_true, ite_true, ite_false, fitsAll, CK.fits, decide_true, Bool.and_true, Bool.true_and, fillA, AV.cells, writeN, readN, sliceCells, appendA, lenA, i64, loA, hiA, hcells_last, hown_last, List.take_zero, List.drop_zero, List.nil_append, List.cons_append, List.append_nil, List.take_nil, List.drop_nil, List.length_cons, List.length_nil, List.length_append, Nat.zero_add, Nat.add_zero, Nat.reduceAdd, Nat.reduceMul, Nat.reduceDiv, Nat.reduceSub, Nat.mul_one, Nat.one_mul, Nat.div_one, Nat.le_refl, Nat.reduceLeDiff, Nat.reduceLT, Int.toNat_natCast, Int.toNat_zero, Nat.zero_le, Int.natCast_nonneg, Int.reduceLE, Int.reduceLT, Option.some.injEq, foldA, maxA, minA, Cell.int.injEq, AV.c.injEq]; rfl) (AO_nil (AW_block ?_))
  refine AW_loopN (wrInv (beB 4) y xs H) xs.length ⟨0, by omega, by omega, Kept.push _ _ _, .slc H.length 0 0 1, Own.one (cs := []) (Nat.le_refl _), stale _ _ rfl⟩ ?_
  rintro m fr H1 ⟨i, hi, hm, hk, x, hx, s, rfl⟩
  refine AW_seq (AW_run (by simp only [List.take_succ_cons, List.take_zero, List.drop_succ_cons, List.drop_zero, bne_self_eq_false, List.map_cons, List.map_nil, Bool.true_beq, Bool.false_beq, run_nil, run_cons, run_gate, cont_some, gate_true, gate_false, hrun_nil, hrun_cons, hrun_gate, hcont_some, hgate_true, hgate_false, put_some, put_none, ev_t, ev_k, wantedA, execA, stepA, List.set_cons_succ, List.set_cons_zero, List.getD_cons_succ, List.getD_cons_zero, List.getElem?_cons_zero, List.getElem?_cons_succ, if_true, if_false, binA, binInt, unA, eqA, Option.map, eq_self, true_or, or_true, true_and, and_true, and_self, beq_self_eq_true, Bool.not_true, Bool.not_false, reduceCtorEq, Bool.false_eq_true, ite_true, ite_false, fitsAll, CK.fits, decide_true, Bool.and_true, Bool.true_and, fillA, AV.cells, writeN, readN, sliceCells, appendA, lenA, i64, loA, hiA, hcells_last, hown_last, List.take_zero, List.drop_zero, List.nil_append, List.cons_append, List.append_nil, List.take_nil, List.drop_nil, List.length_cons, List.length_nil, List.length_append, Nat.zero_add, Nat.add_zero, Nat.reduceAdd, Nat.reduceMul, Nat.reduceDiv, Nat.reduceSub, Nat.mul_one, Nat.one_mul, Nat.div_one, Nat.le_refl, Nat.reduceLeDiff, Nat.reduceLT, Int.toNat_natCast, Int.toNat_zero, Nat.zero_le, Int.natCast_nonneg, Int.reduceLE, Int.reduceLT, Option.some.injEq, foldA, maxA, minA, Cell.int.injEq, AV.c.injEq]; rfl) (AW_seq (AW_cond rfl ?_ ?_)))
  · intro ht
    have ht : (i : Int) < xs.length := of_decide_eq_true ht
    have ht2 : i < xs.length := by omega
    obtain ⟨u, o, full, rfl, hfull, hget⟩ := (hy.kept hk).get (i := i) (by rw [W32_length]; exact ht2)
    rw [W32_get ht2] at hget
    have hlt : (i : Int) < ((W32 xs).length : Nat) := by rw [W32_length]; omega
    have e3 := place_succ (i := i) (n := xs.length) (by omega) hi
    have ef : flat (beB 4) xs (i + 1) = flat (beB 4) xs i ++ beB 4 (xs.getD i 0) := rfl
    have fli := fl4 i
    refine AW_skip (AW_seq (AW_block (AW_seq (AW_run (by simp only [List.take_succ_cons, List.take_zero, List.drop_succ_cons, List.drop_zero, bne_self_eq_false, List.map_cons, List.map_nil, Bool.true_beq, Bool.false_beq, run_nil, run_cons, run_gate, cont_some, gate_true, gate_false, hrun_nil, hrun_cons, hrun_gate, hcont_some, hgate_true, hgate_false, put_some, put_none, ev_t, ev_k, wantedA, execA, stepA, List.set_cons_succ, List.set_cons_zero, List.getD_cons_succ, List.getD_cons_zero, List.getElem?_cons_zero, List.getElem?_cons_succ, if_true, if_false, binA, binInt, unA, eqA, Option.map, eq_self, true_or, or_true, true_and, and_true, and_self, beq_self_eq_true, Bool.not_true, Bool.not_false, reduceCtorEq, Bool.false_eq_true, ite_true, ite_false, fitsAll, CK.fits, decide_true, Bool.and_true, Bool.true_and, fillA, AV.cells, writeN, readN, sliceCells, appendA, lenA, i64, loA, hiA, hcells_last, hown_last, List.take_zero, List.drop_zero, List.nil_append, List.cons_append, List.append_nil, List.take_nil, List.drop_nil, List.length_cons, List.length_nil, List.length_append, Nat.zero_add, Nat.add_zero, Nat.reduceAdd, Nat.reduceMul, Nat.reduceDiv, Nat.reduceSub, Nat.mul_one, Nat.one_mul, Nat.div_one, Nat.le_refl, Nat.reduceLeDiff, Nat.reduceLT, Int.toNat_natCast, Int.toNat_zero, Nat.zero_le, Int.natCast_nonneg, Int.reduceLE, Int.reduceLT, Option.some.injEq, foldA, maxA, minA, Cell.int.injEq, AV.c.injEq, hfull, hlt, hget]; rfl) ?_))))
    generalize xs.getD i 0 = w at *
    have s1 : shrA .u32 (w : Int) 8 = ((w / 256 : Nat) : Int) := shr_lit (q := 8) rfl (by decide)
    have s2 : shrA .u32 (w : Int) 16 = ((w / 65536 : Nat) : Int) := shr_lit (q := 16) rfl (by decide)
    have s3 : shrA .u32 (w : Int) 24 = ((w / 16777216 : Nat) : Int) := shr_lit (q := 24) rfl (by decide)
    refine AW_ops (AO_take 13 (by simp only [List.take_succ_cons, List.take_zero, List.drop_succ_cons, List.drop_zero, bne_self_eq_false, List.map_cons, List.map_nil, Bool.true_beq, Bool.false_beq, run_nil, run_cons, run_gate, cont_some, gate_true, gate_false, hrun_nil, hrun_cons, hrun_gate, hcont_some, hgate_true, hgate_false, put_some, put_none, ev_t, ev_k, wantedA, execA, stepA, List.set_cons_succ, List.set_cons_zero, List.getD_cons_succ, List.getD_cons_zero, List.getElem?_cons_zero, List.getElem?_cons_succ, if_true, if_false, binA, binInt, unA, eqA, Option.map, eq_self, true_or, or_true, true_and, and_true, and_self, beq_self_eq_true, Bool.not_true, Bool.not_false, reduceCtorEq, Bool.false_eq_true, ite_true, ite_false, fitsAll, CK.fits, decide_true, Bool.and_true, Bool.true_and, fillA, AV.cells, writeN, readN, sliceCells, appendA, lenA, i64, loA, hiA, hcells_last, hown_last, List.take_zero, List.drop_zero, List.nil_append, List.cons_append, List.append_nil, List.take_nil, List.drop_nil, List.length_cons, List.length_nil, List.length_append, Nat.zero_add, Nat.add_zero, Nat.reduceAdd, Nat.reduceMul, Nat.reduceDiv, Nat.reduceSub, Nat.mul_one, Nat.one_mul, Nat.div_one, Nat.le_refl, Nat.reduceLeDiff, Nat.reduceLT, Int.toNat_natCast, Int.toNat_zero, Nat.zero_le, Int.natCast_nonneg, Int.reduceLE, Int.reduceLT, Option.some.injEq, foldA, maxA, minA, Cell.int.injEq, AV.c.injEq, s1, s2, s3, byte_of, rep4, List.drop_succ_cons, List.take_succ_cons]; rfl) ?_)
    refine AO_append (f := H.length) hx.app (cells_last rfl) rfl (by omega) (by simp) (Nat.le_refl _) (by have := hk.1; simp; omega) (by simp [W8_length, fli]; omega) rfl rfl ?_
    intro x' H2 hx' k2 _
    rw [← beB4, ← W8_append, ← ef] at hx'
    refine AO_take 1 (by simp only [List.take_succ_cons, List.take_zero, List.drop_succ_cons, List.drop_zero, bne_self_eq_false, List.map_cons, List.map_nil, Bool.true_beq, Bool.false_beq, run_nil, run_cons, run_gate, cont_some, gate_true, gate_false, hrun_nil, hrun_cons, hrun_gate, hcont_some, hgate_true, hgate_false, put_some, put_none, ev_t, ev_k, wantedA, execA, stepA, List.set_cons_succ, List.set_cons_zero, List.getD_cons_succ, List.getD_cons_zero, List.getElem?_cons_zero, List.getElem?_cons_succ, if_true, if_false, binA, binInt, unA, eqA, Option.map, eq_self, true_or, or_true, true_and, and_true, and_self, beq_self_eq_true, Bool.not_true, Bool.not_false, reduceCtorEq, Bool.false_eq_true, ite_true, ite_false, fitsAll, CK.fits, decide_true, Bool.and_true, Bool.true_and, fillA, AV.cells, writeN, readN, sliceCells, appendA, lenA, i64, loA, hiA, hcells_last, hown_last, List.take_zero, List.drop_zero, List.nil_append, List.cons_append, List.append_nil, List.take_nil, List.drop_nil, List.length_cons, List.length_nil, List.length_append, Nat.zero_add, Nat.add_zero, Nat.reduceAdd, Nat.reduceMul, Nat.reduceDiv, Nat.reduceSub, Nat.mul_one, Nat.one_mul, Nat.div_one, Nat.le_refl, Nat.reduceLeDiff, Nat.reduceLT, Int.toNat_natCast, Int.toNat_zero, Nat.zero_le, Int.natCast_nonneg, Int.reduceLE, Int.reduceLT, Option.some.injEq, foldA, maxA, minA, Cell.int.injEq, AV.c.injEq]; rfl) (AO_nil ?_)
    exact AW_run (by simp only [List.take_succ_cons, List.take_zero, List.drop_succ_cons, List.drop_zero, bne_self_eq_false, List.map_cons, List.map_nil, Bool.true_beq, Bool.false_beq, run_nil, run_cons, run_gate, cont_some, gate_true, gate_false, hrun_nil, hrun_cons, hrun_gate, hcont_some, hgate_true, hgate_false, put_some, put_none, ev_t, ev_k, wantedA, execA, stepA, List.set_cons_succ, List.set_cons_zero, List.getD_cons_succ, List.getD_cons_zero, List.getElem?_cons_zero, List.getElem?_cons_succ, if_true, if_false, binA, binInt, unA, eqA, Option.map, eq_self, true_or, or_true, true_and, and_true, and_self, beq_self_eq_true, Bool.not_true, Bool.not_false, reduceCtorEq, Bool.false_eq_true, ite_true, ite_false, fitsAll, CK.fits, decide_true, Bool.and_true, Bool.true_and, fillA, AV.cells, writeN, readN, sliceCells, appendA, lenA, i64, loA, hiA, hcells_last, hown_last, List.take_zero, List.drop_zero, List.nil_append, List.cons_append, List.append_nil, List.take_nil, List.drop_nil, List.length_cons, List.length_nil, List.length_append, Nat.zero_add, Nat.add_zero, Nat.reduceAdd, Nat.reduceMul, Nat.reduceDiv, Nat.reduceSub, Nat.mul_one, Nat.one_mul, Nat.div_one, Nat.le_refl, Nat.reduceLeDiff, Nat.reduceLT, Int.toNat_natCast, Int.toNat_zero, Nat.zero_le, Int.natCast_nonneg, Int.reduceLE, Int.reduceLT, Option.some.injEq, foldA, maxA, minA, Cell.int.injEq, AV.c.injEq, e3]; rfl) ⟨xs.length - (i + 1), by omega, i + 1, by omega, rfl, hk.trans ((Kept.push _ _ _).trans k2), x', hx', stale _ _ (by rw [W32_length] <;> rfl)⟩
  · intro ht
    have ht : ¬ (i : Int) < xs.length := of_decide_eq_false ht
    obtain rfl : i = xs.length := by omega
    exact AW_exit (AW_seq (AW_run (by simp only [List.take_succ_cons, List.take_zero, List.drop_succ_cons, List.drop_zero, bne_self_eq_false, List.map_cons, List.map_nil, Bool.true_beq, Bool.false_beq, run_nil, run_cons, run_gate, cont_some, gate_true, gate_false, hrun_nil, hrun_cons, hrun_gate, hcont_some, hgate_true, hgate_false, put_some, put_none, ev_t, ev_k, wantedA, execA, stepA, List.set_cons_succ, List.set_cons_zero, List.getD_cons_succ, List.getD_cons_zero, List.getElem?_cons_zero, List.getElem?_cons_succ, if_true, if_false, binA, binInt, unA, eqA, Option.map, eq_self, true_or, or_true, true_and, and_true, and_self, beq_self_eq_true, Bool.not_true, Bool.not_false, reduceCtorEq, Bool.false_eq_true, ite_true, ite_false, fitsAll, CK.fits, decide_true, Bool.and_true, Bool.true_and, fillA, AV.cells, writeN, readN, sliceCells, appendA, lenA, i64, loA, hiA, hcells_last, hown_last, List.take_zero, List.drop_zero, List.nil_append, List.cons_append, List.append_nil, List.take_nil, List.drop_nil, List.length_cons, List.length_nil, List.length_append, Nat.zero_add, Nat.add_zero, Nat.reduceAdd, Nat.reduceMul, Nat.reduceDiv, Nat.reduceSub, Nat.mul_one, Nat.one_mul, Nat.div_one, Nat.le_refl, Nat.reduceLeDiff, Nat.reduceLT, Int.toNat_natCast, Int.toNat_zero, Nat.zero_le, Int.natCast_nonneg, Int.reduceLE, Int.reduceLT, Option.some.injEq, foldA, maxA, minA, Cell.int.injEq, AV.c.injEq]; rfl) (AW_ret ⟨_, rfl, x, rfl, hx⟩)))

def W64w (xs : List Nat) : List Cell := xs.map fun (n : Nat) => Cell.int .u64 (n : Int)
theorem W64w_length {xs : List Nat} : (W64w xs).length = xs.length := by simp [W64w]
theorem W64w_get {xs : List Nat} {i : Nat} (h : i < xs.length) : (W64w xs)[i]? = some (.int .u64 ((xs.getD i 0 : Nat) : Int)) := by simp [W64w, h]




def wr64Inv (g : Nat → List Nat) (y : Cell) (xs : List Nat) (H0 : AHeap) (m : Nat) (fr : AFrame) (H : AHeap) : Prop := ∃ i : Nat, i ≤ xs.length ∧ m = xs.length - i ∧ Kept H0.length H0 H ∧ ∃ x, Own H0.length H x 1 (W8 (flat g xs i)) ∧ (∃ s : Nat → AV, fr = [.c y, s 1, .c .snil, .c x, s 4, s 5, s 6, s 7, s 8, s 9, s 10, .c y, .c (.int .i64 (xs.length : Int)), .c (.int .i64 (i : Int)), s 14, s 15, s 16, s 17, s 18, s 19, s 20, s 21, s 22, s 23, s 24, s 25, s 26, s 27, s 28, s 29, s 30])
def be64Inv (y : Cell) (xs : List Nat) (i w : Nat) (H0 : AHeap) (k : Nat) (fr : AFrame) (H : AHeap) : Prop := k ≤ 8 ∧ Kept H0.length H0 H ∧ ∃ x, Own H0.length H x 1 (W8 (flat (beB 8) xs i ++ ((leB 8 w).drop k).reverse)) ∧ (∃ s : Nat → AV, fr = [.c y, s 1, .c .snil, .c x, s 4, .c (.int .u64 (w : Int)), .c (.int .i64 ((k : Int) - 1)), s 7, s 8, s 9, s 10, .c y, .c (.int .i64 (xs.length : Int)), .c (.int .i64 (i : Int)), s 14, s 15, s 16, s 17, s 18, s 19, s 20, s 21, s 22, s 23, s 24, s 25, s 26, s 27, s 28, s 29, s 30])
theorem pow8 (k : Nat) : 2 ^ (8 * k) = 256 ^ k := by rw [Nat.pow_mul]

theorem AC_Big64 (H : AHeap) (y : Cell) (xs : List Nat) (hy : Rd H y 1 (W64w xs)) (hl : xs.length ≤ 1000000) : AC A H.length F_words_Big64 [.c y] H (fun v H' => ∃ x, v = .c x ∧ Own H.length H' x 1 (W8 (flat (beB 8) xs xs.length))) := by
  have e1 : IntKind.i64.wrap (8 * (xs.length : Int)) = ((8 * xs.length : Nat) : Int) := by rw [wrap_i64_of (by omega) (by omega)]; omega
  have e2 : ((8 * xs.length : Nat) : Int) * (1 : Nat) ≤ 140737488355328 := by omega
  have yl : (W64w xs).length = xs.length := W64w_length
  have fl4 := flat_length (beB_length 8) xs
  refine AC_enter t_words_Big64 ?_
  simp only [c_words_Big64, enterA, List.replicate, List.length_cons, List.length_nil, Nat.reduceAdd, Nat.reduceSub, List.cons_append, List.nil_append]
  refine AW_seq (AW_run (by simp only [List.take_succ_cons, List.take_zero, List.drop_succ_cons, List.drop_zero, bne_self_eq_false, List.map_cons, List.map_nil, Bool.true_beq, Bool.false_beq, run_nil, run_cons, run_gate, cont_some, gate_true, gate_false, hrun_nil, hrun_cons, hrun_gate, hcont_some, hgate_true, hgate_false, put_some, put_none, ev_t, ev_k, wantedA, execA, stepA, List.set_cons_succ, List.set_cons_zero, List.getD_cons_succ, List.getD_cons_zero, List.getElem?_cons_zero, List.getElem?_cons_succ, if_true, if_false, binA, binInt, unA, eqA, Option.map, eq_self, true_or, or_true, true_and, and_true, and_self, beq_self_eq_true, Bool.not_true, Bool.not_false, reduceCtorEq, Bool.false_eq_true, ite_true, ite_false, fitsAll, CK.fits, decide_true, Bool.and_true, Bool.true_and, fillA, AV.cells, writeN, readN, sliceCells, appendA, lenA, i64, loA, hiA, hcells_last, hown_last, List.take_zero, List.drop_zero, List.nil_append, List.cons_append, List.append_nil, List.take_nil, List.drop_nil, List.length_cons, List.length_nil, List.length_append, Nat.zero_add, Nat.add_zero, Nat.reduceAdd, Nat.reduceMul, Nat.reduceDiv, Nat.reduceSub, Nat.mul_one, Nat.one_mul, Nat.div_one, Nat.le_refl, Nat.reduceLeDiff, Nat.reduceLT, Int.toNat_natCast, Int.toNat_zero, Nat.zero_le, Int.natCast_nonneg, Int.reduceLE, Int.reduceLT, Option.some.injEq, foldA, maxA, minA, Cell.int.injEq, AV.c.injEq]; rfl) ?_)
  refine AW_seq (AW_ops (AO_take 1 (by simp only [List.take_succ_cons, List.take_zero, List.drop_succ_cons, List.drop_zero, bne_self_eq_false, List.map_cons, List.map_nil, Bool.true_beq, Bool.false_beq, run_nil, run_cons, run_gate, cont_some, gate_true, gate_false, hrun_nil, hrun_cons, hrun_gate, hcont_some, hgate_true, hgate_false, put_some, put_none, ev_t, ev_k, wantedA, execA, stepA, List.set_cons_succ, List.set_cons_zero, List.getD_cons_succ, List.getD_cons_zero, List.getElem?_cons_zero, List.getElem?_cons_succ, if_true, if_false, binA, binInt, unA, eqA, Option.map, eq_self, true_or, or_true, true_and, and_true, and_self, beq_self_eq_true, Bool.not_true, Bool.not_false, reduceCtorEq, Bool.false_eq_true, ite_true, ite_false, fitsAll, CK.fits, decide_true, Bool.and_true, Bool.true_and, fillA, AV.cells, writeN, readN, sliceCells, appendA, lenA, i64, loA, hiA, hcells_last, hown_last, List.take_zero, List.drop_zero, List.nil_append, List.cons_append, List.append_nil, List.take_nil, List.drop_nil, List.length_cons, List.length_nil, List.length_append, Nat.zero_add, Nat.add_zero, Nat.reduceAdd, Nat.reduceMul, Nat.reduceDiv, Nat.reduceSub, Nat.mul_one, Nat.one_mul, Nat.div_one, Nat.le_refl, Nat.reduceLeDiff, Nat.reduceLT, Int.toNat_natCast, Int.toNat_zero, Nat.zero_le, Int.natCast_nonneg, Int.reduceLE, Int.reduceLT, Option.some.injEq, foldA, maxA, minA, Cell.int.injEq, AV.c.injEq]; rfl) (AO_step rfl (exec_lenN hy yl rfl) ?_)))
  refine AO_take 3 (by simp only [List.take_succ_cons, List.take_zero, List.drop_succ_cons, List.drop_zero, bne_self_eq_false, List.map_cons, List.map_nil, Bool.true_beq, Bool.false_beq, run_nil, run_cons, run_gate, cont_some, gate_true, gate_false, hrun_nil, hrun_cons, hrun_gate, hcont_some, hgate_true, hgate_false, put_some, put_none, ev_t, ev_k, wantedA, execA, stepA, List.set_cons_succ, List.set_cons_zero, List.getD_cons_succ, List.getD_cons_zero, List.getElem?_cons_zero, List.getElem?_cons_succ, if_true, if_false, binA, binInt, unA, eqA, Option.map, eq_self, true_or, or_true, true_and, and_true, and_self, beq_self_eq_true, Bool.not_true, Bool.not_false, reduceCtorEq, Bool.false_eq_true, ite_true, ite_false, fitsAll, CK.fits, decide_true, Bool.and_true, Bool.true_and, fillA, AV.cells, writeN, readN, sliceCells, appendA, lenA, i64, loA, hiA, hcells_last, hown_last, List.take_zero, List.drop_zero, List.nil_append, List.cons_append, List.append_nil, List.take_nil, List.drop_nil, List.length_cons, List.length_nil, List.length_append, Nat.zero_add, Nat.add_zero, Nat.reduceAdd, Nat.reduceMul, Nat.reduceDiv, Nat.reduceSub, Nat.mul_one, Nat.one_mul, Nat.div_one, Nat.le_refl, Nat.reduceLeDiff, Nat.reduceLT, Int.toNat_natCast, Int.toNat_zero, Nat.zero_le, Int.natCast_nonneg, Int.reduceLE, Int.reduceLT, Option.some.injEq, foldA, maxA, minA, Cell.int.injEq, AV.c.injEq, e1, e2, List.replicate_zero, List.flatten_nil, Int.le_refl]; rfl) (AO_nil ?_)
  refine AW_seq (AW_seq (AW_ops (AO_take 1 (by simp only [List.take_succ_cons, List.take_zero, List.drop_succ_cons, List.drop_zero, bne_self_eq_false, List.map_cons, List.map_nil, Bool.true_beq, Bool.false_beq, run_nil, run_cons, run_gate, cont_some, gate_true, gate_false, hrun_nil, hrun_cons, hrun_gate, hcont_some, hgate_true, hgate_false, put_some, put_none, ev_t, ev_k, wantedA, execA, stepA, List.set_cons_succ, List.set_cons_zero, List.getD_cons_succ, List.getD_cons_zero, List.getElem?_cons_zero, List.getElem?_cons_succ, if_true, if_false, binA, binInt, unA, eqA, Option.map, eq_self, true_or, or_true, true_and, and_true, and_self, beq_self_eq_true, Bool.not_true, Bool.not_false, reduceCtorEq, Bool.false_eq_true, ite_true, ite_false, fitsAll, CK.fits, decide_true, Bool.and_true, Bool.true_and, fillA, AV.cells, writeN, readN, sliceCells, appendA, lenA, i64, loA, hiA, hcells_last, hown_last, List.take_zero, List.drop_zero, List.nil_append, List.cons_append, List.append_nil, List.take_nil, List.drop_nil, List.length_cons, List.length_nil, List.length_append, Nat.zero_add, Nat.add_zero, Nat.reduceAdd, Nat.reduceMul, Nat.reduceDiv, Nat.reduceSub, Nat.mul_one, Nat.one_mul, Nat.div_one, Nat.le_refl, Nat.reduceLeDiff, Nat.reduceLT, Int.toNat_natCast, Int.toNat_zero, Nat.zero_le, Int.natCast_nonneg, Int.reduceLE, Int.reduceLT, Option.some.injEq, foldA, maxA, minA, Cell.int.injEq, AV.c.injEq]; rfl) (AO_step rfl (exec_lenN (hy.kept (Kept.push _ _ _)) yl rfl) ?_))))
  refine AO_take 1 (by simp only [List.take_succ_cons, List.take_zero, List.drop_succ_cons, List.drop_zero, bne_self_eq_false, List.map_cons, List.map_nil, Bool.true_beq, Bool.false_beq, run_nil, run_cons, run_gate, cont_some, gate_true, gate_false, hrun_nil, hrun_cons, hrun_gate, hcont_some, hgate_true, hgate_false, put_some, put_none, ev_t, ev_k, wantedA, execA, stepA, List.set_cons_succ, List.set_cons_zero, List.getD_cons_succ, List.getD_cons_zero, List.getElem?_cons_zero, List.getElem?_cons_succ, if_true, if_false, binA, binInt, unA, eqA, Option.map, eq_self, true_or, or_true, true_and, and_true, and_self, beq_self_eq_true, Bool.not_true, Bool.not_false, reduceCtorEq, Bool.false_eq_true, ite_true, ite_false, fitsAll, CK.fits, decide_true, Bool.and_true, Bool.true_and, fillA, AV.cells, writeN, readN, sliceCells, appendA, lenA, i64, loA, hiA, hcells_last, hown_last, List.take_zero, List.drop_zero, List.nil_append, List.cons_append, List.append_nil, List.take_nil, List.drop_nil, List.length_cons, List.length_nil, List.length_append, Nat.zero_add, Nat.add_zero, Nat.reduceAdd, Nat.reduceMul, Nat.reduceDiv, Nat.reduceSub, Nat.mul_one, Nat.one_mul, Nat.div_one, Nat.le_refl, Nat.reduceLeDiff, Nat.reduceLT, Int.toNat_natCast, Int.toNat_zero, Nat.zero_le, Int.natCast_nonneg, Int.reduceLE, Int.reduceLT, Option.some.injEq, foldA, maxA, minA, Cell.int.injEq, AV.c.injEq]; rfl) (AO_nil (AW_block ?_))
  refine AW_loopN (wr64Inv (beB 8) y xs H) xs.length ⟨0, by omega, by omega, Kept.push _ _ _, .slc H.length 0 0 1, Own.one (cs := []) (Nat.le_refl _), stale _ _ rfl⟩ ?_
  rintro m fr H1 ⟨i, hi, hm, hk, x, hx, s, rfl⟩
  refine AW_seq (AW_run (by simp only [List.take_succ_cons, List.take_zero, List.drop_succ_cons, List.drop_zero, bne_self_eq_false, List.map_cons, List.map_nil, Bool.true_beq, Bool.false_beq, run_nil, run_cons, run_gate, cont_some, gate_true, gate_false, hrun_nil, hrun_cons, hrun_gate, hcont_some, hgate_true, hgate_false, put_some, put_none, ev_t, ev_k, wantedA, execA, stepA, List.set_cons_succ, List.set_cons_zero, List.getD_cons_succ, List.getD_cons_zero, List.getElem?_cons_zero, List.getElem?_cons_succ, if_true, if_false, binA, binInt, unA, eqA, Option.map, eq_self, true_or, or_true, true_and, and_true, and_self, beq_self_eq_true, Bool.not_true, Bool.not_false, reduceCtorEq, Bool.false_eq_true, ite_true, ite_false, fitsAll, CK.fits, decide_true, Bool.and_true, Bool.true_and, fillA, AV.cells, writeN, readN, sliceCells, appendA, lenA, i64, loA, hiA, hcells_last, hown_last, List.take_zero, List.drop_zero, List.nil_append, List.cons_append, List.append_nil, List.take_nil, List.drop_nil, List.length_cons, List.length_nil, List.length_append, Nat.zero_add, Nat.add_zero, Nat.reduceAdd, Nat.reduceMul, Nat.reduceDiv, Nat.reduceSub, Nat.mul_one, Nat.one_mul, Nat.div_one, Nat.le_refl, Nat.reduceLeDiff, Nat.reduceLT, Int.toNat_natCast, Int.toNat_zero, Nat.zero_le, Int.natCast_nonneg, Int.reduceLE, Int.reduceLT, Option.some.injEq, foldA, maxA, minA, Cell.int.injEq, AV.c.injEq]; rfl) (AW_seq (AW_cond rfl ?_ ?_)))
  · intro ht
    have ht : (i : Int) < xs.length := of_decide_eq_true ht
    have ht2 : i < xs.length := by omega
    obtain ⟨u, o, full, rfl, hfull, hget⟩ := (hy.kept hk).get (i := i) (by rw [W64w_length]; exact ht2)
    rw [W64w_get ht2] at hget
    have hlt : (i : Int) < ((W64w xs).length : Nat) := by rw [W64w_length]; omega
    have e3 := place_succ (i := i) (n := xs.length) (by omega) hi
    have ef : flat (beB 8) xs (i + 1) = flat (beB 8) xs i ++ beB 8 (xs.getD i 0) := rfl
    have fli := fl4 i
    refine AW_skip (AW_seq (AW_block (AW_seq (AW_run (by simp only [List.take_succ_cons, List.take_zero, List.drop_succ_cons, List.drop_zero, bne_self_eq_false, List.map_cons, List.map_nil, Bool.true_beq, Bool.false_beq, run_nil, run_cons, run_gate, cont_some, gate_true, gate_false, hrun_nil, hrun_cons, hrun_gate, hcont_some, hgate_true, hgate_false, put_some, put_none, ev_t, ev_k, wantedA, execA, stepA, List.set_cons_succ, List.set_cons_zero, List.getD_cons_succ, List.getD_cons_zero, List.getElem?_cons_zero, List.getElem?_cons_succ, if_true, if_false, binA, binInt, unA, eqA, Option.map, eq_self, true_or, or_true, true_and, and_true, and_self, beq_self_eq_true, Bool.not_true, Bool.not_false, reduceCtorEq, Bool.false_eq_true, ite_true, ite_false, fitsAll, CK.fits, decide_true, Bool.and_true, Bool.true_and, fillA, AV.cells, writeN, readN, sliceCells, appendA, lenA, i64, loA, hiA, hcells_last, hown_last, List.take_zero, List.drop_zero, List.nil_append, List.cons_append, List.append_nil, List.take_nil, List.drop_nil, List.length_cons, List.length_nil, List.length_append, Nat.zero_add, Nat.add_zero, Nat.reduceAdd, Nat.reduceMul, Nat.reduceDiv, Nat.reduceSub, Nat.mul_one, Nat.one_mul, Nat.div_one, Nat.le_refl, Nat.reduceLeDiff, Nat.reduceLT, Int.toNat_natCast, Int.toNat_zero, Nat.zero_le, Int.natCast_nonneg, Int.reduceLE, Int.reduceLT, Option.some.injEq, foldA, maxA, minA, Cell.int.injEq, AV.c.injEq, hfull, hlt, hget]; rfl) ?_))))
    generalize xs.getD i 0 = w at *
    refine AW_seq (AW_run (by simp only [List.take_succ_cons, List.take_zero, List.drop_succ_cons, List.drop_zero, bne_self_eq_false, List.map_cons, List.map_nil, Bool.true_beq, Bool.false_beq, run_nil, run_cons, run_gate, cont_some, gate_true, gate_false, hrun_nil, hrun_cons, hrun_gate, hcont_some, hgate_true, hgate_false, put_some, put_none, ev_t, ev_k, wantedA, execA, stepA, List.set_cons_succ, List.set_cons_zero, List.getD_cons_succ, List.getD_cons_zero, List.getElem?_cons_zero, List.getElem?_cons_succ, if_true, if_false, binA, binInt, unA, eqA, Option.map, eq_self, true_or, or_true, true_and, and_true, and_self, beq_self_eq_true, Bool.not_true, Bool.not_false, reduceCtorEq, Bool.false_eq_true, ite_true, ite_false, fitsAll, CK.fits, decide_true, Bool.and_true, Bool.true_and, fillA, AV.cells, writeN, readN, sliceCells, appendA, lenA, i64, loA, hiA, hcells_last, hown_last, List.take_zero, List.drop_zero, List.nil_append, List.cons_append, List.append_nil, List.take_nil, List.drop_nil, List.length_cons, List.length_nil, List.length_append, Nat.zero_add, Nat.add_zero, Nat.reduceAdd, Nat.reduceMul, Nat.reduceDiv, Nat.reduceSub, Nat.mul_one, Nat.one_mul, Nat.div_one, Nat.le_refl, Nat.reduceLeDiff, Nat.reduceLT, Int.toNat_natCast, Int.toNat_zero, Nat.zero_le, Int.natCast_nonneg, Int.reduceLE, Int.reduceLT, Option.some.injEq, foldA, maxA, minA, Cell.int.injEq, AV.c.injEq]; rfl) (AW_block ?_))
    refine AW_loopN (be64Inv (.slc u o (W64w xs).length 1) xs i w H) 8 ⟨by omega, hk, x, by rw [List.drop_of_length_le (by rw [leB_length]; omega)]; simpa using hx, stale _ _ rfl⟩ ?_
    rintro k fr H2 ⟨hk8, hkk, x, hx, s, rfl⟩
    refine AW_seq (AW_seq (AW_run (by simp only [List.take_succ_cons, List.take_zero, List.drop_succ_cons, List.drop_zero, bne_self_eq_false, List.map_cons, List.map_nil, Bool.true_beq, Bool.false_beq, run_nil, run_cons, run_gate, cont_some, gate_true, gate_false, hrun_nil, hrun_cons, hrun_gate, hcont_some, hgate_true, hgate_false, put_some, put_none, ev_t, ev_k, wantedA, execA, stepA, List.set_cons_succ, List.set_cons_zero, List.getD_cons_succ, List.getD_cons_zero, List.getElem?_cons_zero, List.getElem?_cons_succ, if_true, if_false, binA, binInt, unA, eqA, Option.map, eq_self, true_or, or_true, true_and, and_true, and_self, beq_self_eq_true, Bool.not_true, Bool.not_false, reduceCtorEq, Bool.false_eq_true, ite_true, ite_false, fitsAll, CK.fits, decide_true, Bool.and_true, Bool.true_and, fillA, AV.cells, writeN, readN, sliceCells, appendA, lenA, i64, loA, hiA, hcells_last, hown_last, List.take_zero, List.drop_zero, List.nil_append, List.cons_append, List.append_nil, List.take_nil, List.drop_nil, List.length_cons, List.length_nil, List.length_append, Nat.zero_add, Nat.add_zero, Nat.reduceAdd, Nat.reduceMul, Nat.reduceDiv, Nat.reduceSub, Nat.mul_one, Nat.one_mul, Nat.div_one, Nat.le_refl, Nat.reduceLeDiff, Nat.reduceLT, Int.toNat_natCast, Int.toNat_zero, Nat.zero_le, Int.natCast_nonneg, Int.reduceLE, Int.reduceLT, Option.some.injEq, foldA, maxA, minA, Cell.int.injEq, AV.c.injEq]; rfl) (AW_cond rfl ?_ ?_)))
    · intro ht3
      have ht3 : (k : Int) - 1 ≥ 0 := of_decide_eq_true ht3
      obtain ⟨q, rfl⟩ : ∃ q, k = q + 1 := ⟨k - 1, by omega⟩
      have eq1 : ((q + 1 : Nat) : Int) - 1 = (q : Int) := by omega
      have e5 : IntKind.i64.wrap (8 * (q : Int)) = ((8 * q : Nat) : Int) := by rw [wrap_i64_of (by omega) (by omega)]; omega
      have s1 : shrA .u64 (w : Int) ((8 * q : Nat) : Int) = ((w / 256 ^ q : Nat) : Int) := by rw [shr_of (show 8 * q ≤ 64 by omega), pow8]
      have n1 : ¬ ((8 * q : Nat) : Int) < 0 := by omega
      have e6 : IntKind.i64.wrap ((q : Int) - 1) = (q : Int) - 1 := wrap_i64_of (by omega) (by omega)
      have hq : q < (leB 8 w).length := by rw [leB_length]; omega
      have gq : (leB 8 w).getD q 0 = w / 256 ^ q % 256 := by simp [leB, show q < 8 by omega]
      simp only [eq1]
      refine AW_skip (AW_seq (AW_block ?_))
      refine AW_ops (AO_take 7 (by simp only [List.take_succ_cons, List.take_zero, List.drop_succ_cons, List.drop_zero, bne_self_eq_false, List.map_cons, List.map_nil, Bool.true_beq, Bool.false_beq, run_nil, run_cons, run_gate, cont_some, gate_true, gate_false, hrun_nil, hrun_cons, hrun_gate, hcont_some, hgate_true, hgate_false, put_some, put_none, ev_t, ev_k, wantedA, execA, stepA, List.set_cons_succ, List.set_cons_zero, List.getD_cons_succ, List.getD_cons_zero, List.getElem?_cons_zero, List.getElem?_cons_succ, if_true, if_false, binA, binInt, unA, eqA, Option.map, eq_self, true_or, or_true, true_and, and_true, and_self, beq_self_eq_true, Bool.not_true, Bool.not_false, reduceCtorEq, Bool.false_eq_true, ite_true, ite_false, fitsAll, CK.fits, decide_true, Bool.and_true, Bool.true_and, fillA, AV.cells, writeN, readN, sliceCells, appendA, lenA, i64, loA, hiA, hcells_last, hown_last, List.take_zero, List.drop_zero, List.nil_append, List.cons_append, List.append_nil, List.take_nil, List.drop_nil, List.length_cons, List.length_nil, List.length_append, Nat.zero_add, Nat.add_zero, Nat.reduceAdd, Nat.reduceMul, Nat.reduceDiv, Nat.reduceSub, Nat.mul_one, Nat.one_mul, Nat.div_one, Nat.le_refl, Nat.reduceLeDiff, Nat.reduceLT, Int.toNat_natCast, Int.toNat_zero, Nat.zero_le, Int.natCast_nonneg, Int.reduceLE, Int.reduceLT, Option.some.injEq, foldA, maxA, minA, Cell.int.injEq, AV.c.injEq, e5, s1, n1, byte_of]; rfl) ?_)
      refine AO_append (f := H.length) hx.app (cells_last rfl) rfl (by omega) (by simp) (Nat.le_refl _) (by have := hkk.1; simp; omega) (by simp [W8_length, fli, leB_length]; omega) rfl rfl ?_
      intro x' H3 hx' k2 _
      have ew : W8 (flat (beB 8) xs i ++ ((leB 8 w).drop (q + 1)).reverse) ++ [Cell.int .u8 ((w / 256 ^ q % 256 : Nat) : Int)] = W8 (flat (beB 8) xs i ++ ((leB 8 w).drop q).reverse) := by rw [drop_rev hq, gq, ← List.append_assoc, W8_append (ys := [_])]; rfl
      rw [ew] at hx'
      refine AO_take 1 (by simp only [List.take_succ_cons, List.take_zero, List.drop_succ_cons, List.drop_zero, bne_self_eq_false, List.map_cons, List.map_nil, Bool.true_beq, Bool.false_beq, run_nil, run_cons, run_gate, cont_some, gate_true, gate_false, hrun_nil, hrun_cons, hrun_gate, hcont_some, hgate_true, hgate_false, put_some, put_none, ev_t, ev_k, wantedA, execA, stepA, List.set_cons_succ, List.set_cons_zero, List.getD_cons_succ, List.getD_cons_zero, List.getElem?_cons_zero, List.getElem?_cons_succ, if_true, if_false, binA, binInt, unA, eqA, Option.map, eq_self, true_or, or_true, true_and, and_true, and_self, beq_self_eq_true, Bool.not_true, Bool.not_false, reduceCtorEq, Bool.false_eq_true, ite_true, ite_false, fitsAll, CK.fits, decide_true, Bool.and_true, Bool.true_and, fillA, AV.cells, writeN, readN, sliceCells, appendA, lenA, i64, loA, hiA, hcells_last, hown_last, List.take_zero, List.drop_zero, List.nil_append, List.cons_append, List.append_nil, List.take_nil, List.drop_nil, List.length_cons, List.length_nil, List.length_append, Nat.zero_add, Nat.add_zero, Nat.reduceAdd, Nat.reduceMul, Nat.reduceDiv, Nat.reduceSub, Nat.mul_one, Nat.one_mul, Nat.div_one, Nat.le_refl, Nat.reduceLeDiff, Nat.reduceLT, Int.toNat_natCast, Int.toNat_zero, Nat.zero_le, Int.natCast_nonneg, Int.reduceLE, Int.reduceLT, Option.some.injEq, foldA, maxA, minA, Cell.int.injEq, AV.c.injEq]; rfl) (AO_nil ?_)
      exact AW_run (by simp only [List.take_succ_cons, List.take_zero, List.drop_succ_cons, List.drop_zero, bne_self_eq_false, List.map_cons, List.map_nil, Bool.true_beq, Bool.false_beq, run_nil, run_cons, run_gate, cont_some, gate_true, gate_false, hrun_nil, hrun_cons, hrun_gate, hcont_some, hgate_true, hgate_false, put_some, put_none, ev_t, ev_k, wantedA, execA, stepA, List.set_cons_succ, List.set_cons_zero, List.getD_cons_succ, List.getD_cons_zero, List.getElem?_cons_zero, List.getElem?_cons_succ, if_true, if_false, binA, binInt, unA, eqA, Option.map, eq_self, true_or, or_true, true_and, and_true, and_self, beq_self_eq_true, Bool.not_true, Bool.not_false, reduceCtorEq, Bool.false_eq_true, ite_true, ite_false, fitsAll, CK.fits, decide_true, Bool.and_true, Bool.true_and, fillA, AV.cells, writeN, readN, sliceCells, appendA, lenA, i64, loA, hiA, hcells_last, hown_last, List.take_zero, List.drop_zero, List.nil_append, List.cons_append, List.append_nil, List.take_nil, List.drop_nil, List.length_cons, List.length_nil, List.length_append, Nat.zero_add, Nat.add_zero, Nat.reduceAdd, Nat.reduceMul, Nat.reduceDiv, Nat.reduceSub, Nat.mul_one, Nat.one_mul, Nat.div_one, Nat.le_refl, Nat.reduceLeDiff, Nat.reduceLT, Int.toNat_natCast, Int.toNat_zero, Nat.zero_le, Int.natCast_nonneg, Int.reduceLE, Int.reduceLT, Option.some.injEq, foldA, maxA, minA, Cell.int.injEq, AV.c.injEq, e6]; rfl) ⟨q, by omega, by omega, hkk.trans ((Kept.push _ _ _).trans k2), x', hx', stale _ _ rfl⟩
    · intro ht3
      have ht3 : ¬ (k : Int) - 1 ≥ 0 := of_decide_eq_false ht3
      obtain rfl : k = 0 := by omega
      rw [List.drop_zero] at hx
      have hx : Own H.length H2 x 1 (W8 (flat (beB 8) xs (i + 1))) := by rw [ef]; exact hx
      refine AW_exit ?_
      exact AW_run (by simp only [List.take_succ_cons, List.take_zero, List.drop_succ_cons, List.drop_zero, bne_self_eq_false, List.map_cons, List.map_nil, Bool.true_beq, Bool.false_beq, run_nil, run_cons, run_gate, cont_some, gate_true, gate_false, hrun_nil, hrun_cons, hrun_gate, hcont_some, hgate_true, hgate_false, put_some, put_none, ev_t, ev_k, wantedA, execA, stepA, List.set_cons_succ, List.set_cons_zero, List.getD_cons_succ, List.getD_cons_zero, List.getElem?_cons_zero, List.getElem?_cons_succ, if_true, if_false, binA, binInt, unA, eqA, Option.map, eq_self, true_or, or_true, true_and, and_true, and_self, beq_self_eq_true, Bool.not_true, Bool.not_false, reduceCtorEq, Bool.false_eq_true, ite_true, ite_false, fitsAll, CK.fits, decide_true, Bool.and_true, Bool.true_and, fillA, AV.cells, writeN, readN, sliceCells, appendA, lenA, i64, loA, hiA, hcells_last, hown_last, List.take_zero, List.drop_zero, List.nil_append, List.cons_append, List.append_nil, List.take_nil, List.drop_nil, List.length_cons, List.length_nil, List.length_append, Nat.zero_add, Nat.add_zero, Nat.reduceAdd, Nat.reduceMul, Nat.reduceDiv, Nat.reduceSub, Nat.mul_one, Nat.one_mul, Nat.div_one, Nat.le_refl, Nat.reduceLeDiff, Nat.reduceLT, Int.toNat_natCast, Int.toNat_zero, Nat.zero_le, Int.natCast_nonneg, Int.reduceLE, Int.reduceLT, Option.some.injEq, foldA, maxA, minA, Cell.int.injEq, AV.c.injEq, e3]; rfl) ⟨xs.length - (i + 1), by omega, i + 1, by omega, rfl, hkk, x, hx, stale _ _ (by rw [W64w_length] <;> rfl)⟩
  · intro ht
    have ht : ¬ (i : Int) < xs.length := of_decide_eq_false ht
    obtain rfl : i = xs.length := by omega
    exact AW_exit (AW_seq (AW_run (by simp only [List.take_succ_cons, List.take_zero, List.drop_succ_cons, List.drop_zero, bne_self_eq_false, List.map_cons, List.map_nil, Bool.true_beq, Bool.false_beq, run_nil, run_cons, run_gate, cont_some, gate_true, gate_false, hrun_nil, hrun_cons, hrun_gate, hcont_some, hgate_true, hgate_false, put_some, put_none, ev_t, ev_k, wantedA, execA, stepA, List.set_cons_succ, List.set_cons_zero, List.getD_cons_succ, List.getD_cons_zero, List.getElem?_cons_zero, List.getElem?_cons_succ, if_true, if_false, binA, binInt, unA, eqA, Option.map, eq_self, true_or, or_true, true_and, and_true, and_self, beq_self_eq_true, Bool.not_true, Bool.not_false, reduceCtorEq, Bool.false_eq_true, ite_true, ite_false, fitsAll, CK.fits, decide_true, Bool.and_true, Bool.true_and, fillA, AV.cells, writeN, readN, sliceCells, appendA, lenA, i64, loA, hiA, hcells_last, hown_last, List.take_zero, List.drop_zero, List.nil_append, List.cons_append, List.append_nil, List.take_nil, List.drop_nil, List.length_cons, List.length_nil, List.length_append, Nat.zero_add, Nat.add_zero, Nat.reduceAdd, Nat.reduceMul, Nat.reduceDiv, Nat.reduceSub, Nat.mul_one, Nat.one_mul, Nat.div_one, Nat.le_refl, Nat.reduceLeDiff, Nat.reduceLT, Int.toNat_natCast, Int.toNat_zero, Nat.zero_le, Int.natCast_nonneg, Int.reduceLE, Int.reduceLT, Option.some.injEq, foldA, maxA, minA, Cell.int.injEq, AV.c.injEq]; rfl) (AW_ret ⟨_, rfl, x, rfl, hx⟩)))
end PK

/- Words taken out of bytes, walked. -/
namespace PK
open Go PAbs
set_option linter.unusedSimpArgs false
set_option linter.unusedVariables false
set_option maxRecDepth 100000

def tk (k : Nat) (at_ : Nat → Nat) (bs : List Nat) : Nat → List Nat
  | 0 => List.replicate (bs.length / k) 0
  | i + 1 => (tk k at_ bs i).set (i / k) ((tk k at_ bs i).getD (i / k) 0 ||| (bs.getD i 0 * 2 ^ (8 * at_ (i % k)) % 2 ^ (8 * k)))
theorem tk_length (k : Nat) (at_ : Nat → Nat) (bs : List Nat) : ∀ i, (tk k at_ bs i).length = bs.length / k
  | 0 => by simp [tk]
  | i + 1 => by simp [tk, tk_length k at_ bs i]
theorem getD_set' {xs : List Nat} {a b v : Nat} : (xs.set a v).getD b 0 = if a = b ∧ a < xs.length then v else xs.getD b 0 := by
  simp only [List.getD_eq_getElem?_getD, List.getElem?_set]
  by_cases h : a = b
  · subst h
    by_cases h2 : a < xs.length <;> simp [h2]
  · simp [h]
theorem tk_lt (k : Nat) (at_ : Nat → Nat) (bs : List Nat) : ∀ i j, (tk k at_ bs i).getD j 0 < 2 ^ (8 * k)
  | 0, j => by
    simp only [tk, List.getD_eq_getElem?_getD, List.getElem?_replicate]
    split <;> simp [Nat.two_pow_pos]
  | i + 1, j => by
    simp only [tk, getD_set']
    split
    · exact Nat.or_lt_two_pow (tk_lt k at_ bs i _) (Nat.mod_lt _ (Nat.two_pow_pos _))
    · exact tk_lt k at_ bs i j
theorem W32_set {xs : List Nat} {i n : Nat} (h : i < xs.length) : List.take i (W32 xs) ++ [Cell.int .u32 (n : Int)] ++ List.drop (i + 1) (W32 xs) = W32 (xs.set i n) := by
  simp only [W32, List.map_set, List.append_assoc, List.cons_append, List.nil_append]
  rw [List.set_eq_take_append_cons_drop, if_pos (by simpa using h)]
theorem zeros32 (n : Nat) : (List.replicate n [Cell.int .u32 0]).flatten = W32 (List.replicate n 0) := by
  induction n with
  | zero => rfl
  | succ n ih => simp only [List.replicate_succ, List.flatten_cons, ih, W32, List.map_cons]; rfl


def takeInv (at_ : Nat → Nat) (f b : Nat) (y : Cell) (bs : List Nat) (H0 : AHeap) (m : Nat) (fr : AFrame) (H : AHeap) : Prop := ∃ i : Nat, i ≤ bs.length ∧ m = bs.length - i ∧ Kept H0.length H0 H ∧ hown H b = some (W32 (tk 4 at_ bs i)) ∧ (∃ s : Nat → AV, fr = [.c y, .c (.fn f), s 2, s 3, .c .snil, .c (.int .i64 0), .c (.slc b 0 (bs.length / 4) 1), s 7, s 8, s 9, s 10, s 11, s 12, s 13, s 14, s 15, s 16, .c y, .c (.int .i64 (bs.length : Int)), .c (.int .i64 (i : Int)), s 20, s 21, s 22, s 23, s 24, s 25, s 26, s 27, s 28, s 29, s 30, s 31, s 32, s 33, s 34, s 35, s 36, s 37, s 38, s 39, s 40])

theorem AC_take (H : AHeap) (y : Cell) (bs : List Nat) (f : Nat) (at_ : Nat → Nat) (hy : Rd H y 1 (W8 bs)) (hl : bs.length ≤ 1000000) (hbs : ∀ k, bs.getD k 0 < 256) (hat : ∀ q, q < 4 → at_ q < 4)
    (hf : ∀ (H : AHeap) (q : Nat), q < 4 → AC A H.length f [.c (.int .i64 (q : Int))] H (fun v H' => v = .c (.int .i64 ((at_ q : Nat) : Int)) ∧ H' = H)) :
    AC A H.length F_words_take [.c y, .c (.fn f)] H (fun v H' => (bs.length % 4 ≠ 0 ∧ v = .tup [.c .snil, .c (.int .i64 9)]) ∨ (bs.length % 4 = 0 ∧ ∃ x, v = .tup [.c x, .c (.int .i64 0)] ∧ Own H.length H' x 1 (W32 (tk 4 at_ bs bs.length)))) := by
  have yl : (W8 bs).length = bs.length := W8_length
  have z : ¬ ((4 : Int) = 0) := by omega
  have em : Int.tmod (bs.length : Int) 4 = ((bs.length % 4 : Nat) : Int) := by rw [tmod_pos (by omega)]; omega
  have ed : IntKind.i64.wrap (Int.tdiv (bs.length : Int) 4) = ((bs.length / 4 : Nat) : Int) := by rw [Int.tdiv_eq_ediv_of_nonneg (by omega), wrap_i64_of (by omega) (by omega)]; omega
  refine AC_enter t_words_take ?_
  simp only [c_words_take, enterA, List.replicate, List.length_cons, List.length_nil, Nat.reduceAdd, Nat.reduceSub, List.cons_append, List.nil_append]
  refine AW_seq (AW_run (by simp only [List.take_succ_cons, List.take_zero, List.drop_succ_cons, List.drop_zero, bne_self_eq_false, List.map_cons, List.map_nil, Bool.true_beq, Bool.false_beq, run_nil, run_cons, run_gate, cont_some, gate_true, gate_false, hrun_nil, hrun_cons, hrun_gate, hcont_some, hgate_true, hgate_false, put_some, put_none, ev_t, ev_k, wantedA, execA, stepA, List.set_cons_succ, List.set_cons_zero, List.getD_cons_succ, List.getD_cons_zero, List.getElem?_cons_zero, List.getElem?_cons_succ, if_true, if_false, binA, binInt, unA, eqA, Option.map, eq_self, true_or, or_true, true_and, and_true, and_self, beq_self_eq_true, Bool.not_true, Bool.not_false, reduceCtorEq, Bool.false_eq_true, ite_true, ite_false, fitsAll, CK.fits, decide_true, Bool.and_true, Bool.true_and, fillA, AV.cells, writeN, readN, sliceCells, appendA, lenA, i64, loA, hiA, hcells_last, hown_last, List.take_zero, List.drop_zero, List.nil_append, List.cons_append, List.append_nil, List.take_nil, List.drop_nil, List.length_cons, List.length_nil, List.length_append, Nat.zero_add, Nat.add_zero, Nat.reduceAdd, Nat.reduceMul, Nat.reduceDiv, Nat.reduceSub, Nat.mul_one, Nat.one_mul, Nat.div_one, Nat.le_refl, Nat.reduceLeDiff, Nat.reduceLT, Int.toNat_natCast, Int.toNat_zero, Nat.zero_le, Int.natCast_nonneg, Int.reduceLE, Int.reduceLT, Option.some.injEq, foldA, maxA, minA, Cell.int.injEq, AV.c.injEq]; rfl) ?_)
  refine AW_seq (AW_seq (AW_ops (AO_take 1 (by simp only [List.take_succ_cons, List.take_zero, List.drop_succ_cons, List.drop_zero, bne_self_eq_false, List.map_cons, List.map_nil, Bool.true_beq, Bool.false_beq, run_nil, run_cons, run_gate, cont_some, gate_true, gate_false, hrun_nil, hrun_cons, hrun_gate, hcont_some, hgate_true, hgate_false, put_some, put_none, ev_t, ev_k, wantedA, execA, stepA, List.set_cons_succ, List.set_cons_zero, List.getD_cons_succ, List.getD_cons_zero, List.getElem?_cons_zero, List.getElem?_cons_succ, if_true, if_false, binA, binInt, unA, eqA, Option.map, eq_self, true_or, or_true, true_and, and_true, and_self, beq_self_eq_true, Bool.not_true, Bool.not_false, reduceCtorEq, Bool.false_eq_true, ite_true, ite_false, fitsAll, CK.fits, decide_true, Bool.and_true, Bool.true_and, fillA, AV.cells, writeN, readN, sliceCells, appendA, lenA, i64, loA, hiA, hcells_last, hown_last, List.take_zero, List.drop_zero, List.nil_append, List.cons_append, List.append_nil, List.take_nil, List.drop_nil, List.length_cons, List.length_nil, List.length_append, Nat.zero_add, Nat.add_zero, Nat.reduceAdd, Nat.reduceMul, Nat.reduceDiv, Nat.reduceSub, Nat.mul_one, Nat.one_mul, Nat.div_one, Nat.le_refl, Nat.reduceLeDiff, Nat.reduceLT, Int.toNat_natCast, Int.toNat_zero, Nat.zero_le, Int.natCast_nonneg, Int.reduceLE, Int.reduceLT, Option.some.injEq, foldA, maxA, minA, Cell.int.injEq, AV.c.injEq]; rfl) (AO_step rfl (exec_lenN hy yl rfl) ?_))))
  refine AO_take 2 (by simp only [List.take_succ_cons, List.take_zero, List.drop_succ_cons, List.drop_zero, bne_self_eq_false, List.map_cons, List.map_nil, Bool.true_beq, Bool.false_beq, run_nil, run_cons, run_gate, cont_some, gate_true, gate_false, hrun_nil, hrun_cons, hrun_gate, hcont_some, hgate_true, hgate_false, put_some, put_none, ev_t, ev_k, wantedA, execA, stepA, List.set_cons_succ, List.set_cons_zero, List.getD_cons_succ, List.getD_cons_zero, List.getElem?_cons_zero, List.getElem?_cons_succ, if_true, if_false, binA, binInt, unA, eqA, Option.map, eq_self, true_or, or_true, true_and, and_true, and_self, beq_self_eq_true, Bool.not_true, Bool.not_false, reduceCtorEq, Bool.false_eq_true, ite_true, ite_false, fitsAll, CK.fits, decide_true, Bool.and_true, Bool.true_and, fillA, AV.cells, writeN, readN, sliceCells, appendA, lenA, i64, loA, hiA, hcells_last, hown_last, List.take_zero, List.drop_zero, List.nil_append, List.cons_append, List.append_nil, List.take_nil, List.drop_nil, List.length_cons, List.length_nil, List.length_append, Nat.zero_add, Nat.add_zero, Nat.reduceAdd, Nat.reduceMul, Nat.reduceDiv, Nat.reduceSub, Nat.mul_one, Nat.one_mul, Nat.div_one, Nat.le_refl, Nat.reduceLeDiff, Nat.reduceLT, Int.toNat_natCast, Int.toNat_zero, Nat.zero_le, Int.natCast_nonneg, Int.reduceLE, Int.reduceLT, Option.some.injEq, foldA, maxA, minA, Cell.int.injEq, AV.c.injEq, z, em]; rfl) (AO_nil (AW_cond rfl ?_ ?_))
  · intro h
    have h : ((bs.length % 4 : Nat) : Int) ≠ 0 := by simpa using h
    exact AW_seq (AW_run (by simp only [List.take_succ_cons, List.take_zero, List.drop_succ_cons, List.drop_zero, bne_self_eq_false, List.map_cons, List.map_nil, Bool.true_beq, Bool.false_beq, run_nil, run_cons, run_gate, cont_some, gate_true, gate_false, hrun_nil, hrun_cons, hrun_gate, hcont_some, hgate_true, hgate_false, put_some, put_none, ev_t, ev_k, wantedA, execA, stepA, List.set_cons_succ, List.set_cons_zero, List.getD_cons_succ, List.getD_cons_zero, List.getElem?_cons_zero, List.getElem?_cons_succ, if_true, if_false, binA, binInt, unA, eqA, Option.map, eq_self, true_or, or_true, true_and, and_true, and_self, beq_self_eq_true, Bool.not_true, Bool.not_false, reduceCtorEq, Bool.false_eq_true, ite_true, ite_false, fitsAll, CK.fits, decide_true, Bool.and_true, Bool.true_and, fillA, AV.cells, writeN, readN, sliceCells, appendA, lenA, i64, loA, hiA, hcells_last, hown_last, List.take_zero, List.drop_zero, List.nil_append, List.cons_append, List.append_nil, List.take_nil, List.drop_nil, List.length_cons, List.length_nil, List.length_append, Nat.zero_add, Nat.add_zero, Nat.reduceAdd, Nat.reduceMul, Nat.reduceDiv, Nat.reduceSub, Nat.mul_one, Nat.one_mul, Nat.div_one, Nat.le_refl, Nat.reduceLeDiff, Nat.reduceLT, Int.toNat_natCast, Int.toNat_zero, Nat.zero_le, Int.natCast_nonneg, Int.reduceLE, Int.reduceLT, Option.some.injEq, foldA, maxA, minA, Cell.int.injEq, AV.c.injEq]; rfl) (AW_ret ⟨_, rfl, .inl ⟨by omega, rfl⟩⟩))
  intro h
  have h : ((bs.length % 4 : Nat) : Int) = 0 := by simpa using h
  have h0 : bs.length % 4 = 0 := by omega
  refine AW_skip (AW_seq (AW_ops (AO_take 1 (by simp only [List.take_succ_cons, List.take_zero, List.drop_succ_cons, List.drop_zero, bne_self_eq_false, List.map_cons, List.map_nil, Bool.true_beq, Bool.false_beq, run_nil, run_cons, run_gate, cont_some, gate_true, gate_false, hrun_nil, hrun_cons, hrun_gate, hcont_some, hgate_true, hgate_false, put_some, put_none, ev_t, ev_k, wantedA, execA, stepA, List.set_cons_succ, List.set_cons_zero, List.getD_cons_succ, List.getD_cons_zero, List.getElem?_cons_zero, List.getElem?_cons_succ, if_true, if_false, binA, binInt, unA, eqA, Option.map, eq_self, true_or, or_true, true_and, and_true, and_self, beq_self_eq_true, Bool.not_true, Bool.not_false, reduceCtorEq, Bool.false_eq_true, ite_true, ite_false, fitsAll, CK.fits, decide_true, Bool.and_true, Bool.true_and, fillA, AV.cells, writeN, readN, sliceCells, appendA, lenA, i64, loA, hiA, hcells_last, hown_last, List.take_zero, List.drop_zero, List.nil_append, List.cons_append, List.append_nil, List.take_nil, List.drop_nil, List.length_cons, List.length_nil, List.length_append, Nat.zero_add, Nat.add_zero, Nat.reduceAdd, Nat.reduceMul, Nat.reduceDiv, Nat.reduceSub, Nat.mul_one, Nat.one_mul, Nat.div_one, Nat.le_refl, Nat.reduceLeDiff, Nat.reduceLT, Int.toNat_natCast, Int.toNat_zero, Nat.zero_le, Int.natCast_nonneg, Int.reduceLE, Int.reduceLT, Option.some.injEq, foldA, maxA, minA, Cell.int.injEq, AV.c.injEq]; rfl) (AO_step rfl (exec_lenN hy yl rfl) ?_))))
  have c1 : (0 : Int) ≤ ((bs.length / 4 : Nat) : Int) := by omega
  have c2 : ((bs.length / 4 : Nat) : Int) ≤ ((bs.length / 4 : Nat) : Int) := Int.le_refl _
  have c3 : ((bs.length / 4 : Nat) : Int) * (4 : Nat) ≤ 140737488355328 := by omega
  refine AO_take 3 (by simp only [List.take_succ_cons, List.take_zero, List.drop_succ_cons, List.drop_zero, bne_self_eq_false, List.map_cons, List.map_nil, Bool.true_beq, Bool.false_beq, run_nil, run_cons, run_gate, cont_some, gate_true, gate_false, hrun_nil, hrun_cons, hrun_gate, hcont_some, hgate_true, hgate_false, put_some, put_none, ev_t, ev_k, wantedA, execA, stepA, List.set_cons_succ, List.set_cons_zero, List.getD_cons_succ, List.getD_cons_zero, List.getElem?_cons_zero, List.getElem?_cons_succ, if_true, if_false, binA, binInt, unA, eqA, Option.map, eq_self, true_or, or_true, true_and, and_true, and_self, beq_self_eq_true, Bool.not_true, Bool.not_false, reduceCtorEq, Bool.false_eq_true, ite_true, ite_false, fitsAll, CK.fits, decide_true, Bool.and_true, Bool.true_and, fillA, AV.cells, writeN, readN, sliceCells, appendA, lenA, i64, loA, hiA, hcells_last, hown_last, List.take_zero, List.drop_zero, List.nil_append, List.cons_append, List.append_nil, List.take_nil, List.drop_nil, List.length_cons, List.length_nil, List.length_append, Nat.zero_add, Nat.add_zero, Nat.reduceAdd, Nat.reduceMul, Nat.reduceDiv, Nat.reduceSub, Nat.mul_one, Nat.one_mul, Nat.div_one, Nat.le_refl, Nat.reduceLeDiff, Nat.reduceLT, Int.toNat_natCast, Int.toNat_zero, Nat.zero_le, Int.natCast_nonneg, Int.reduceLE, Int.reduceLT, Option.some.injEq, foldA, maxA, minA, Cell.int.injEq, AV.c.injEq, z, ed, c1, c2, c3, zeros32]; rfl) (AO_nil ?_)
  refine AW_seq (AW_seq (AW_ops (AO_take 1 (by simp only [List.take_succ_cons, List.take_zero, List.drop_succ_cons, List.drop_zero, bne_self_eq_false, List.map_cons, List.map_nil, Bool.true_beq, Bool.false_beq, run_nil, run_cons, run_gate, cont_some, gate_true, gate_false, hrun_nil, hrun_cons, hrun_gate, hcont_some, hgate_true, hgate_false, put_some, put_none, ev_t, ev_k, wantedA, execA, stepA, List.set_cons_succ, List.set_cons_zero, List.getD_cons_succ, List.getD_cons_zero, List.getElem?_cons_zero, List.getElem?_cons_succ, if_true, if_false, binA, binInt, unA, eqA, Option.map, eq_self, true_or, or_true, true_and, and_true, and_self, beq_self_eq_true, Bool.not_true, Bool.not_false, reduceCtorEq, Bool.false_eq_true, ite_true, ite_false, fitsAll, CK.fits, decide_true, Bool.and_true, Bool.true_and, fillA, AV.cells, writeN, readN, sliceCells, appendA, lenA, i64, loA, hiA, hcells_last, hown_last, List.take_zero, List.drop_zero, List.nil_append, List.cons_append, List.append_nil, List.take_nil, List.drop_nil, List.length_cons, List.length_nil, List.length_append, Nat.zero_add, Nat.add_zero, Nat.reduceAdd, Nat.reduceMul, Nat.reduceDiv, Nat.reduceSub, Nat.mul_one, Nat.one_mul, Nat.div_one, Nat.le_refl, Nat.reduceLeDiff, Nat.reduceLT, Int.toNat_natCast, Int.toNat_zero, Nat.zero_le, Int.natCast_nonneg, Int.reduceLE, Int.reduceLT, Option.some.injEq, foldA, maxA, minA, Cell.int.injEq, AV.c.injEq]; rfl) (AO_step rfl (exec_lenN (hy.kept (Kept.push _ _ _)) yl rfl) ?_))))
  refine AO_take 1 (by simp only [List.take_succ_cons, List.take_zero, List.drop_succ_cons, List.drop_zero, bne_self_eq_false, List.map_cons, List.map_nil, Bool.true_beq, Bool.false_beq, run_nil, run_cons, run_gate, cont_some, gate_true, gate_false, hrun_nil, hrun_cons, hrun_gate, hcont_some, hgate_true, hgate_false, put_some, put_none, ev_t, ev_k, wantedA, execA, stepA, List.set_cons_succ, List.set_cons_zero, List.getD_cons_succ, List.getD_cons_zero, List.getElem?_cons_zero, List.getElem?_cons_succ, if_true, if_false, binA, binInt, unA, eqA, Option.map, eq_self, true_or, or_true, true_and, and_true, and_self, beq_self_eq_true, Bool.not_true, Bool.not_false, reduceCtorEq, Bool.false_eq_true, ite_true, ite_false, fitsAll, CK.fits, decide_true, Bool.and_true, Bool.true_and, fillA, AV.cells, writeN, readN, sliceCells, appendA, lenA, i64, loA, hiA, hcells_last, hown_last, List.take_zero, List.drop_zero, List.nil_append, List.cons_append, List.append_nil, List.take_nil, List.drop_nil, List.length_cons, List.length_nil, List.length_append, Nat.zero_add, Nat.add_zero, Nat.reduceAdd, Nat.reduceMul, Nat.reduceDiv, Nat.reduceSub, Nat.mul_one, Nat.one_mul, Nat.div_one, Nat.le_refl, Nat.reduceLeDiff, Nat.reduceLT, Int.toNat_natCast, Int.toNat_zero, Nat.zero_le, Int.natCast_nonneg, Int.reduceLE, Int.reduceLT, Option.some.injEq, foldA, maxA, minA, Cell.int.injEq, AV.c.injEq]; rfl) (AO_nil (AW_block ?_))
  generalize hb : H.length = b at *
  refine AW_loopN (takeInv at_ f b y bs H) bs.length ⟨0, by omega, by omega, Kept.push _ _ _, by rw [← hb]; exact hown_last, stale _ _ rfl⟩ ?_
  rintro m fr H1 ⟨i, hi, hm, hk, ho, s, rfl⟩
  refine AW_seq (AW_run (by simp only [List.take_succ_cons, List.take_zero, List.drop_succ_cons, List.drop_zero, bne_self_eq_false, List.map_cons, List.map_nil, Bool.true_beq, Bool.false_beq, run_nil, run_cons, run_gate, cont_some, gate_true, gate_false, hrun_nil, hrun_cons, hrun_gate, hcont_some, hgate_true, hgate_false, put_some, put_none, ev_t, ev_k, wantedA, execA, stepA, List.set_cons_succ, List.set_cons_zero, List.getD_cons_succ, List.getD_cons_zero, List.getElem?_cons_zero, List.getElem?_cons_succ, if_true, if_false, binA, binInt, unA, eqA, Option.map, eq_self, true_or, or_true, true_and, and_true, and_self, beq_self_eq_true, Bool.not_true, Bool.not_false, reduceCtorEq, Bool.false_eq_true, ite_true, ite_false, fitsAll, CK.fits, decide_true, Bool.and_true, Bool.true_and, fillA, AV.cells, writeN, readN, sliceCells, appendA, lenA, i64, loA, hiA, hcells_last, hown_last, List.take_zero, List.drop_zero, List.nil_append, List.cons_append, List.append_nil, List.take_nil, List.drop_nil, List.length_cons, List.length_nil, List.length_append, Nat.zero_add, Nat.add_zero, Nat.reduceAdd, Nat.reduceMul, Nat.reduceDiv, Nat.reduceSub, Nat.mul_one, Nat.one_mul, Nat.div_one, Nat.le_refl, Nat.reduceLeDiff, Nat.reduceLT, Int.toNat_natCast, Int.toNat_zero, Nat.zero_le, Int.natCast_nonneg, Int.reduceLE, Int.reduceLT, Option.some.injEq, foldA, maxA, minA, Cell.int.injEq, AV.c.injEq]; rfl) (AW_seq (AW_cond rfl ?_ ?_)))
  · intro ht
    have ht : (i : Int) < bs.length := of_decide_eq_true ht
    have ht2 : i < bs.length := by omega
    obtain ⟨u, o, full, rfl, hfull, hget⟩ := (hy.kept hk).get (i := i) (by rw [yl]; exact ht2)
    rw [W8_get ht2] at hget
    have hlt : (i : Int) < ((W8 bs).length : Nat) := by rw [yl]; omega
    have e3 := place_succ (i := i) (n := bs.length) (by omega) hi
    have q4 : i % 4 < 4 := Nat.mod_lt _ (by omega)
    have a4 := hat _ q4
    have hj : i / 4 < bs.length / 4 := by omega
    have e4 : IntKind.i64.wrap (Int.tdiv (i : Int) 4) = ((i / 4 : Nat) : Int) := by rw [Int.tdiv_eq_ediv_of_nonneg (by omega), wrap_i64_of (by omega) (by omega)]; omega
    have e5 : Int.tmod (i : Int) 4 = ((i % 4 : Nat) : Int) := by rw [tmod_pos (by omega)]; omega
    have hj2 : ((i / 4 : Nat) : Int) < ((bs.length / 4 : Nat) : Int) := by omega
    have hj3 : ((i / 4 : Nat) : Int) ≥ 0 := by omega
    have gj : (W32 (tk 4 at_ bs i))[i / 4]? = some _ := W32_get (by rw [tk_length]; exact hj)
    have go := hcells_own ho
    have hbi := hbs i
    have e6 : IntKind.u32.wrap ((bs.getD i 0 : Nat) : Int) = ((bs.getD i 0 : Nat) : Int) := by rw [wrap_u32]; omega
    have e7 : IntKind.i64.wrap (8 * ((at_ (i % 4) : Nat) : Int)) = ((8 * at_ (i % 4) : Nat) : Int) := by rw [wrap_i64_of (by omega) (by omega)]; omega
    have n1 : ¬ ((8 * at_ (i % 4) : Nat) : Int) < 0 := by omega
    have s1 : shlA .u32 ((bs.getD i 0 : Nat) : Int) ((8 * at_ (i % 4) : Nat) : Int) = _ := shl_of rfl (show 8 * at_ (i % 4) ≤ 32 by omega)
    have o1 : bitsA .or .u32 (((tk 4 at_ bs i).getD (i / 4) 0 : Nat) : Int) ((bs.getD i 0 * 2 ^ (8 * at_ (i % 4)) % 2 ^ IntKind.u32.bits : Nat) : Int) = _ := or_of rfl (tk_lt 4 at_ bs i _) (Nat.mod_lt _ (Nat.two_pow_pos _))
    have es : _ = W32 (tk 4 at_ bs (i + 1)) := W32_set (xs := tk 4 at_ bs i) (i := i / 4) (n := (tk 4 at_ bs i).getD (i / 4) 0 ||| (bs.getD i 0 * 2 ^ (8 * at_ (i % 4)) % 2 ^ IntKind.u32.bits)) (by rw [tk_length]; exact hj)
    have l1 : i / 4 + 1 ≤ bs.length / 4 := by omega
    have fb : b ≤ b := Nat.le_refl b
    refine AW_skip (AW_seq (AW_block (AW_seq (AW_run (by simp only [List.take_succ_cons, List.take_zero, List.drop_succ_cons, List.drop_zero, bne_self_eq_false, List.map_cons, List.map_nil, Bool.true_beq, Bool.false_beq, run_nil, run_cons, run_gate, cont_some, gate_true, gate_false, hrun_nil, hrun_cons, hrun_gate, hcont_some, hgate_true, hgate_false, put_some, put_none, ev_t, ev_k, wantedA, execA, stepA, List.set_cons_succ, List.set_cons_zero, List.getD_cons_succ, List.getD_cons_zero, List.getElem?_cons_zero, List.getElem?_cons_succ, if_true, if_false, binA, binInt, unA, eqA, Option.map, eq_self, true_or, or_true, true_and, and_true, and_self, beq_self_eq_true, Bool.not_true, Bool.not_false, reduceCtorEq, Bool.false_eq_true, ite_true, ite_false, fitsAll, CK.fits, decide_true, Bool.and_true, Bool.true_and, fillA, AV.cells, writeN, readN, sliceCells, appendA, lenA, i64, loA, hiA, hcells_last, hown_last, List.take_zero, List.drop_zero, List.nil_append, List.cons_append, List.append_nil, List.take_nil, List.drop_nil, List.length_cons, List.length_nil, List.length_append, Nat.zero_add, Nat.add_zero, Nat.reduceAdd, Nat.reduceMul, Nat.reduceDiv, Nat.reduceSub, Nat.mul_one, Nat.one_mul, Nat.div_one, Nat.le_refl, Nat.reduceLeDiff, Nat.reduceLT, Int.toNat_natCast, Int.toNat_zero, Nat.zero_le, Int.natCast_nonneg, Int.reduceLE, Int.reduceLT, Option.some.injEq, foldA, maxA, minA, Cell.int.injEq, AV.c.injEq, hfull, hlt, hget]; rfl) ?_))))
    refine AW_draw (AHd_take 10 (by simp only [List.take_succ_cons, List.take_zero, List.drop_succ_cons, List.drop_zero, bne_self_eq_false, List.map_cons, List.map_nil, Bool.true_beq, Bool.false_beq, run_nil, run_cons, run_gate, cont_some, gate_true, gate_false, hrun_nil, hrun_cons, hrun_gate, hcont_some, hgate_true, hgate_false, put_some, put_none, ev_t, ev_k, wantedA, execA, stepA, List.set_cons_succ, List.set_cons_zero, List.getD_cons_succ, List.getD_cons_zero, List.getElem?_cons_zero, List.getElem?_cons_succ, if_true, if_false, binA, binInt, unA, eqA, Option.map, eq_self, true_or, or_true, true_and, and_true, and_self, beq_self_eq_true, Bool.not_true, Bool.not_false, reduceCtorEq, Bool.false_eq_true, ite_true, ite_false, fitsAll, CK.fits, decide_true, Bool.and_true, Bool.true_and, fillA, AV.cells, writeN, readN, sliceCells, appendA, lenA, i64, loA, hiA, hcells_last, hown_last, List.take_zero, List.drop_zero, List.nil_append, List.cons_append, List.append_nil, List.take_nil, List.drop_nil, List.length_cons, List.length_nil, List.length_append, Nat.zero_add, Nat.add_zero, Nat.reduceAdd, Nat.reduceMul, Nat.reduceDiv, Nat.reduceSub, Nat.mul_one, Nat.one_mul, Nat.div_one, Nat.le_refl, Nat.reduceLeDiff, Nat.reduceLT, Int.toNat_natCast, Int.toNat_zero, Nat.zero_le, Int.natCast_nonneg, Int.reduceLE, Int.reduceLT, Option.some.injEq, foldA, maxA, minA, Cell.int.injEq, AV.c.injEq, z, e4, e5, e6, hj2, hj3, go, gj]; rfl) ?_)
    refine AHd_callV rfl rfl (hf H1 (i % 4) q4) ?_
    rintro _ _ ⟨rfl, rfl⟩ -
    rename_i H1
    refine AHd_take 2 (by simp only [List.take_succ_cons, List.take_zero, List.drop_succ_cons, List.drop_zero, bne_self_eq_false, List.map_cons, List.map_nil, Bool.true_beq, Bool.false_beq, run_nil, run_cons, run_gate, cont_some, gate_true, gate_false, hrun_nil, hrun_cons, hrun_gate, hcont_some, hgate_true, hgate_false, put_some, put_none, ev_t, ev_k, wantedA, execA, stepA, List.set_cons_succ, List.set_cons_zero, List.getD_cons_succ, List.getD_cons_zero, List.getElem?_cons_zero, List.getElem?_cons_succ, if_true, if_false, binA, binInt, unA, eqA, Option.map, eq_self, true_or, or_true, true_and, and_true, and_self, beq_self_eq_true, Bool.not_true, Bool.not_false, reduceCtorEq, Bool.false_eq_true, ite_true, ite_false, fitsAll, CK.fits, decide_true, Bool.and_true, Bool.true_and, fillA, AV.cells, writeN, readN, sliceCells, appendA, lenA, i64, loA, hiA, hcells_last, hown_last, List.take_zero, List.drop_zero, List.nil_append, List.cons_append, List.append_nil, List.take_nil, List.drop_nil, List.length_cons, List.length_nil, List.length_append, Nat.zero_add, Nat.add_zero, Nat.reduceAdd, Nat.reduceMul, Nat.reduceDiv, Nat.reduceSub, Nat.mul_one, Nat.one_mul, Nat.div_one, Nat.le_refl, Nat.reduceLeDiff, Nat.reduceLT, Int.toNat_natCast, Int.toNat_zero, Nat.zero_le, Int.natCast_nonneg, Int.reduceLE, Int.reduceLT, Option.some.injEq, foldA, maxA, minA, Cell.int.injEq, AV.c.injEq, e7, n1, s1]; rfl) (AHd_nil ?_)
    refine AO_take 3 (by simp only [List.take_succ_cons, List.take_zero, List.drop_succ_cons, List.drop_zero, bne_self_eq_false, List.map_cons, List.map_nil, Bool.true_beq, Bool.false_beq, run_nil, run_cons, run_gate, cont_some, gate_true, gate_false, hrun_nil, hrun_cons, hrun_gate, hcont_some, hgate_true, hgate_false, put_some, put_none, ev_t, ev_k, wantedA, execA, stepA, List.set_cons_succ, List.set_cons_zero, List.getD_cons_succ, List.getD_cons_zero, List.getElem?_cons_zero, List.getElem?_cons_succ, if_true, if_false, binA, binInt, unA, eqA, Option.map, eq_self, true_or, or_true, true_and, and_true, and_self, beq_self_eq_true, Bool.not_true, Bool.not_false, reduceCtorEq, Bool.false_eq_true, ite_true, ite_false, fitsAll, CK.fits, decide_true, Bool.and_true, Bool.true_and, fillA, AV.cells, writeN, readN, sliceCells, appendA, lenA, i64, loA, hiA, hcells_last, hown_last, List.take_zero, List.drop_zero, List.nil_append, List.cons_append, List.append_nil, List.take_nil, List.drop_nil, List.length_cons, List.length_nil, List.length_append, Nat.zero_add, Nat.add_zero, Nat.reduceAdd, Nat.reduceMul, Nat.reduceDiv, Nat.reduceSub, Nat.mul_one, Nat.one_mul, Nat.div_one, Nat.le_refl, Nat.reduceLeDiff, Nat.reduceLT, Int.toNat_natCast, Int.toNat_zero, Nat.zero_le, Int.natCast_nonneg, Int.reduceLE, Int.reduceLT, Option.some.injEq, foldA, maxA, minA, Cell.int.injEq, AV.c.injEq, o1, hj2, hj3, go, ho, W32_length, tk_length, l1, es, fb]; rfl) (AO_nil ?_)
    have hbl := hown_lt ho
    exact AW_run (by simp only [List.take_succ_cons, List.take_zero, List.drop_succ_cons, List.drop_zero, bne_self_eq_false, List.map_cons, List.map_nil, Bool.true_beq, Bool.false_beq, run_nil, run_cons, run_gate, cont_some, gate_true, gate_false, hrun_nil, hrun_cons, hrun_gate, hcont_some, hgate_true, hgate_false, put_some, put_none, ev_t, ev_k, wantedA, execA, stepA, List.set_cons_succ, List.set_cons_zero, List.getD_cons_succ, List.getD_cons_zero, List.getElem?_cons_zero, List.getElem?_cons_succ, if_true, if_false, binA, binInt, unA, eqA, Option.map, eq_self, true_or, or_true, true_and, and_true, and_self, beq_self_eq_true, Bool.not_true, Bool.not_false, reduceCtorEq, Bool.false_eq_true, ite_true, ite_false, fitsAll, CK.fits, decide_true, Bool.and_true, Bool.true_and, fillA, AV.cells, writeN, readN, sliceCells, appendA, lenA, i64, loA, hiA, hcells_last, hown_last, List.take_zero, List.drop_zero, List.nil_append, List.cons_append, List.append_nil, List.take_nil, List.drop_nil, List.length_cons, List.length_nil, List.length_append, Nat.zero_add, Nat.add_zero, Nat.reduceAdd, Nat.reduceMul, Nat.reduceDiv, Nat.reduceSub, Nat.mul_one, Nat.one_mul, Nat.div_one, Nat.le_refl, Nat.reduceLeDiff, Nat.reduceLT, Int.toNat_natCast, Int.toNat_zero, Nat.zero_le, Int.natCast_nonneg, Int.reduceLE, Int.reduceLT, Option.some.injEq, foldA, maxA, minA, Cell.int.injEq, AV.c.injEq, e3]; rfl) ⟨bs.length - (i + 1), by omega, i + 1, by omega, rfl, hk.trans (Kept.set (by omega)), hown_set hbl, stale _ _ (by rw [yl] <;> rfl)⟩
  · intro ht
    have ht : ¬ (i : Int) < bs.length := of_decide_eq_false ht
    obtain rfl : i = bs.length := by omega
    refine AW_exit (AW_seq (AW_run (by simp only [List.take_succ_cons, List.take_zero, List.drop_succ_cons, List.drop_zero, bne_self_eq_false, List.map_cons, List.map_nil, Bool.true_beq, Bool.false_beq, run_nil, run_cons, run_gate, cont_some, gate_true, gate_false, hrun_nil, hrun_cons, hrun_gate, hcont_some, hgate_true, hgate_false, put_some, put_none, ev_t, ev_k, wantedA, execA, stepA, List.set_cons_succ, List.set_cons_zero, List.getD_cons_succ, List.getD_cons_zero, List.getElem?_cons_zero, List.getElem?_cons_succ, if_true, if_false, binA, binInt, unA, eqA, Option.map, eq_self, true_or, or_true, true_and, and_true, and_self, beq_self_eq_true, Bool.not_true, Bool.not_false, reduceCtorEq, Bool.false_eq_true, ite_true, ite_false, fitsAll, CK.fits, decide_true, Bool.and_true, Bool.true_and, fillA, AV.cells, writeN, readN, sliceCells, appendA, lenA, i64, loA, hiA, hcells_last, hown_last, List.take_zero, List.drop_zero, List.nil_append, List.cons_append, List.append_nil, List.take_nil, List.drop_nil, List.length_cons, List.length_nil, List.length_append, Nat.zero_add, Nat.add_zero, Nat.reduceAdd, Nat.reduceMul, Nat.reduceDiv, Nat.reduceSub, Nat.mul_one, Nat.one_mul, Nat.div_one, Nat.le_refl, Nat.reduceLeDiff, Nat.reduceLT, Int.toNat_natCast, Int.toNat_zero, Nat.zero_le, Int.natCast_nonneg, Int.reduceLE, Int.reduceLT, Option.some.injEq, foldA, maxA, minA, Cell.int.injEq, AV.c.injEq]; rfl) (AW_ret ⟨_, rfl, .inr ⟨h0, _, rfl, ?_⟩⟩)))
    exact .inr ⟨b, bs.length / 4, rfl, by rw [W32_length, tk_length]; omega, by omega, ho⟩
end PK

/- Words taken, contracts of whole functions; and the plain law: what was written is taken back. -/
namespace PK
open Go PAbs
set_option linter.unusedSimpArgs false
set_option linter.unusedVariables false
set_option maxRecDepth 100000

theorem AC_highest (H : AHeap) (q : Nat) (hq : q < 4) : AC A H.length F_words_highest [.c (.int .i64 (q : Int))] H (fun v H' => v = .c (.int .i64 ((3 - q : Nat) : Int)) ∧ H' = H) := by
  have e : IntKind.i64.wrap (3 - (q : Int)) = ((3 - q : Nat) : Int) := by rw [wrap_i64_of (by omega) (by omega)]; omega
  refine AC_enter t_words_highest ?_
  simp only [c_words_highest, enterA, List.replicate, List.length_cons, List.length_nil, Nat.reduceAdd, Nat.reduceSub, List.cons_append, List.nil_append]
  exact AW_seq (AW_run (by simp only [List.take_succ_cons, List.take_zero, List.drop_succ_cons, List.drop_zero, bne_self_eq_false, List.map_cons, List.map_nil, Bool.true_beq, Bool.false_beq, run_nil, run_cons, run_gate, cont_some, gate_true, gate_false, hrun_nil, hrun_cons, hrun_gate, hcont_some, hgate_true, hgate_false, put_some, put_none, ev_t, ev_k, wantedA, execA, stepA, List.set_cons_succ, List.set_cons_zero, List.getD_cons_succ, List.getD_cons_zero, List.getElem?_cons_zero, List.getElem?_cons_succ, if_true, if_false, binA, binInt, unA, eqA, Option.map, eq_self, true_or, or_true, true_and, and_true, and_self, beq_self_eq_true, Bool.not_true, Bool.not_false, reduceCtorEq, Bool.false_eq_true, ite_true, ite_false, fitsAll, CK.fits, decide_true, Bool.and_true, Bool.true_and, fillA, AV.cells, writeN, readN, sliceCells, appendA, lenA, i64, loA, hiA, hcells_last, hown_last, List.take_zero, List.drop_zero, List.nil_append, List.cons_append, List.append_nil, List.take_nil, List.drop_nil, List.length_cons, List.length_nil, List.length_append, Nat.zero_add, Nat.add_zero, Nat.reduceAdd, Nat.reduceMul, Nat.reduceDiv, Nat.reduceSub, Nat.mul_one, Nat.one_mul, Nat.div_one, Nat.le_refl, Nat.reduceLeDiff, Nat.reduceLT, Int.toNat_natCast, Int.toNat_zero, Nat.zero_le, Int.natCast_nonneg, Int.reduceLE, Int.reduceLT, Option.some.injEq, foldA, maxA, minA, Cell.int.injEq, AV.c.injEq]; rfl) (AW_seq (AW_run (by simp only [List.take_succ_cons, List.take_zero, List.drop_succ_cons, List.drop_zero, bne_self_eq_false, List.map_cons, List.map_nil, Bool.true_beq, Bool.false_beq, run_nil, run_cons, run_gate, cont_some, gate_true, gate_false, hrun_nil, hrun_cons, hrun_gate, hcont_some, hgate_true, hgate_false, put_some, put_none, ev_t, ev_k, wantedA, execA, stepA, List.set_cons_succ, List.set_cons_zero, List.getD_cons_succ, List.getD_cons_zero, List.getElem?_cons_zero, List.getElem?_cons_succ, if_true, if_false, binA, binInt, unA, eqA, Option.map, eq_self, true_or, or_true, true_and, and_true, and_self, beq_self_eq_true, Bool.not_true, Bool.not_false, reduceCtorEq, Bool.false_eq_true, ite_true, ite_false, fitsAll, CK.fits, decide_true, Bool.and_true, Bool.true_and, fillA, AV.cells, writeN, readN, sliceCells, appendA, lenA, i64, loA, hiA, hcells_last, hown_last, List.take_zero, List.drop_zero, List.nil_append, List.cons_append, List.append_nil, List.take_nil, List.drop_nil, List.length_cons, List.length_nil, List.length_append, Nat.zero_add, Nat.add_zero, Nat.reduceAdd, Nat.reduceMul, Nat.reduceDiv, Nat.reduceSub, Nat.mul_one, Nat.one_mul, Nat.div_one, Nat.le_refl, Nat.reduceLeDiff, Nat.reduceLT, Int.toNat_natCast, Int.toNat_zero, Nat.zero_le, Int.natCast_nonneg, Int.reduceLE, Int.reduceLT, Option.some.injEq, foldA, maxA, minA, Cell.int.injEq, AV.c.injEq, e]; rfl) (AW_ret ⟨_, rfl, rfl, rfl⟩))))

def Taken (f : Nat) (W : List Nat → List Cell) (k : Nat) (at_ : Nat → Nat) (bs : List Nat) (v : AV) (H : AHeap) : Prop := (bs.length % k ≠ 0 ∧ v = .tup [.c .snil, .c (.int .i64 9)]) ∨ (bs.length % k = 0 ∧ ∃ x, v = .tup [.c x, .c (.int .i64 0)] ∧ Own f H x 1 (W (tk k at_ bs bs.length)))

theorem AC_TakeBig32 (H : AHeap) (y : Cell) (bs : List Nat) (hy : Rd H y 1 (W8 bs)) (hl : bs.length ≤ 1000000) (hbs : ∀ k, bs.getD k 0 < 256) : AC A H.length F_words_TakeBig32 [.c y] H (Taken H.length W32 4 (3 - ·) bs) := by
  refine AC_enter t_words_TakeBig32 ?_
  simp only [c_words_TakeBig32, enterA, List.replicate, List.length_cons, List.length_nil, Nat.reduceAdd, Nat.reduceSub, List.cons_append, List.nil_append]
  refine AW_seq (AW_run (by simp only [List.take_succ_cons, List.take_zero, List.drop_succ_cons, List.drop_zero, bne_self_eq_false, List.map_cons, List.map_nil, Bool.true_beq, Bool.false_beq, run_nil, run_cons, run_gate, cont_some, gate_true, gate_false, hrun_nil, hrun_cons, hrun_gate, hcont_some, hgate_true, hgate_false, put_some, put_none, ev_t, ev_k, wantedA, execA, stepA, List.set_cons_succ, List.set_cons_zero, List.getD_cons_succ, List.getD_cons_zero, List.getElem?_cons_zero, List.getElem?_cons_succ, if_true, if_false, binA, binInt, unA, eqA, Option.map, eq_self, true_or, or_true, true_and, and_true, and_self, beq_self_eq_true, Bool.not_true, Bool.not_false, reduceCtorEq, Bool.false_eq_true, ite_true, ite_false, fitsAll, CK.fits, decide_true, Bool.and_true, Bool.true_and, fillA, AV.cells, writeN, readN, sliceCells, appendA, lenA, i64, loA, hiA, hcells_last, hown_last, List.take_zero, List.drop_zero, List.nil_append, List.cons_append, List.append_nil, List.take_nil, List.drop_nil, List.length_cons, List.length_nil, List.length_append, Nat.zero_add, Nat.add_zero, Nat.reduceAdd, Nat.reduceMul, Nat.reduceDiv, Nat.reduceSub, Nat.mul_one, Nat.one_mul, Nat.div_one, Nat.le_refl, Nat.reduceLeDiff, Nat.reduceLT, Int.toNat_natCast, Int.toNat_zero, Nat.zero_le, Int.natCast_nonneg, Int.reduceLE, Int.reduceLT, Option.some.injEq, foldA, maxA, minA, Cell.int.injEq, AV.c.injEq]; rfl) ?_)
  refine AW_seq (AW_ops (AO_take 1 (by simp only [List.take_succ_cons, List.take_zero, List.drop_succ_cons, List.drop_zero, bne_self_eq_false, List.map_cons, List.map_nil, Bool.true_beq, Bool.false_beq, run_nil, run_cons, run_gate, cont_some, gate_true, gate_false, hrun_nil, hrun_cons, hrun_gate, hcont_some, hgate_true, hgate_false, put_some, put_none, ev_t, ev_k, wantedA, execA, stepA, List.set_cons_succ, List.set_cons_zero, List.getD_cons_succ, List.getD_cons_zero, List.getElem?_cons_zero, List.getElem?_cons_succ, if_true, if_false, binA, binInt, unA, eqA, Option.map, eq_self, true_or, or_true, true_and, and_true, and_self, beq_self_eq_true, Bool.not_true, Bool.not_false, reduceCtorEq, Bool.false_eq_true, ite_true, ite_false, fitsAll, CK.fits, decide_true, Bool.and_true, Bool.true_and, fillA, AV.cells, writeN, readN, sliceCells, appendA, lenA, i64, loA, hiA, hcells_last, hown_last, List.take_zero, List.drop_zero, List.nil_append, List.cons_append, List.append_nil, List.take_nil, List.drop_nil, List.length_cons, List.length_nil, List.length_append, Nat.zero_add, Nat.add_zero, Nat.reduceAdd, Nat.reduceMul, Nat.reduceDiv, Nat.reduceSub, Nat.mul_one, Nat.one_mul, Nat.div_one, Nat.le_refl, Nat.reduceLeDiff, Nat.reduceLT, Int.toNat_natCast, Int.toNat_zero, Nat.zero_le, Int.natCast_nonneg, Int.reduceLE, Int.reduceLT, Option.some.injEq, foldA, maxA, minA, Cell.int.injEq, AV.c.injEq]; rfl) ?_))
  refine AO_call rfl (AC_take H y bs F_words_highest (3 - ·) hy hl hbs (fun q h => by show 3 - q < 4; omega) (fun H q h => AC_highest H q h)) ?_
  rintro v H1 (⟨h, rfl⟩ | ⟨h, x, rfl, hx⟩)
  · exact AO_take 4 (by simp only [List.take_succ_cons, List.take_zero, List.drop_succ_cons, List.drop_zero, bne_self_eq_false, List.map_cons, List.map_nil, Bool.true_beq, Bool.false_beq, run_nil, run_cons, run_gate, cont_some, gate_true, gate_false, hrun_nil, hrun_cons, hrun_gate, hcont_some, hgate_true, hgate_false, put_some, put_none, ev_t, ev_k, wantedA, execA, stepA, List.set_cons_succ, List.set_cons_zero, List.getD_cons_succ, List.getD_cons_zero, List.getElem?_cons_zero, List.getElem?_cons_succ, if_true, if_false, binA, binInt, unA, eqA, Option.map, eq_self, true_or, or_true, true_and, and_true, and_self, beq_self_eq_true, Bool.not_true, Bool.not_false, reduceCtorEq, Bool.false_eq_true, ite_true, ite_false, fitsAll, CK.fits, decide_true, Bool.and_true, Bool.true_and, fillA, AV.cells, writeN, readN, sliceCells, appendA, lenA, i64, loA, hiA, hcells_last, hown_last, List.take_zero, List.drop_zero, List.nil_append, List.cons_append, List.append_nil, List.take_nil, List.drop_nil, List.length_cons, List.length_nil, List.length_append, Nat.zero_add, Nat.add_zero, Nat.reduceAdd, Nat.reduceMul, Nat.reduceDiv, Nat.reduceSub, Nat.mul_one, Nat.one_mul, Nat.div_one, Nat.le_refl, Nat.reduceLeDiff, Nat.reduceLT, Int.toNat_natCast, Int.toNat_zero, Nat.zero_le, Int.natCast_nonneg, Int.reduceLE, Int.reduceLT, Option.some.injEq, foldA, maxA, minA, Cell.int.injEq, AV.c.injEq]; rfl) (AO_nil (AW_ret ⟨_, rfl, .inl ⟨h, rfl⟩⟩))
  · exact AO_take 4 (by simp only [List.take_succ_cons, List.take_zero, List.drop_succ_cons, List.drop_zero, bne_self_eq_false, List.map_cons, List.map_nil, Bool.true_beq, Bool.false_beq, run_nil, run_cons, run_gate, cont_some, gate_true, gate_false, hrun_nil, hrun_cons, hrun_gate, hcont_some, hgate_true, hgate_false, put_some, put_none, ev_t, ev_k, wantedA, execA, stepA, List.set_cons_succ, List.set_cons_zero, List.getD_cons_succ, List.getD_cons_zero, List.getElem?_cons_zero, List.getElem?_cons_succ, if_true, if_false, binA, binInt, unA, eqA, Option.map, eq_self, true_or, or_true, true_and, and_true, and_self, beq_self_eq_true, Bool.not_true, Bool.not_false, reduceCtorEq, Bool.false_eq_true, ite_true, ite_false, fitsAll, CK.fits, decide_true, Bool.and_true, Bool.true_and, fillA, AV.cells, writeN, readN, sliceCells, appendA, lenA, i64, loA, hiA, hcells_last, hown_last, List.take_zero, List.drop_zero, List.nil_append, List.cons_append, List.append_nil, List.take_nil, List.drop_nil, List.length_cons, List.length_nil, List.length_append, Nat.zero_add, Nat.add_zero, Nat.reduceAdd, Nat.reduceMul, Nat.reduceDiv, Nat.reduceSub, Nat.mul_one, Nat.one_mul, Nat.div_one, Nat.le_refl, Nat.reduceLeDiff, Nat.reduceLT, Int.toNat_natCast, Int.toNat_zero, Nat.zero_le, Int.natCast_nonneg, Int.reduceLE, Int.reduceLT, Option.some.injEq, foldA, maxA, minA, Cell.int.injEq, AV.c.injEq]; rfl) (AO_nil (AW_ret ⟨_, rfl, .inr ⟨h, x, rfl, hx⟩⟩))

end PK

/- Package sha as code of the abstract machine. -/
namespace PK
open Go PAbs

noncomputable def c_sha_Compress : AFn := AFn.mk 132 [.cellN 4 8, .tmp 5]
  (.seq (.region
      [⟨some 2, .box (.t 0), none⟩,
        ⟨some 4, .alloc (rep 8 (.int .u32 0)), none⟩,
        ⟨some 5, .mv (.k (.c (.int .i64 0))), none⟩])
  (.seq (.seq (.region
        [⟨some 23, .mv (.t 1), none⟩,
          ⟨some 24, .len false (.t 23), none⟩,
          ⟨some 25, .bin .neq (.t 24) (.k (.c (.int .i64 64))), none⟩])
    (.cond (.t 25)
      (.seq (.region
          [⟨some 26, .build (rep 8 (.int .u32 0)) [], none⟩,
            ⟨none, .store 8 (.t 4) (.t 26), none⟩,
            ⟨some 5, .mv (.k (.c (.int .i64 9))), none⟩])
      (.ret))
      (.skip)))
  (.seq (.region
      [⟨some 27, .mv (.t 1), none⟩,
        ⟨some 28, .call F_sha_spread [.t 27], none⟩,
        ⟨some 29, .call F_sha_constants [], none⟩,
        ⟨some 6, .alloc (rep 64 (.int .u32 0)), none⟩,
        ⟨some 7, .alloc (rep 64 (.int .u32 0)), none⟩,
        ⟨none, .store 64 (.t 6) (.t 28), none⟩,
        ⟨none, .store 64 (.t 7) (.t 29), none⟩])
  (.seq (.draw
      [⟨some 30, .idxArr 8 1 (.t 2) (.k (.c (.int .i64 0))), none⟩,
        ⟨some 31, .load1 (.t 30), none⟩,
        ⟨some 32, .idxArr 8 1 (.t 2) (.k (.c (.int .i64 1))), none⟩,
        ⟨some 33, .load1 (.t 32), none⟩,
        ⟨some 34, .idxArr 8 1 (.t 2) (.k (.c (.int .i64 2))), none⟩,
        ⟨some 35, .load1 (.t 34), none⟩,
        ⟨some 36, .idxArr 8 1 (.t 2) (.k (.c (.int .i64 3))), none⟩,
        ⟨some 37, .load1 (.t 36), none⟩,
        ⟨some 38, .idxArr 8 1 (.t 2) (.k (.c (.int .i64 4))), none⟩,
        ⟨some 39, .load1 (.t 38), none⟩,
        ⟨some 40, .idxArr 8 1 (.t 2) (.k (.c (.int .i64 5))), none⟩,
        ⟨some 41, .load1 (.t 40), none⟩,
        ⟨some 42, .idxArr 8 1 (.t 2) (.k (.c (.int .i64 6))), none⟩,
        ⟨some 43, .load1 (.t 42), none⟩,
        ⟨some 44, .idxArr 8 1 (.t 2) (.k (.c (.int .i64 7))), none⟩,
        ⟨some 45, .load1 (.t 44), none⟩,
        ⟨some 8, .mv (.t 31), none⟩,
        ⟨some 9, .mv (.t 33), none⟩,
        ⟨some 10, .mv (.t 35), none⟩,
        ⟨some 11, .mv (.t 37), none⟩,
        ⟨some 12, .mv (.t 39), none⟩,
        ⟨some 13, .mv (.t 41), none⟩,
        ⟨some 14, .mv (.t 43), none⟩]
      [⟨some 15, .mv (.t 45), none⟩])
  (.seq (.seq (.region
        [⟨some 46, .mv (.k (.c (.int .i64 0))), none⟩])
    (.block 0
      (.loop
        (.seq (.region
            [⟨some 47, .bin .lss (.t 46) (.k (.c (.int .i64 64))), none⟩])
        (.seq (.cond (.t 47)
            (.skip)
            (.exit 0))
        (.seq (.block 1
            (.seq (.region
                [⟨some 48, .mv (.t 46), none⟩,
                  ⟨some 16, .mv (.t 48), none⟩])
            (.seq (.region
                [⟨some 49, .mv (.t 12), none⟩,
                  ⟨some 50, .call F_words_Right32 [.t 49, .k (.c (.int .i64 6))], none⟩,
                  ⟨some 51, .mv (.t 12), none⟩,
                  ⟨some 52, .call F_words_Right32 [.t 51, .k (.c (.int .i64 11))], none⟩,
                  ⟨some 53, .bin .xor (.t 50) (.t 52), none⟩,
                  ⟨some 54, .mv (.t 12), none⟩,
                  ⟨some 55, .call F_words_Right32 [.t 54, .k (.c (.int .i64 25))], none⟩,
                  ⟨some 56, .bin .xor (.t 53) (.t 55), none⟩,
                  ⟨some 17, .mv (.t 56), none⟩])
            (.seq (.draw
                [⟨some 57, .mv (.t 15), none⟩,
                  ⟨some 58, .mv (.t 17), none⟩,
                  ⟨some 59, .bin .add (.t 57) (.t 58), none⟩,
                  ⟨some 60, .mv (.t 12), none⟩,
                  ⟨some 61, .mv (.t 13), none⟩,
                  ⟨some 62, .bin .and (.t 60) (.t 61), none⟩,
                  ⟨some 63, .mv (.t 12), none⟩,
                  ⟨some 64, .un .xor (.t 63), none⟩,
                  ⟨some 65, .mv (.t 14), none⟩,
                  ⟨some 66, .bin .and (.t 64) (.t 65), none⟩,
                  ⟨some 67, .bin .xor (.t 62) (.t 66), none⟩,
                  ⟨some 68, .bin .add (.t 59) (.t 67), none⟩,
                  ⟨some 69, .mv (.t 16), none⟩,
                  ⟨some 70, .idxArr 64 1 (.t 7) (.t 69), none⟩,
                  ⟨some 71, .load1 (.t 70), none⟩,
                  ⟨some 72, .bin .add (.t 68) (.t 71), none⟩,
                  ⟨some 73, .mv (.t 16), none⟩,
                  ⟨some 74, .idxArr 64 1 (.t 6) (.t 73), none⟩,
                  ⟨some 75, .load1 (.t 74), none⟩]
                [⟨some 76, .bin .add (.t 72) (.t 75), none⟩,
                  ⟨some 18, .mv (.t 76), none⟩])
            (.seq (.region
                [⟨some 77, .mv (.t 8), none⟩,
                  ⟨some 78, .call F_words_Right32 [.t 77, .k (.c (.int .i64 2))], none⟩,
                  ⟨some 79, .mv (.t 8), none⟩,
                  ⟨some 80, .call F_words_Right32 [.t 79, .k (.c (.int .i64 13))], none⟩,
                  ⟨some 81, .bin .xor (.t 78) (.t 80), none⟩,
                  ⟨some 82, .mv (.t 8), none⟩,
                  ⟨some 83, .call F_words_Right32 [.t 82, .k (.c (.int .i64 22))], none⟩,
                  ⟨some 84, .bin .xor (.t 81) (.t 83), none⟩,
                  ⟨some 19, .mv (.t 84), none⟩])
            (.seq (.region
                [⟨some 85, .mv (.t 19), none⟩,
                  ⟨some 86, .mv (.t 8), none⟩,
                  ⟨some 87, .mv (.t 9), none⟩,
                  ⟨some 88, .bin .and (.t 86) (.t 87), none⟩,
                  ⟨some 89, .mv (.t 8), none⟩,
                  ⟨some 90, .mv (.t 10), none⟩,
                  ⟨some 91, .bin .and (.t 89) (.t 90), none⟩,
                  ⟨some 92, .bin .xor (.t 88) (.t 91), none⟩,
                  ⟨some 93, .mv (.t 9), none⟩,
                  ⟨some 94, .mv (.t 10), none⟩,
                  ⟨some 95, .bin .and (.t 93) (.t 94), none⟩,
                  ⟨some 96, .bin .xor (.t 92) (.t 95), none⟩,
                  ⟨some 97, .bin .add (.t 85) (.t 96), none⟩,
                  ⟨some 20, .mv (.t 97), none⟩])
            (.region
              [⟨some 98, .mv (.t 14), none⟩,
                ⟨some 99, .mv (.t 13), none⟩,
                ⟨some 100, .mv (.t 12), none⟩,
                ⟨some 101, .mv (.t 11), none⟩,
                ⟨some 102, .mv (.t 18), none⟩,
                ⟨some 103, .bin .add (.t 101) (.t 102), none⟩,
                ⟨some 104, .mv (.t 10), none⟩,
                ⟨some 105, .mv (.t 9), none⟩,
                ⟨some 106, .mv (.t 8), none⟩,
                ⟨some 107, .mv (.t 18), none⟩,
                ⟨some 108, .mv (.t 20), none⟩,
                ⟨some 109, .bin .add (.t 107) (.t 108), none⟩,
                ⟨some 15, .mv (.t 98), none⟩,
                ⟨some 14, .mv (.t 99), none⟩,
                ⟨some 13, .mv (.t 100), none⟩,
                ⟨some 12, .mv (.t 103), none⟩,
                ⟨some 11, .mv (.t 104), none⟩,
                ⟨some 10, .mv (.t 105), none⟩,
                ⟨some 9, .mv (.t 106), none⟩,
                ⟨some 8, .mv (.t 109), none⟩])))))))
        (.region
          [⟨some 110, .bin .add (.t 46) (.k (.c (.int .i64 1))), none⟩,
            ⟨some 46, .mv (.t 110), none⟩])))))))
  (.seq (.seq (.region
        [⟨some 111, .mv (.t 8), none⟩,
          ⟨some 112, .mv (.t 9), none⟩,
          ⟨some 113, .mv (.t 10), none⟩,
          ⟨some 114, .mv (.t 11), none⟩,
          ⟨some 115, .mv (.t 12), none⟩,
          ⟨some 116, .mv (.t 13), none⟩,
          ⟨some 117, .mv (.t 14), none⟩,
          ⟨some 118, .mv (.t 15), none⟩,
          ⟨some 119, .build (rep 8 (.int .u32 0)) [(0, 1, .t 111), (1, 1, .t 112), (2, 1, .t 113), (3, 1, .t 114), (4, 1, .t 115), (5, 1, .t 116), (6, 1, .t 117), (7, 1, .t 118)], none⟩,
          ⟨some 120, .mv (.k (.c (.int .i64 0))), none⟩])
    (.block 2
      (.loop
        (.seq (.region
            [⟨some 121, .bin .lss (.t 120) (.k (.c (.int .i64 8))), none⟩])
        (.seq (.cond (.t 121)
            (.skip)
            (.exit 2))
        (.seq (.block 3
            (.seq (.region
                [⟨some 122, .mv (.t 120), none⟩,
                  ⟨some 123, .elem1 8 (.t 119) (.t 120), none⟩,
                  ⟨some 21, .mv (.t 122), none⟩,
                  ⟨some 22, .mv (.t 123), none⟩])
            (.region
              [⟨some 124, .mv (.t 21), none⟩,
                ⟨some 125, .idxArr 8 1 (.t 2) (.t 124), none⟩,
                ⟨some 126, .load1 (.t 125), none⟩,
                ⟨some 127, .mv (.t 22), none⟩,
                ⟨some 128, .bin .add (.t 126) (.t 127), none⟩,
                ⟨some 129, .idxArr 8 1 (.t 2) (.t 124), none⟩,
                ⟨none, .store 1 (.t 129) (.t 128), none⟩])))
        (.region
          [⟨some 130, .bin .add (.t 120) (.k (.c (.int .i64 1))), none⟩,
            ⟨some 120, .mv (.t 130), none⟩])))))))
  (.seq (.region
      [⟨some 131, .loadN 8 (.t 2), none⟩,
        ⟨none, .store 8 (.t 4) (.t 131), none⟩,
        ⟨some 5, .mv (.k (.c (.int .i64 0))), none⟩])
  (.ret))))))))
theorem t_sha_Compress : A F_sha_Compress = some c_sha_Compress := by kernel_rfl

noncomputable def c_sha_Initial : AFn := AFn.mk 2 [.cellN 0 8]
  (.seq (.region
      [⟨some 0, .alloc (rep 8 (.int .u32 0)), none⟩])
  (.seq (.region
      [⟨some 1, .build (rep 8 (.int .u32 0)) [(0, 1, .k (.c (.int .u32 1779033703))), (1, 1, .k (.c (.int .u32 3144134277))), (2, 1, .k (.c (.int .u32 1013904242))), (3, 1, .k (.c (.int .u32 2773480762))), (4, 1, .k (.c (.int .u32 1359893119))), (5, 1, .k (.c (.int .u32 2600822924))), (6, 1, .k (.c (.int .u32 528734635))), (7, 1, .k (.c (.int .u32 1541459225)))], none⟩,
        ⟨none, .store 8 (.t 0) (.t 1), none⟩])
  (.ret)))
theorem t_sha_Initial : A F_sha_Initial = some c_sha_Initial := by kernel_rfl

noncomputable def c_sha_Of : AFn := AFn.mk 7 [.tmp 2]
  (.seq (.region
      [⟨some 2, .mv (.k (.c (.str []))), none⟩])
  (.seq (.region
      [⟨some 3, .call F_sha_New [], none⟩,
        ⟨some 4, .mv (.t 0), none⟩,
        ⟨some 5, .call F_sha_Hash_Add [.t 3, .t 4], none⟩,
        ⟨some 6, .call F_sha_Hash_Sum [.t 5], none⟩,
        ⟨some 2, .mv (.t 6), none⟩])
  (.ret)))
theorem t_sha_Of : A F_sha_Of = some c_sha_Of := by kernel_rfl

noncomputable def c_sha_Pad : AFn := AFn.mk 27 [.tmp 2]
  (.seq (.region
      [⟨some 2, .mv (.k (.c (.str []))), none⟩])
  (.seq (.seq (.region
        [⟨some 6, .mv (.t 0), none⟩,
          ⟨some 7, .bin .lss (.t 6) (.k (.c (.int .i64 0))), none⟩])
    (.cond (.t 7)
      (.seq (.region
          [⟨some 2, .mv (.k (.c (.str []))), none⟩])
      (.ret))
      (.skip)))
  (.seq (.region
      [⟨some 8, .mv (.t 0), none⟩,
        ⟨some 9, .bin .rem (.t 8) (.k (.c (.int .i64 64))), none⟩,
        ⟨some 10, .bin .sub (.k (.c (.int .i64 119))) (.t 9), none⟩,
        ⟨some 11, .bin .rem (.t 10) (.k (.c (.int .i64 64))), none⟩,
        ⟨some 12, .bin .add (.t 11) (.k (.c (.int .i64 1))), none⟩,
        ⟨some 3, .mv (.t 12), none⟩])
  (.seq (.region
      [⟨some 13, .mv (.t 3), none⟩,
        ⟨some 14, .makeSlice ([.int .u8 0]) 1 (.t 13) (.t 13), none⟩,
        ⟨some 4, .mv (.t 14), none⟩])
  (.seq (.region
      [⟨some 15, .mv (.t 4), none⟩,
        ⟨some 16, .idxSlc 1 (.t 15) (.k (.c (.int .i64 0))), none⟩,
        ⟨none, .store 1 (.t 16) (.k (.c (.int .u8 128))), none⟩])
  (.seq (.region
      [⟨some 17, .mv (.t 0), none⟩,
        ⟨some 18, .convInt .u64 (.t 17), none⟩,
        ⟨some 19, .bin .mul (.t 18) (.k (.c (.int .u64 8))), none⟩,
        ⟨some 5, .mv (.t 19), none⟩])
  (.seq (.region
      [⟨some 20, .mv (.t 4), none⟩,
        ⟨some 21, .mv (.t 5), none⟩,
        ⟨some 22, .buildSlice ([.int .u64 0]) 1 1 [(0, 1, .t 21)], none⟩,
        ⟨some 23, .call F_words_Big64 [.t 22], none⟩,
        ⟨some 24, .append ([.int .u8 0]) 1 (.t 20) (.t 23), none⟩,
        ⟨some 4, .mv (.t 24), none⟩])
  (.seq (.region
      [⟨some 25, .mv (.t 4), none⟩,
        ⟨some 26, .bytesStr (.t 25), none⟩,
        ⟨some 2, .mv (.t 26), none⟩])
  (.ret)))))))))
theorem t_sha_Pad : A F_sha_Pad = some c_sha_Pad := by kernel_rfl

noncomputable def c_sha_Hash_Sum : AFn := AFn.mk 23 [.tmp 2]
  (.seq (.region
      [⟨some 2, .mv (.k (.c (.str []))), none⟩])
  (.seq (.seq (.region
        [⟨some 4, .mv (.t 0), none⟩,
          ⟨some 5, .eq false .ptr (.t 4) (.k (.c (.pnil))), none⟩])
    (.cond (.t 5)
      (.seq (.region
          [⟨some 2, .mv (.k (.c (.str []))), none⟩])
      (.ret))
      (.skip)))
  (.seq (.region
      [⟨some 6, .mv (.t 0), none⟩,
        ⟨some 7, .call F_sha_Hash_Clone [.t 6], none⟩,
        ⟨some 3, .mv (.t 7), none⟩])
  (.seq (.region
      [⟨some 8, .mv (.t 3), none⟩,
        ⟨some 9, .mv (.t 0), none⟩,
        ⟨some 10, .nilCheck (.t 9), none⟩,
        ⟨some 11, .fieldAddr 0 (.t 10), none⟩,
        ⟨some 12, .load1 (.t 11), none⟩,
        ⟨some 13, .call F_feed_Feed_Total [.t 12], none⟩,
        ⟨some 14, .call F_sha_Pad [.t 13], none⟩,
        ⟨some 15, .buildSlice ([.str []]) 1 1 [(0, 1, .t 14)], none⟩,
        ⟨some 16, .call F_sha_Hash_Add [.t 8, .t 15], none⟩])
  (.seq (.region
      [⟨some 17, .mv (.t 3), none⟩,
        ⟨some 18, .nilCheck (.t 17), none⟩,
        ⟨some 19, .fieldAddr 1 (.t 18), none⟩,
        ⟨some 20, .sliceArr 8 1 (.t 19) none none, none⟩,
        ⟨some 21, .call F_words_Big32 [.t 20], none⟩,
        ⟨some 22, .bytesStr (.t 21), none⟩,
        ⟨some 2, .mv (.t 22), none⟩])
  (.ret))))))
theorem t_sha_Hash_Sum : A F_sha_Hash_Sum = some c_sha_Hash_Sum := by kernel_rfl

noncomputable def c_sha_Hash_Add : AFn := AFn.mk 34 [.tmp 4]
  (.seq (.region
      [⟨some 4, .mv (.k (.c (.pnil))), none⟩])
  (.seq (.seq (.region
        [⟨some 7, .mv (.t 0), none⟩,
          ⟨some 8, .eq false .ptr (.t 7) (.k (.c (.pnil))), none⟩])
    (.cond (.t 8)
      (.seq (.region
          [⟨some 4, .mv (.k (.c (.pnil))), none⟩])
      (.ret))
      (.skip)))
  (.seq (.seq (.region
        [⟨some 9, .mv (.t 0), none⟩,
          ⟨some 10, .nilCheck (.t 9), none⟩,
          ⟨some 11, .fieldAddr 0 (.t 10), none⟩,
          ⟨some 12, .load1 (.t 11), none⟩,
          ⟨some 13, .mv (.t 1), none⟩,
          ⟨some 14, .call F_feed_Feed_Put [.t 12, .t 13], none⟩,
          ⟨some 15, .len false (.t 14), none⟩,
          ⟨some 16, .mv (.k (.c (.int .i64 0))), none⟩])
    (.block 0
      (.loop
        (.seq (.region
            [⟨some 17, .bin .lss (.t 16) (.t 15), none⟩])
        (.seq (.cond (.t 17)
            (.skip)
            (.exit 0))
        (.seq (.block 1
            (.seq (.region
                [⟨some 18, .idxSlc 1 (.t 14) (.t 16), none⟩,
                  ⟨some 19, .load1 (.t 18), none⟩,
                  ⟨some 6, .mv (.t 19), none⟩])
            (.region
              [⟨some 21, .mv (.t 0), none⟩,
                ⟨some 22, .mv (.t 0), none⟩,
                ⟨some 23, .nilCheck (.t 22), none⟩,
                ⟨some 24, .fieldAddr 1 (.t 23), none⟩,
                ⟨some 25, .loadN 8 (.t 24), none⟩,
                ⟨some 26, .mv (.t 6), none⟩,
                ⟨some 27, .call F_sha_Compress [.t 25, .t 26], none⟩,
                ⟨some 20, .mv (.t 27), none⟩,
                ⟨some 28, .extract (.t 20) 0, none⟩,
                ⟨some 29, .extract (.t 20) 1, none⟩,
                ⟨some 30, .nilCheck (.t 21), none⟩,
                ⟨some 31, .fieldAddr 1 (.t 30), none⟩,
                ⟨none, .store 8 (.t 31) (.t 28), none⟩])))
        (.region
          [⟨some 32, .bin .add (.t 16) (.k (.c (.int .i64 1))), none⟩,
            ⟨some 16, .mv (.t 32), none⟩])))))))
  (.seq (.region
      [⟨some 33, .mv (.t 0), none⟩,
        ⟨some 4, .mv (.t 33), none⟩])
  (.ret)))))
theorem t_sha_Hash_Add : A F_sha_Hash_Add = some c_sha_Hash_Add := by kernel_rfl

noncomputable def c_sha_Hash_Clone : AFn := AFn.mk 16 [.tmp 2]
  (.seq (.region
      [⟨some 2, .mv (.k (.c (.pnil))), none⟩])
  (.seq (.seq (.region
        [⟨some 3, .mv (.t 0), none⟩,
          ⟨some 4, .eq false .ptr (.t 3) (.k (.c (.pnil))), none⟩])
    (.cond (.t 4)
      (.seq (.region
          [⟨some 2, .mv (.k (.c (.pnil))), none⟩])
      (.ret))
      (.skip)))
  (.seq (.draw
      [⟨some 5, .mv (.t 0), none⟩,
        ⟨some 6, .nilCheck (.t 5), none⟩,
        ⟨some 7, .fieldAddr 0 (.t 6), none⟩,
        ⟨some 8, .load1 (.t 7), none⟩,
        ⟨some 9, .call F_feed_Feed_Copy [.t 8], none⟩,
        ⟨some 10, .mv (.t 0), none⟩,
        ⟨some 11, .nilCheck (.t 10), none⟩,
        ⟨some 12, .fieldAddr 1 (.t 11), none⟩,
        ⟨some 13, .loadN 8 (.t 12), none⟩]
      [⟨some 14, .build ([.pnil, .int .u32 0, .int .u32 0, .int .u32 0, .int .u32 0, .int .u32 0, .int .u32 0, .int .u32 0, .int .u32 0]) [(0, 1, .t 9), (1, 8, .t 13)], none⟩,
        ⟨some 15, .box (.t 14), none⟩,
        ⟨some 2, .mv (.t 15), none⟩])
  (.ret))))
theorem t_sha_Hash_Clone : A F_sha_Hash_Clone = some c_sha_Hash_Clone := by kernel_rfl

noncomputable def c_sha_New : AFn := AFn.mk 11 [.tmp 0]
  (.seq (.region
      [⟨some 0, .mv (.k (.c (.pnil))), none⟩])
  (.seq (.region
      [⟨some 4, .call F_feed_New [.k (.c (.int .i64 64)), .k (.c (.bool false))], none⟩,
        ⟨some 3, .mv (.t 4), none⟩,
        ⟨some 5, .extract (.t 3) 0, none⟩,
        ⟨some 6, .extract (.t 3) 1, none⟩,
        ⟨some 1, .mv (.t 5), none⟩,
        ⟨some 2, .mv (.t 6), none⟩])
  (.seq (.region
      [⟨some 7, .mv (.t 1), none⟩,
        ⟨some 8, .call F_sha_Initial [], none⟩,
        ⟨some 9, .build ([.pnil, .int .u32 0, .int .u32 0, .int .u32 0, .int .u32 0, .int .u32 0, .int .u32 0, .int .u32 0, .int .u32 0]) [(0, 1, .t 7), (1, 8, .t 8)], none⟩,
        ⟨some 10, .box (.t 9), none⟩,
        ⟨some 0, .mv (.t 10), none⟩])
  (.ret))))
theorem t_sha_New : A F_sha_New = some c_sha_New := by kernel_rfl

noncomputable def c_sha_spread : AFn := AFn.mk 63 [.cellN 2 64]
  (.seq (.region
      [⟨some 2, .alloc (rep 64 (.int .u32 0)), none⟩])
  (.seq (.region
      [⟨some 3, .alloc (rep 64 (.int .u32 0)), none⟩])
  (.seq (.region
      [⟨some 12, .mv (.t 0), none⟩,
        ⟨some 13, .call F_words_TakeBig32 [.t 12], none⟩,
        ⟨some 11, .mv (.t 13), none⟩,
        ⟨some 14, .extract (.t 11) 0, none⟩,
        ⟨some 15, .extract (.t 11) 1, none⟩,
        ⟨some 4, .mv (.t 14), none⟩,
        ⟨some 5, .mv (.t 15), none⟩])
  (.seq (.region
      [⟨some 16, .sliceArr 64 1 (.t 3) none (some (.k (.c (.int .i64 16)))), none⟩,
        ⟨some 17, .mv (.t 4), none⟩,
        ⟨some 18, .copy 1 (.t 16) (.t 17), none⟩])
  (.seq (.seq (.region
        [⟨some 6, .mv (.k (.c (.int .i64 16))), none⟩])
    (.block 0
      (.loop
        (.seq (.seq (.region
              [⟨some 19, .mv (.t 6), none⟩,
                ⟨some 20, .bin .lss (.t 19) (.k (.c (.int .i64 64))), none⟩])
          (.cond (.t 20)
            (.skip)
            (.exit 0)))
        (.seq (.block 1
            (.seq (.draw
                [⟨some 23, .mv (.t 6), none⟩,
                  ⟨some 24, .bin .sub (.t 23) (.k (.c (.int .i64 15))), none⟩,
                  ⟨some 25, .idxArr 64 1 (.t 3) (.t 24), none⟩,
                  ⟨some 26, .load1 (.t 25), none⟩,
                  ⟨some 27, .mv (.t 6), none⟩,
                  ⟨some 28, .bin .sub (.t 27) (.k (.c (.int .i64 2))), none⟩,
                  ⟨some 29, .idxArr 64 1 (.t 3) (.t 28), none⟩,
                  ⟨some 30, .load1 (.t 29), none⟩,
                  ⟨some 7, .mv (.t 26), none⟩]
                [⟨some 8, .mv (.t 30), none⟩])
            (.seq (.region
                [⟨some 31, .mv (.t 7), none⟩,
                  ⟨some 32, .call F_words_Right32 [.t 31, .k (.c (.int .i64 7))], none⟩,
                  ⟨some 33, .mv (.t 7), none⟩,
                  ⟨some 34, .call F_words_Right32 [.t 33, .k (.c (.int .i64 18))], none⟩,
                  ⟨some 35, .bin .xor (.t 32) (.t 34), none⟩,
                  ⟨some 36, .mv (.t 7), none⟩,
                  ⟨some 37, .bin .shr (.t 36) (.k (.c (.int .u64 3))), none⟩,
                  ⟨some 38, .bin .xor (.t 35) (.t 37), none⟩,
                  ⟨some 9, .mv (.t 38), none⟩])
            (.seq (.region
                [⟨some 39, .mv (.t 8), none⟩,
                  ⟨some 40, .call F_words_Right32 [.t 39, .k (.c (.int .i64 17))], none⟩,
                  ⟨some 41, .mv (.t 8), none⟩,
                  ⟨some 42, .call F_words_Right32 [.t 41, .k (.c (.int .i64 19))], none⟩,
                  ⟨some 43, .bin .xor (.t 40) (.t 42), none⟩,
                  ⟨some 44, .mv (.t 8), none⟩,
                  ⟨some 45, .bin .shr (.t 44) (.k (.c (.int .u64 10))), none⟩,
                  ⟨some 46, .bin .xor (.t 43) (.t 45), none⟩,
                  ⟨some 10, .mv (.t 46), none⟩])
            (.draw
              [⟨some 47, .mv (.t 6), none⟩,
                ⟨some 48, .mv (.t 6), none⟩,
                ⟨some 49, .bin .sub (.t 48) (.k (.c (.int .i64 16))), none⟩,
                ⟨some 50, .idxArr 64 1 (.t 3) (.t 49), none⟩,
                ⟨some 51, .load1 (.t 50), none⟩,
                ⟨some 52, .mv (.t 9), none⟩,
                ⟨some 53, .bin .add (.t 51) (.t 52), none⟩,
                ⟨some 54, .mv (.t 6), none⟩,
                ⟨some 55, .bin .sub (.t 54) (.k (.c (.int .i64 7))), none⟩,
                ⟨some 56, .idxArr 64 1 (.t 3) (.t 55), none⟩,
                ⟨some 57, .load1 (.t 56), none⟩,
                ⟨some 58, .bin .add (.t 53) (.t 57), none⟩,
                ⟨some 59, .mv (.t 10), none⟩,
                ⟨some 60, .bin .add (.t 58) (.t 59), none⟩]
              [⟨some 61, .idxArr 64 1 (.t 3) (.t 47), none⟩,
                ⟨none, .store 1 (.t 61) (.t 60), none⟩])))))
        (.region
          [⟨some 21, .mv (.t 6), none⟩,
            ⟨some 22, .bin .add (.t 21) (.k (.c (.int .i64 1))), none⟩,
            ⟨some 6, .mv (.t 22), none⟩]))))))
  (.seq (.region
      [⟨some 62, .loadN 64 (.t 3), none⟩,
        ⟨none, .store 64 (.t 2) (.t 62), none⟩])
  (.ret)))))))
theorem t_sha_spread : A F_sha_spread = some c_sha_spread := by kernel_rfl

noncomputable def c_sha_constants : AFn := AFn.mk 2 [.cellN 0 64]
  (.seq (.region
      [⟨some 0, .alloc (rep 64 (.int .u32 0)), none⟩])
  (.seq (.region
      [⟨some 1, .build (rep 64 (.int .u32 0)) [(0, 1, .k (.c (.int .u32 1116352408))), (1, 1, .k (.c (.int .u32 1899447441))), (2, 1, .k (.c (.int .u32 3049323471))), (3, 1, .k (.c (.int .u32 3921009573))), (4, 1, .k (.c (.int .u32 961987163))), (5, 1, .k (.c (.int .u32 1508970993))), (6, 1, .k (.c (.int .u32 2453635748))), (7, 1, .k (.c (.int .u32 2870763221))), (8, 1, .k (.c (.int .u32 3624381080))), (9, 1, .k (.c (.int .u32 310598401))), (10, 1, .k (.c (.int .u32 607225278))), (11, 1, .k (.c (.int .u32 1426881987))), (12, 1, .k (.c (.int .u32 1925078388))), (13, 1, .k (.c (.int .u32 2162078206))), (14, 1, .k (.c (.int .u32 2614888103))), (15, 1, .k (.c (.int .u32 3248222580))), (16, 1, .k (.c (.int .u32 3835390401))), (17, 1, .k (.c (.int .u32 4022224774))), (18, 1, .k (.c (.int .u32 264347078))), (19, 1, .k (.c (.int .u32 604807628))), (20, 1, .k (.c (.int .u32 770255983))), (21, 1, .k (.c (.int .u32 1249150122))), (22, 1, .k (.c (.int .u32 1555081692))), (23, 1, .k (.c (.int .u32 1996064986))), (24, 1, .k (.c (.int .u32 2554220882))), (25, 1, .k (.c (.int .u32 2821834349))), (26, 1, .k (.c (.int .u32 2952996808))), (27, 1, .k (.c (.int .u32 3210313671))), (28, 1, .k (.c (.int .u32 3336571891))), (29, 1, .k (.c (.int .u32 3584528711))), (30, 1, .k (.c (.int .u32 113926993))), (31, 1, .k (.c (.int .u32 338241895))), (32, 1, .k (.c (.int .u32 666307205))), (33, 1, .k (.c (.int .u32 773529912))), (34, 1, .k (.c (.int .u32 1294757372))), (35, 1, .k (.c (.int .u32 1396182291))), (36, 1, .k (.c (.int .u32 1695183700))), (37, 1, .k (.c (.int .u32 1986661051))), (38, 1, .k (.c (.int .u32 2177026350))), (39, 1, .k (.c (.int .u32 2456956037))), (40, 1, .k (.c (.int .u32 2730485921))), (41, 1, .k (.c (.int .u32 2820302411))), (42, 1, .k (.c (.int .u32 3259730800))), (43, 1, .k (.c (.int .u32 3345764771))), (44, 1, .k (.c (.int .u32 3516065817))), (45, 1, .k (.c (.int .u32 3600352804))), (46, 1, .k (.c (.int .u32 4094571909))), (47, 1, .k (.c (.int .u32 275423344))), (48, 1, .k (.c (.int .u32 430227734))), (49, 1, .k (.c (.int .u32 506948616))), (50, 1, .k (.c (.int .u32 659060556))), (51, 1, .k (.c (.int .u32 883997877))), (52, 1, .k (.c (.int .u32 958139571))), (53, 1, .k (.c (.int .u32 1322822218))), (54, 1, .k (.c (.int .u32 1537002063))), (55, 1, .k (.c (.int .u32 1747873779))), (56, 1, .k (.c (.int .u32 1955562222))), (57, 1, .k (.c (.int .u32 2024104815))), (58, 1, .k (.c (.int .u32 2227730452))), (59, 1, .k (.c (.int .u32 2361852424))), (60, 1, .k (.c (.int .u32 2428436474))), (61, 1, .k (.c (.int .u32 2756734187))), (62, 1, .k (.c (.int .u32 3204031479))), (63, 1, .k (.c (.int .u32 3329325298)))], none⟩,
        ⟨none, .store 64 (.t 0) (.t 1), none⟩])
  (.ret)))
theorem t_sha_constants : A F_sha_constants = some c_sha_constants := by kernel_rfl
end PK

/- Package pestleref05 as code of the abstract machine. -/
namespace PK
open Go PAbs

noncomputable def c_pestleref05_Known : AFn := AFn.mk 4 [.cellN 0 72]
  (.seq (.region
      [⟨some 0, .alloc (rep 72 (.int .u32 0)), none⟩])
  (.seq (.region
      [⟨some 1, .build (rep 64 (.int .u32 0)) [(0, 1, .k (.c (.int .u32 1116352408))), (1, 1, .k (.c (.int .u32 1899447441))), (2, 1, .k (.c (.int .u32 3049323471))), (3, 1, .k (.c (.int .u32 3921009573))), (4, 1, .k (.c (.int .u32 961987163))), (5, 1, .k (.c (.int .u32 1508970993))), (6, 1, .k (.c (.int .u32 2453635748))), (7, 1, .k (.c (.int .u32 2870763221))), (8, 1, .k (.c (.int .u32 3624381080))), (9, 1, .k (.c (.int .u32 310598401))), (10, 1, .k (.c (.int .u32 607225278))), (11, 1, .k (.c (.int .u32 1426881987))), (12, 1, .k (.c (.int .u32 1925078388))), (13, 1, .k (.c (.int .u32 2162078206))), (14, 1, .k (.c (.int .u32 2614888103))), (15, 1, .k (.c (.int .u32 3248222580))), (16, 1, .k (.c (.int .u32 3835390401))), (17, 1, .k (.c (.int .u32 4022224774))), (18, 1, .k (.c (.int .u32 264347078))), (19, 1, .k (.c (.int .u32 604807628))), (20, 1, .k (.c (.int .u32 770255983))), (21, 1, .k (.c (.int .u32 1249150122))), (22, 1, .k (.c (.int .u32 1555081692))), (23, 1, .k (.c (.int .u32 1996064986))), (24, 1, .k (.c (.int .u32 2554220882))), (25, 1, .k (.c (.int .u32 2821834349))), (26, 1, .k (.c (.int .u32 2952996808))), (27, 1, .k (.c (.int .u32 3210313671))), (28, 1, .k (.c (.int .u32 3336571891))), (29, 1, .k (.c (.int .u32 3584528711))), (30, 1, .k (.c (.int .u32 113926993))), (31, 1, .k (.c (.int .u32 338241895))), (32, 1, .k (.c (.int .u32 666307205))), (33, 1, .k (.c (.int .u32 773529912))), (34, 1, .k (.c (.int .u32 1294757372))), (35, 1, .k (.c (.int .u32 1396182291))), (36, 1, .k (.c (.int .u32 1695183700))), (37, 1, .k (.c (.int .u32 1986661051))), (38, 1, .k (.c (.int .u32 2177026350))), (39, 1, .k (.c (.int .u32 2456956037))), (40, 1, .k (.c (.int .u32 2730485921))), (41, 1, .k (.c (.int .u32 2820302411))), (42, 1, .k (.c (.int .u32 3259730800))), (43, 1, .k (.c (.int .u32 3345764771))), (44, 1, .k (.c (.int .u32 3516065817))), (45, 1, .k (.c (.int .u32 3600352804))), (46, 1, .k (.c (.int .u32 4094571909))), (47, 1, .k (.c (.int .u32 275423344))), (48, 1, .k (.c (.int .u32 430227734))), (49, 1, .k (.c (.int .u32 506948616))), (50, 1, .k (.c (.int .u32 659060556))), (51, 1, .k (.c (.int .u32 883997877))), (52, 1, .k (.c (.int .u32 958139571))), (53, 1, .k (.c (.int .u32 1322822218))), (54, 1, .k (.c (.int .u32 1537002063))), (55, 1, .k (.c (.int .u32 1747873779))), (56, 1, .k (.c (.int .u32 1955562222))), (57, 1, .k (.c (.int .u32 2024104815))), (58, 1, .k (.c (.int .u32 2227730452))), (59, 1, .k (.c (.int .u32 2361852424))), (60, 1, .k (.c (.int .u32 2428436474))), (61, 1, .k (.c (.int .u32 2756734187))), (62, 1, .k (.c (.int .u32 3204031479))), (63, 1, .k (.c (.int .u32 3329325298)))], none⟩,
        ⟨some 2, .build (rep 8 (.int .u32 0)) [(0, 1, .k (.c (.int .u32 1779033703))), (1, 1, .k (.c (.int .u32 3144134277))), (2, 1, .k (.c (.int .u32 1013904242))), (3, 1, .k (.c (.int .u32 2773480762))), (4, 1, .k (.c (.int .u32 1359893119))), (5, 1, .k (.c (.int .u32 2600822924))), (6, 1, .k (.c (.int .u32 528734635))), (7, 1, .k (.c (.int .u32 1541459225)))], none⟩,
        ⟨some 3, .build (rep 72 (.int .u32 0)) [(0, 64, .t 1), (64, 8, .t 2)], none⟩,
        ⟨none, .store 72 (.t 0) (.t 3), none⟩])
  (.ret)))
theorem t_pestleref05_Known : A F_pestleref05_Known = some c_pestleref05_Known := by kernel_rfl

noncomputable def c_pestleref05_Compress : AFn := AFn.mk 119 [.cellN 6 8]
  (.seq (.region
      [⟨some 3, .box (.t 0), none⟩,
        ⟨some 4, .box (.t 1), none⟩,
        ⟨some 6, .alloc (rep 8 (.int .u32 0)), none⟩])
  (.seq (.region
      [⟨some 18, .mv (.t 2), none⟩,
        ⟨some 19, .call F_pestleref05_spread [.t 18], none⟩,
        ⟨some 7, .alloc (rep 64 (.int .u32 0)), none⟩,
        ⟨none, .store 64 (.t 7) (.t 19), none⟩])
  (.seq (.region
      [⟨some 20, .loadN 8 (.t 4), none⟩,
        ⟨some 8, .alloc (rep 8 (.int .u32 0)), none⟩,
        ⟨none, .store 8 (.t 8) (.t 20), none⟩])
  (.seq (.seq (.region
        [⟨some 9, .mv (.k (.c (.int .i64 0))), none⟩])
    (.block 0
      (.loop
        (.seq (.seq (.region
              [⟨some 21, .mv (.t 9), none⟩,
                ⟨some 22, .bin .lss (.t 21) (.k (.c (.int .i64 64))), none⟩])
          (.cond (.t 22)
            (.skip)
            (.exit 0)))
        (.seq (.block 1
            (.seq (.region
                [⟨some 25, .idxArr 8 1 (.t 8) (.k (.c (.int .i64 4))), none⟩,
                  ⟨some 26, .load1 (.t 25), none⟩,
                  ⟨some 10, .mv (.t 26), none⟩])
            (.seq (.region
                [⟨some 27, .mv (.t 10), none⟩,
                  ⟨some 28, .idxArr 8 1 (.t 8) (.k (.c (.int .i64 5))), none⟩,
                  ⟨some 29, .load1 (.t 28), none⟩,
                  ⟨some 30, .bin .and (.t 27) (.t 29), none⟩,
                  ⟨some 31, .mv (.t 10), none⟩,
                  ⟨some 32, .bin .sub (.k (.c (.int .u32 4294967295))) (.t 31), none⟩,
                  ⟨some 33, .idxArr 8 1 (.t 8) (.k (.c (.int .i64 6))), none⟩,
                  ⟨some 34, .load1 (.t 33), none⟩,
                  ⟨some 35, .bin .and (.t 32) (.t 34), none⟩,
                  ⟨some 36, .bin .xor (.t 30) (.t 35), none⟩,
                  ⟨some 11, .mv (.t 36), none⟩])
            (.seq (.draw
                [⟨some 37, .idxArr 8 1 (.t 8) (.k (.c (.int .i64 7))), none⟩,
                  ⟨some 38, .load1 (.t 37), none⟩,
                  ⟨some 39, .mv (.t 10), none⟩,
                  ⟨some 40, .call F_pestleref05_right [.t 39, .k (.c (.int .i64 6))], none⟩,
                  ⟨some 41, .mv (.t 10), none⟩,
                  ⟨some 42, .call F_pestleref05_right [.t 41, .k (.c (.int .i64 11))], none⟩,
                  ⟨some 43, .bin .xor (.t 40) (.t 42), none⟩,
                  ⟨some 44, .mv (.t 10), none⟩,
                  ⟨some 45, .call F_pestleref05_right [.t 44, .k (.c (.int .i64 25))], none⟩,
                  ⟨some 46, .bin .xor (.t 43) (.t 45), none⟩,
                  ⟨some 47, .bin .add (.t 38) (.t 46), none⟩,
                  ⟨some 48, .mv (.t 11), none⟩,
                  ⟨some 49, .bin .add (.t 47) (.t 48), none⟩,
                  ⟨some 50, .mv (.t 9), none⟩,
                  ⟨some 51, .fieldAddr 0 (.t 3), none⟩,
                  ⟨some 52, .idxArr 64 1 (.t 51) (.t 50), none⟩,
                  ⟨some 53, .load1 (.t 52), none⟩,
                  ⟨some 54, .bin .add (.t 49) (.t 53), none⟩,
                  ⟨some 55, .mv (.t 9), none⟩,
                  ⟨some 56, .idxArr 64 1 (.t 7) (.t 55), none⟩,
                  ⟨some 57, .load1 (.t 56), none⟩]
                [⟨some 58, .bin .add (.t 54) (.t 57), none⟩,
                  ⟨some 12, .mv (.t 58), none⟩])
            (.seq (.region
                [⟨some 59, .idxArr 8 1 (.t 8) (.k (.c (.int .i64 0))), none⟩,
                  ⟨some 60, .load1 (.t 59), none⟩,
                  ⟨some 13, .mv (.t 60), none⟩])
            (.seq (.region
                [⟨some 61, .mv (.t 13), none⟩,
                  ⟨some 62, .idxArr 8 1 (.t 8) (.k (.c (.int .i64 1))), none⟩,
                  ⟨some 63, .load1 (.t 62), none⟩,
                  ⟨some 64, .bin .and (.t 61) (.t 63), none⟩,
                  ⟨some 65, .mv (.t 13), none⟩,
                  ⟨some 66, .idxArr 8 1 (.t 8) (.k (.c (.int .i64 2))), none⟩,
                  ⟨some 67, .load1 (.t 66), none⟩,
                  ⟨some 68, .bin .and (.t 65) (.t 67), none⟩,
                  ⟨some 69, .bin .xor (.t 64) (.t 68), none⟩,
                  ⟨some 70, .idxArr 8 1 (.t 8) (.k (.c (.int .i64 1))), none⟩,
                  ⟨some 71, .load1 (.t 70), none⟩,
                  ⟨some 72, .idxArr 8 1 (.t 8) (.k (.c (.int .i64 2))), none⟩,
                  ⟨some 73, .load1 (.t 72), none⟩,
                  ⟨some 74, .bin .and (.t 71) (.t 73), none⟩,
                  ⟨some 75, .bin .xor (.t 69) (.t 74), none⟩,
                  ⟨some 14, .mv (.t 75), none⟩])
            (.seq (.region
                [⟨some 76, .mv (.t 13), none⟩,
                  ⟨some 77, .call F_pestleref05_right [.t 76, .k (.c (.int .i64 2))], none⟩,
                  ⟨some 78, .mv (.t 13), none⟩,
                  ⟨some 79, .call F_pestleref05_right [.t 78, .k (.c (.int .i64 13))], none⟩,
                  ⟨some 80, .bin .xor (.t 77) (.t 79), none⟩,
                  ⟨some 81, .mv (.t 13), none⟩,
                  ⟨some 82, .call F_pestleref05_right [.t 81, .k (.c (.int .i64 22))], none⟩,
                  ⟨some 83, .bin .xor (.t 80) (.t 82), none⟩,
                  ⟨some 84, .mv (.t 14), none⟩,
                  ⟨some 85, .bin .add (.t 83) (.t 84), none⟩,
                  ⟨some 15, .mv (.t 85), none⟩])
            (.seq (.seq (.region
                  [⟨some 16, .mv (.k (.c (.int .i64 7))), none⟩])
              (.block 2
                (.loop
                  (.seq (.seq (.region
                        [⟨some 86, .mv (.t 16), none⟩,
                          ⟨some 87, .bin .gtr (.t 86) (.k (.c (.int .i64 0))), none⟩])
                    (.cond (.t 87)
                      (.skip)
                      (.exit 2)))
                  (.seq (.block 3
                      (.region
                        [⟨some 90, .mv (.t 16), none⟩,
                          ⟨some 91, .mv (.t 16), none⟩,
                          ⟨some 92, .bin .sub (.t 91) (.k (.c (.int .i64 1))), none⟩,
                          ⟨some 93, .idxArr 8 1 (.t 8) (.t 92), none⟩,
                          ⟨some 94, .load1 (.t 93), none⟩,
                          ⟨some 95, .idxArr 8 1 (.t 8) (.t 90), none⟩,
                          ⟨none, .store 1 (.t 95) (.t 94), none⟩]))
                  (.region
                    [⟨some 88, .mv (.t 16), none⟩,
                      ⟨some 89, .bin .sub (.t 88) (.k (.c (.int .i64 1))), none⟩,
                      ⟨some 16, .mv (.t 89), none⟩]))))))
            (.seq (.region
                [⟨some 96, .idxArr 8 1 (.t 8) (.k (.c (.int .i64 4))), none⟩,
                  ⟨some 97, .load1 (.t 96), none⟩,
                  ⟨some 98, .mv (.t 12), none⟩,
                  ⟨some 99, .bin .add (.t 97) (.t 98), none⟩,
                  ⟨some 100, .idxArr 8 1 (.t 8) (.k (.c (.int .i64 4))), none⟩,
                  ⟨none, .store 1 (.t 100) (.t 99), none⟩])
            (.region
              [⟨some 101, .mv (.t 12), none⟩,
                ⟨some 102, .mv (.t 15), none⟩,
                ⟨some 103, .bin .add (.t 101) (.t 102), none⟩,
                ⟨some 104, .idxArr 8 1 (.t 8) (.k (.c (.int .i64 0))), none⟩,
                ⟨none, .store 1 (.t 104) (.t 103), none⟩]))))))))))
        (.region
          [⟨some 23, .mv (.t 9), none⟩,
            ⟨some 24, .bin .add (.t 23) (.k (.c (.int .i64 1))), none⟩,
            ⟨some 9, .mv (.t 24), none⟩]))))))
  (.seq (.seq (.region
        [⟨some 17, .mv (.k (.c (.int .i64 0))), none⟩])
    (.block 4
      (.loop
        (.seq (.seq (.region
              [⟨some 105, .mv (.t 17), none⟩,
                ⟨some 106, .bin .lss (.t 105) (.k (.c (.int .i64 8))), none⟩])
          (.cond (.t 106)
            (.skip)
            (.exit 4)))
        (.seq (.block 5
            (.draw
              [⟨some 109, .mv (.t 17), none⟩,
                ⟨some 110, .mv (.t 17), none⟩,
                ⟨some 111, .idxArr 8 1 (.t 8) (.t 110), none⟩,
                ⟨some 112, .load1 (.t 111), none⟩,
                ⟨some 113, .mv (.t 17), none⟩,
                ⟨some 114, .idxArr 8 1 (.t 4) (.t 113), none⟩,
                ⟨some 115, .load1 (.t 114), none⟩,
                ⟨some 116, .bin .add (.t 112) (.t 115), none⟩]
              [⟨some 117, .idxArr 8 1 (.t 8) (.t 109), none⟩,
                ⟨none, .store 1 (.t 117) (.t 116), none⟩]))
        (.region
          [⟨some 107, .mv (.t 17), none⟩,
            ⟨some 108, .bin .add (.t 107) (.k (.c (.int .i64 1))), none⟩,
            ⟨some 17, .mv (.t 108), none⟩]))))))
  (.seq (.region
      [⟨some 118, .loadN 8 (.t 8), none⟩,
        ⟨none, .store 8 (.t 6) (.t 118), none⟩])
  (.ret)))))))
theorem t_pestleref05_Compress : A F_pestleref05_Compress = some c_pestleref05_Compress := by kernel_rfl

noncomputable def c_pestleref05_Sum : AFn := AFn.mk 44 [.tmp 4]
  (.seq (.region
      [⟨some 2, .box (.t 0), none⟩,
        ⟨some 4, .mv (.k (.c (.str []))), none⟩])
  (.seq (.region
      [⟨some 10, .mv (.t 1), none⟩,
        ⟨some 11, .mv (.t 1), none⟩,
        ⟨some 12, .len true (.t 11), none⟩,
        ⟨some 13, .call F_pestleref05_Pad [.t 12], none⟩,
        ⟨some 14, .bin .add (.t 10) (.t 13), none⟩,
        ⟨some 5, .mv (.t 14), none⟩])
  (.seq (.region
      [⟨some 15, .fieldAddr 64 (.t 2), none⟩,
        ⟨some 16, .loadN 8 (.t 15), none⟩,
        ⟨some 6, .alloc (rep 8 (.int .u32 0)), none⟩,
        ⟨none, .store 8 (.t 6) (.t 16), none⟩])
  (.seq (.seq (.region
        [⟨some 7, .mv (.k (.c (.int .i64 0))), none⟩])
    (.block 0
      (.loop
        (.seq (.seq (.region
              [⟨some 17, .mv (.t 7), none⟩,
                ⟨some 18, .mv (.t 5), none⟩,
                ⟨some 19, .len true (.t 18), none⟩,
                ⟨some 20, .bin .lss (.t 17) (.t 19), none⟩])
          (.cond (.t 20)
            (.skip)
            (.exit 0)))
        (.seq (.block 1
            (.draw
              [⟨some 23, .loadN 72 (.t 2), none⟩,
                ⟨some 24, .loadN 8 (.t 6), none⟩,
                ⟨some 25, .mv (.t 5), none⟩,
                ⟨some 26, .mv (.t 7), none⟩,
                ⟨some 27, .mv (.t 7), none⟩,
                ⟨some 28, .bin .add (.t 27) (.k (.c (.int .i64 64))), none⟩,
                ⟨some 29, .sliceStr (.t 25) (some (.t 26)) (some (.t 28)), none⟩]
              [⟨some 30, .call F_pestleref05_Compress [.t 23, .t 24, .t 29], none⟩,
                ⟨none, .store 8 (.t 6) (.t 30), none⟩]))
        (.region
          [⟨some 21, .mv (.t 7), none⟩,
            ⟨some 22, .bin .add (.t 21) (.k (.c (.int .i64 64))), none⟩,
            ⟨some 7, .mv (.t 22), none⟩]))))))
  (.seq (.region
      [⟨some 8, .mv (.k (.c (.snil))), none⟩])
  (.seq (.seq (.region
        [⟨some 9, .mv (.k (.c (.int .i64 0))), none⟩])
    (.block 2
      (.loop
        (.seq (.seq (.region
              [⟨some 31, .mv (.t 9), none⟩,
                ⟨some 32, .bin .lss (.t 31) (.k (.c (.int .i64 8))), none⟩])
          (.cond (.t 32)
            (.skip)
            (.exit 2)))
        (.seq (.block 3
            (.region
              [⟨some 35, .mv (.t 8), none⟩,
                ⟨some 36, .mv (.t 9), none⟩,
                ⟨some 37, .idxArr 8 1 (.t 6) (.t 36), none⟩,
                ⟨some 38, .load1 (.t 37), none⟩,
                ⟨some 39, .call F_pestleref01_Of32 [.t 38], none⟩,
                ⟨some 40, .call F_pestleref01_Turned [.t 39], none⟩,
                ⟨some 41, .append ([.int .u8 0]) 1 (.t 35) (.t 40), none⟩,
                ⟨some 8, .mv (.t 41), none⟩]))
        (.region
          [⟨some 33, .mv (.t 9), none⟩,
            ⟨some 34, .bin .add (.t 33) (.k (.c (.int .i64 1))), none⟩,
            ⟨some 9, .mv (.t 34), none⟩]))))))
  (.seq (.region
      [⟨some 42, .mv (.t 8), none⟩,
        ⟨some 43, .bytesStr (.t 42), none⟩,
        ⟨some 4, .mv (.t 43), none⟩])
  (.ret))))))))
theorem t_pestleref05_Sum : A F_pestleref05_Sum = some c_pestleref05_Sum := by kernel_rfl

noncomputable def c_pestleref05_Pad : AFn := AFn.mk 24 [.tmp 2]
  (.seq (.region
      [⟨some 2, .mv (.k (.c (.str []))), none⟩])
  (.seq (.region
      [⟨some 4, .buildSlice ([.int .u8 0]) 1 1 [(0, 1, .k (.c (.int .u8 128)))], none⟩,
        ⟨some 3, .mv (.t 4), none⟩])
  (.seq (.block 0
      (.loop
        (.seq (.seq (.region
              [⟨some 5, .mv (.t 0), none⟩,
                ⟨some 6, .bin .rem (.t 5) (.k (.c (.int .i64 64))), none⟩,
                ⟨some 7, .mv (.t 3), none⟩,
                ⟨some 8, .len false (.t 7), none⟩,
                ⟨some 9, .bin .add (.t 6) (.t 8), none⟩,
                ⟨some 10, .bin .add (.t 9) (.k (.c (.int .i64 8))), none⟩,
                ⟨some 11, .bin .rem (.t 10) (.k (.c (.int .i64 64))), none⟩,
                ⟨some 12, .bin .neq (.t 11) (.k (.c (.int .i64 0))), none⟩])
          (.cond (.t 12)
            (.skip)
            (.exit 0)))
        (.block 1
          (.region
            [⟨some 13, .mv (.t 3), none⟩,
              ⟨some 14, .buildSlice ([.int .u8 0]) 1 1 [(0, 1, .k (.c (.int .u8 0)))], none⟩,
              ⟨some 15, .append ([.int .u8 0]) 1 (.t 13) (.t 14), none⟩,
              ⟨some 3, .mv (.t 15), none⟩])))))
  (.seq (.region
      [⟨some 16, .mv (.t 3), none⟩,
        ⟨some 17, .mv (.t 0), none⟩,
        ⟨some 18, .convInt .u64 (.t 17), none⟩,
        ⟨some 19, .bin .mul (.t 18) (.k (.c (.int .u64 8))), none⟩,
        ⟨some 20, .call F_pestleref01_Of64 [.t 19], none⟩,
        ⟨some 21, .call F_pestleref01_Turned [.t 20], none⟩,
        ⟨some 22, .append ([.int .u8 0]) 1 (.t 16) (.t 21), none⟩,
        ⟨some 23, .bytesStr (.t 22), none⟩,
        ⟨some 2, .mv (.t 23), none⟩])
  (.ret)))))
theorem t_pestleref05_Pad : A F_pestleref05_Pad = some c_pestleref05_Pad := by kernel_rfl

noncomputable def c_pestleref05_spread : AFn := AFn.mk 85 [.cellN 2 64]
  (.seq (.region
      [⟨some 2, .alloc (rep 64 (.int .u32 0)), none⟩])
  (.seq (.region
      [⟨some 3, .alloc (rep 64 (.int .u32 0)), none⟩])
  (.seq (.seq (.region
        [⟨some 4, .mv (.k (.c (.int .i64 0))), none⟩])
    (.block 0
      (.loop
        (.seq (.seq (.region
              [⟨some 9, .mv (.t 4), none⟩,
                ⟨some 10, .bin .lss (.t 9) (.k (.c (.int .i64 16))), none⟩])
          (.cond (.t 10)
            (.skip)
            (.exit 0)))
        (.seq (.block 1
            (.seq (.region
                [⟨some 5, .mv (.k (.c (.int .i64 0))), none⟩])
            (.block 2
              (.loop
                (.seq (.seq (.region
                      [⟨some 13, .mv (.t 5), none⟩,
                        ⟨some 14, .bin .lss (.t 13) (.k (.c (.int .i64 4))), none⟩])
                  (.cond (.t 14)
                    (.skip)
                    (.exit 2)))
                (.seq (.block 3
                    (.draw
                      [⟨some 17, .mv (.t 4), none⟩,
                        ⟨some 18, .mv (.t 4), none⟩,
                        ⟨some 19, .idxArr 64 1 (.t 3) (.t 18), none⟩,
                        ⟨some 20, .load1 (.t 19), none⟩,
                        ⟨some 21, .bin .mul (.t 20) (.k (.c (.int .u32 256))), none⟩,
                        ⟨some 22, .mv (.t 0), none⟩,
                        ⟨some 23, .mv (.t 4), none⟩,
                        ⟨some 24, .bin .mul (.k (.c (.int .i64 4))) (.t 23), none⟩,
                        ⟨some 25, .mv (.t 5), none⟩,
                        ⟨some 26, .bin .add (.t 24) (.t 25), none⟩,
                        ⟨some 27, .elemStr (.t 22) (.t 26), none⟩,
                        ⟨some 28, .convInt .u32 (.t 27), none⟩,
                        ⟨some 29, .bin .add (.t 21) (.t 28), none⟩]
                      [⟨some 30, .idxArr 64 1 (.t 3) (.t 17), none⟩,
                        ⟨none, .store 1 (.t 30) (.t 29), none⟩]))
                (.region
                  [⟨some 15, .mv (.t 5), none⟩,
                    ⟨some 16, .bin .add (.t 15) (.k (.c (.int .i64 1))), none⟩,
                    ⟨some 5, .mv (.t 16), none⟩])))))))
        (.region
          [⟨some 11, .mv (.t 4), none⟩,
            ⟨some 12, .bin .add (.t 11) (.k (.c (.int .i64 1))), none⟩,
            ⟨some 4, .mv (.t 12), none⟩]))))))
  (.seq (.seq (.region
        [⟨some 6, .mv (.k (.c (.int .i64 16))), none⟩])
    (.block 4
      (.loop
        (.seq (.seq (.region
              [⟨some 31, .mv (.t 6), none⟩,
                ⟨some 32, .bin .lss (.t 31) (.k (.c (.int .i64 64))), none⟩])
          (.cond (.t 32)
            (.skip)
            (.exit 4)))
        (.seq (.block 5
            (.seq (.draw
                [⟨some 35, .mv (.t 6), none⟩,
                  ⟨some 36, .bin .sub (.t 35) (.k (.c (.int .i64 15))), none⟩,
                  ⟨some 37, .idxArr 64 1 (.t 3) (.t 36), none⟩,
                  ⟨some 38, .load1 (.t 37), none⟩,
                  ⟨some 39, .call F_pestleref05_right [.t 38, .k (.c (.int .i64 7))], none⟩,
                  ⟨some 40, .mv (.t 6), none⟩,
                  ⟨some 41, .bin .sub (.t 40) (.k (.c (.int .i64 15))), none⟩,
                  ⟨some 42, .idxArr 64 1 (.t 3) (.t 41), none⟩,
                  ⟨some 43, .load1 (.t 42), none⟩,
                  ⟨some 44, .call F_pestleref05_right [.t 43, .k (.c (.int .i64 18))], none⟩,
                  ⟨some 45, .bin .xor (.t 39) (.t 44), none⟩,
                  ⟨some 46, .mv (.t 6), none⟩,
                  ⟨some 47, .bin .sub (.t 46) (.k (.c (.int .i64 15))), none⟩,
                  ⟨some 48, .idxArr 64 1 (.t 3) (.t 47), none⟩,
                  ⟨some 49, .load1 (.t 48), none⟩,
                  ⟨some 50, .call F_pestleref05_shift [.t 49, .k (.c (.int .i64 3))], none⟩]
                [⟨some 51, .bin .xor (.t 45) (.t 50), none⟩,
                  ⟨some 7, .mv (.t 51), none⟩])
            (.seq (.draw
                [⟨some 52, .mv (.t 6), none⟩,
                  ⟨some 53, .bin .sub (.t 52) (.k (.c (.int .i64 2))), none⟩,
                  ⟨some 54, .idxArr 64 1 (.t 3) (.t 53), none⟩,
                  ⟨some 55, .load1 (.t 54), none⟩,
                  ⟨some 56, .call F_pestleref05_right [.t 55, .k (.c (.int .i64 17))], none⟩,
                  ⟨some 57, .mv (.t 6), none⟩,
                  ⟨some 58, .bin .sub (.t 57) (.k (.c (.int .i64 2))), none⟩,
                  ⟨some 59, .idxArr 64 1 (.t 3) (.t 58), none⟩,
                  ⟨some 60, .load1 (.t 59), none⟩,
                  ⟨some 61, .call F_pestleref05_right [.t 60, .k (.c (.int .i64 19))], none⟩,
                  ⟨some 62, .bin .xor (.t 56) (.t 61), none⟩,
                  ⟨some 63, .mv (.t 6), none⟩,
                  ⟨some 64, .bin .sub (.t 63) (.k (.c (.int .i64 2))), none⟩,
                  ⟨some 65, .idxArr 64 1 (.t 3) (.t 64), none⟩,
                  ⟨some 66, .load1 (.t 65), none⟩,
                  ⟨some 67, .call F_pestleref05_shift [.t 66, .k (.c (.int .i64 10))], none⟩]
                [⟨some 68, .bin .xor (.t 62) (.t 67), none⟩,
                  ⟨some 8, .mv (.t 68), none⟩])
            (.draw
              [⟨some 69, .mv (.t 6), none⟩,
                ⟨some 70, .mv (.t 6), none⟩,
                ⟨some 71, .bin .sub (.t 70) (.k (.c (.int .i64 16))), none⟩,
                ⟨some 72, .idxArr 64 1 (.t 3) (.t 71), none⟩,
                ⟨some 73, .load1 (.t 72), none⟩,
                ⟨some 74, .mv (.t 6), none⟩,
                ⟨some 75, .bin .sub (.t 74) (.k (.c (.int .i64 7))), none⟩,
                ⟨some 76, .idxArr 64 1 (.t 3) (.t 75), none⟩,
                ⟨some 77, .load1 (.t 76), none⟩,
                ⟨some 78, .bin .add (.t 73) (.t 77), none⟩,
                ⟨some 79, .mv (.t 7), none⟩,
                ⟨some 80, .bin .add (.t 78) (.t 79), none⟩,
                ⟨some 81, .mv (.t 8), none⟩,
                ⟨some 82, .bin .add (.t 80) (.t 81), none⟩]
              [⟨some 83, .idxArr 64 1 (.t 3) (.t 69), none⟩,
                ⟨none, .store 1 (.t 83) (.t 82), none⟩]))))
        (.region
          [⟨some 33, .mv (.t 6), none⟩,
            ⟨some 34, .bin .add (.t 33) (.k (.c (.int .i64 1))), none⟩,
            ⟨some 6, .mv (.t 34), none⟩]))))))
  (.seq (.region
      [⟨some 84, .loadN 64 (.t 3), none⟩,
        ⟨none, .store 64 (.t 2) (.t 84), none⟩])
  (.ret))))))
theorem t_pestleref05_spread : A F_pestleref05_spread = some c_pestleref05_spread := by kernel_rfl

noncomputable def c_pestleref05_right : AFn := AFn.mk 9 [.tmp 4]
  (.seq (.region
      [⟨some 4, .mv (.k (.c (.int .u32 0))), none⟩])
  (.seq (.region
      [⟨some 5, .mv (.t 0), none⟩,
        ⟨some 6, .mv (.t 1), none⟩,
        ⟨some 7, .bin .sub (.k (.c (.int .i64 32))) (.t 6), none⟩,
        ⟨some 8, .call F_pestleref01_Left [.t 5, .t 7], none⟩,
        ⟨some 4, .mv (.t 8), none⟩])
  (.ret)))
theorem t_pestleref05_right : A F_pestleref05_right = some c_pestleref05_right := by kernel_rfl

noncomputable def c_pestleref05_shift : AFn := AFn.mk 14 [.tmp 4]
  (.seq (.region
      [⟨some 4, .mv (.k (.c (.int .u32 0))), none⟩])
  (.seq (.seq (.region
        [⟨some 5, .mv (.k (.c (.int .i64 0))), none⟩])
    (.block 0
      (.loop
        (.seq (.seq (.region
              [⟨some 6, .mv (.t 5), none⟩,
                ⟨some 7, .mv (.t 1), none⟩,
                ⟨some 8, .bin .lss (.t 6) (.t 7), none⟩])
          (.cond (.t 8)
            (.skip)
            (.exit 0)))
        (.seq (.block 1
            (.region
              [⟨some 11, .mv (.t 0), none⟩,
                ⟨some 12, .bin .quo (.t 11) (.k (.c (.int .u32 2))), none⟩,
                ⟨some 0, .mv (.t 12), none⟩]))
        (.region
          [⟨some 9, .mv (.t 5), none⟩,
            ⟨some 10, .bin .add (.t 9) (.k (.c (.int .i64 1))), none⟩,
            ⟨some 5, .mv (.t 10), none⟩]))))))
  (.seq (.region
      [⟨some 13, .mv (.t 0), none⟩,
        ⟨some 4, .mv (.t 13), none⟩])
  (.ret))))
theorem t_pestleref05_shift : A F_pestleref05_shift = some c_pestleref05_shift := by kernel_rfl
end PK

/- SHA-256, plain; turned words and spread, walked. -/
namespace PK
open Go PAbs
set_option linter.unusedSimpArgs false
set_option linter.unusedVariables false
set_option maxRecDepth 100000
set_option maxHeartbeats 2000000

/-! words of 32 bits -/
def ad (a b : Nat) : Nat := (a + b) % 4294967296
theorem ad_lt (a b : Nat) : ad a b < 4294967296 := Nat.mod_lt _ (by decide)
theorem wrap_ad (a b : Nat) : IntKind.u32.wrap ((a : Int) + (b : Int)) = ((ad a b : Nat) : Int) := by rw [wrap32]; simp only [ad]; omega
theorem xo_lt {a b : Nat} (ha : a < 4294967296) (hb : b < 4294967296) : a ^^^ b < 4294967296 := Nat.xor_lt_two_pow (n := 32) ha hb
theorem an_lt {a b : Nat} (ha : a < 4294967296) : a &&& b < 4294967296 := Nat.lt_of_le_of_lt Nat.and_le_left ha
theorem xo32 {a b : Nat} (ha : a < 4294967296) (hb : b < 4294967296) : bitsA .xor .u32 (a : Int) (b : Int) = ((a ^^^ b : Nat) : Int) := xor_of rfl ha hb
theorem an32 {a b : Nat} (ha : a < 4294967296) (hb : b < 4294967296) : bitsA .and .u32 (a : Int) (b : Int) = ((a &&& b : Nat) : Int) := and_of rfl ha hb
theorem not32 {a : Nat} (ha : a < 4294967296) : bitsA .xor .u32 4294967295 (a : Int) = ((4294967295 - a : Nat) : Int) := by
  have h : bitsA .xor .u32 ((4294967295 : Nat) : Int) (a : Int) = ((4294967295 ^^^ a : Nat) : Int) := xor_of rfl (by decide) ha
  refine h.trans ?_
  congr 1
  have e : (BitVec.allOnes 32 ^^^ BitVec.ofNat 32 a).toNat = (~~~ BitVec.ofNat 32 a).toNat := by rw [BitVec.allOnes_xor]
  rw [BitVec.toNat_xor, BitVec.toNat_not, BitVec.toNat_ofNat, BitVec.toNat_allOnes, Nat.mod_eq_of_lt (by exact ha)] at e
  exact e
def rt (n x : Nat) : Nat := rr 32 n x
theorem rt_lt {n x : Nat} (hn : n ≤ 32) (hx : x < 4294967296) : rt n x < 4294967296 := rr_lt hn hx
theorem rl_rt {n x : Nat} (hn : n ≤ 32) : rl 32 (32 - n) x = rt n x := by
  simp only [rt, rl, rr]; rw [show 32 - (32 - n) = n by omega, Nat.add_comm]
theorem places_lit {n : Nat} (h : n < 32) : places 32 (n : Int) = n := by simp only [places]; omega

def sg0 (x : Nat) : Nat := rt 7 x ^^^ rt 18 x ^^^ x / 8
def sg1 (x : Nat) : Nat := rt 17 x ^^^ rt 19 x ^^^ x / 1024
theorem sg0_lt {x : Nat} (h : x < 4294967296) : sg0 x < 4294967296 := xo_lt (xo_lt (rt_lt (by omega) h) (rt_lt (by omega) h)) (by omega)
theorem sg1_lt {x : Nat} (h : x < 4294967296) : sg1 x < 4294967296 := xo_lt (xo_lt (rt_lt (by omega) h) (rt_lt (by omega) h)) (by omega)
def nextW (w : List Nat) (i : Nat) : Nat := ad (ad (ad (w.getD (i - 16) 0) (sg0 (w.getD (i - 15) 0))) (w.getD (i - 7) 0)) (sg1 (w.getD (i - 2) 0))
def exW (w : List Nat) : Nat → List Nat
  | 0 => w
  | i + 1 => (exW w i).set (16 + i) (nextW (exW w i) (16 + i))
def Wd (n : Nat) (l : List Nat) : Prop := l.length = n ∧ ∀ k, l.getD k 0 < 4294967296
theorem Wd.set {n : Nat} {l : List Nat} (h : Wd n l) {i v : Nat} (hv : v < 4294967296) : Wd n (l.set i v) := by
  refine ⟨by rw [List.length_set]; exact h.1, fun k => ?_⟩
  rw [getD_set_]; split
  · exact hv
  · exact h.2 k
theorem Wd.ex {w : List Nat} (h : Wd 64 w) : ∀ i, Wd 64 (exW w i)
  | 0 => h
  | i + 1 => (Wd.ex h i).set (ad_lt _ _)
theorem Wd.len {n : Nat} {l : List Nat} (h : Wd n l) : (W32 l).length = n := by rw [W32_length]; exact h.1
theorem Wd.get {n : Nat} {l : List Nat} (h : Wd n l) {i : Nat} (hi : i < n) : (W32 l)[i]? = some (.int .u32 ((l.getD i 0 : Nat) : Int)) := W32_get (by rw [h.1]; exact hi)
theorem W32_put {l : List Nat} {i n : Nat} : (W32 l).set i (.int .u32 (n : Int)) = W32 (l.set i n) := by simp [W32, List.map_set]
theorem W32_app {l m : List Nat} : W32 (l ++ m) = W32 l ++ W32 m := by simp [W32]
theorem W32_zeros (n : Nat) : rep n (Cell.int .u32 0) = W32 (List.replicate n 0) := by simp [rep, W32]

def wide (ws : List Nat) : List Nat := ws ++ List.replicate 48 0
theorem Wd.wide {ws : List Nat} (h : Wd 16 ws) : Wd 64 (wide ws) := by
  refine ⟨by simp [PK.wide, h.1], fun k => ?_⟩
  simp only [PK.wide, List.getD_eq_getElem?_getD, List.getElem?_append]
  split
  · have := h.2 k; rwa [List.getD_eq_getElem?_getD] at this
  · rw [List.getElem?_replicate]; split <;> decide

section
variable (H : AHeap)
theorem AC_R32 (n x : Nat) (hn : n < 32) (hx : x < 4294967296) : AC A H.length F_words_Right32 [.c (.int .u32 (x : Int)), .c (.int .i64 (n : Int))] H (fun v H' => v = .c (.int .u32 ((rt n x : Nat) : Int)) ∧ H = H') := by
  refine (AC_Right32 H.length H x n hx).mono fun v H' ⟨h1, h2⟩ => ⟨?_, h2.symm⟩
  rw [h1, places_lit hn]; rfl


def sp5I (p : Nat) (w : List Nat) (H0 : AHeap) (i : Nat) (fr : AFrame) (H : AHeap) : Prop := Chg (· = p + 1) H0 H ∧ hown H (p + 1) = some (W32 (exW w i)) ∧ (∃ s : Nat → AV, fr = [s 0, s 1, .c (.ptr p 0), .c (.ptr (p + 1) 0), s 4, s 5, .c (.int .i64 ((16 + i : Nat) : Int)), s 7, s 8, s 9, s 10, s 11, s 12, s 13, s 14, s 15, s 16, s 17, s 18, s 19, s 20, s 21, s 22, s 23, s 24, s 25, s 26, s 27, s 28, s 29, s 30, s 31, s 32, s 33, s 34, s 35, s 36, s 37, s 38, s 39, s 40, s 41, s 42, s 43, s 44, s 45, s 46, s 47, s 48, s 49, s 50, s 51, s 52, s 53, s 54, s 55, s 56, s 57, s 58, s 59, s 60, s 61, s 62])
theorem AC_spread (y : Cell) (bs : List Nat) (hy : Rd H y 1 (W8 bs)) (hl : bs.length = 64) (hb : ∀ k, bs.getD k 0 < 256) (hws : Wd 16 (tk 4 (3 - ·) bs bs.length)) :
    AC A H.length F_sha_spread [.c y] H (fun v H' => v = .agg (W32 (exW (wide (tk 4 (3 - ·) bs bs.length)) 48))) := by
  refine AC_enter t_sha_spread ?_; simp only [c_sha_spread, enterA, List.replicate, List.length_cons, List.length_nil, Nat.reduceAdd, Nat.reduceSub, List.cons_append, List.nil_append]
  (repeat (first | with_reducible (first | refine thenQ_n ?_ | refine blockQ_n ?_ | refine thenQ_e ?_ | refine thenQ_r ?_ | refine blockQ_r ?_ | refine blockQ_s ?_ | refine blockQ_o rfl ?_) | refine AW_skip ?_ | refine AW_seq ?_ | refine AW_ops ?_ | refine AW_blockS ?_ | refine AW_blockR ?_ | refine AW_blockD ?_ | refine AW_blockC ?_ | refine AO_nil ?_ | refine AW_draw ?_ | refine AW_draw3 ?_ | refine AW_blockD3 ?_ | (refine AW_drawA ?_; simp only [atBlk, Sm]) | refine AHd_nil ?_ | with_reducible (first | refine AP_at ?_ | refine AHP_at ?_) | (with_reducible (first | apply AO_any | apply AHd_any | apply AP_go | apply AHP_go); focus (simp only [Sm, wantedA, execA, stepA, List.getElem?_cons_zero, List.getElem?_cons_succ, if_true, if_false, binA, binInt, unA, eqA, Option.map, eq_self, reduceCtorEq, ite_true, ite_false, fitsAll, CK.fits, fillA, AV.cells, writeN, sliceCells, appendA, lenA, i64, loA, hiA, Nat.reduceAdd, Nat.reduceMul, Nat.reduceDiv, Nat.reduceSub, Nat.reduceLeDiff, Nat.reduceLT, Int.reduceLE, Int.reduceLT, foldA, maxA, minA, Int.reduceBEq, Int.reduceBNe, Int.reduceGT, Int.reduceGE, Int.reduceEq, Int.reduceNe, Int.reduceToNat, AOp.stops, ↓want_eq, ↓exec_lenX, ↓exec_storeX, ↓exec_storeN, storeN_one, ↓exec_bsX, ↓exec_sliceX, ↓exec_copyX, ↓exec_appNil, ↓exec_carryX, Nat.sub_zero, rep_len]; with_reducible first | exact EqP.at_ | exact EqP.cont | exact EqP.hcont | exact EqP.gate | exact EqP.hgate)) | (refine AW_ift ?_ ?_; focus (simp only [Sm]; done)) | (refine AW_iff ?_ ?_; focus (simp only [Sm]; done))))
  have o2 : hown (H ++ [Blk.own (rep 64 (.int .u32 0))] ++ [Blk.own (rep 64 (.int .u32 0))]) H.length = some (rep 64 (.int .u32 0)) := hown_app hown_last
  have o3 : hown (H ++ [Blk.own (rep 64 (.int .u32 0))] ++ [Blk.own (rep 64 (.int .u32 0))]) (H.length + 1) = some (rep 64 (.int .u32 0)) := by
    have := hown_last (H := H ++ [Blk.own (rep 64 (.int .u32 0))]) (cs := rep 64 (.int .u32 0)); simpa using this
  have hy1 : Rd (H ++ [Blk.own (rep 64 (.int .u32 0))] ++ [Blk.own (rep 64 (.int .u32 0))]) y 1 (W8 bs) := by rw [List.append_assoc]; exact hy.kept (Kept.push _ _ _)
  have l1 : (H ++ [Blk.own (rep 64 (.int .u32 0))] ++ [Blk.own (rep 64 (.int .u32 0))]).length = H.length + 2 := by simp
  generalize H ++ [Blk.own (rep 64 (.int .u32 0))] ++ [Blk.own (rep 64 (.int .u32 0))] = H1 at *
  refine AO_call rfl (((AC_TakeBig32 H1 y bs hy1 (by omega) hb).kept (Nat.le_refl _)).floor (by omega)) ?_
  rintro v H2 ⟨hT, k2⟩
  rcases hT with ⟨h', _⟩ | ⟨_, x, rfl, hx⟩
  · omega
  generalize tk 4 (3 - ·) bs bs.length = ws at *
  have o22 : hown H2 H.length = some (rep 64 (.int .u32 0)) := by rw [k2.hown (by omega) (by omega)]; exact o2
  have o32 : hown H2 (H.length + 1) = some (rep 64 (.int .u32 0)) := by rw [k2.hown (by omega) (by omega)]; exact o3
  have hc3 := hcells_own o32
  have e64 : 0 + 64 * 1 ≤ (rep 64 (Cell.int .u32 0)).length := by rw [rep_len]; omega
  have rx := hx.rd
  obtain ⟨H3, s3, o33, c3, l3⟩ : ∃ H3, copyX 1 H.length H2 (.c (.slc (H.length + 1) 0 16 1)) (.c x) = some (.c (.int .i64 16), H3) ∧ hown H3 (H.length + 1) = some (W32 (wide ws)) ∧ Chg (· = H.length + 1) H2 H3 ∧ H3.length = H2.length := by
    refine ⟨_, copyX_own o32 (by omega) rx (k := 16) (by rw [hws.len]; rfl) (by rw [rep_len]; omega), ?_, Chg.set rfl, by simp⟩
    have ht : (W32 ws).take 16 = W32 ws := List.take_of_length_le (by rw [hws.len]; omega)
    have hd : (rep 64 (Cell.int .u32 0)).drop (0 + 16) = W32 (List.replicate 48 0) := rfl
    rw [hown_set (hown_lt o32), ht, hd, List.take_zero, List.nil_append, PK.wide, W32_app]
  (repeat (first | with_reducible (first | refine thenQ_n ?_ | refine blockQ_n ?_ | refine thenQ_e ?_ | refine thenQ_r ?_ | refine blockQ_r ?_ | refine blockQ_s ?_ | refine blockQ_o rfl ?_) | refine AW_skip ?_ | refine AW_seq ?_ | refine AW_ops ?_ | refine AW_blockS ?_ | refine AW_blockR ?_ | refine AW_blockD ?_ | refine AW_blockC ?_ | refine AO_nil ?_ | refine AW_draw ?_ | refine AW_draw3 ?_ | refine AW_blockD3 ?_ | (refine AW_drawA ?_; simp only [atBlk, Sm]) | refine AHd_nil ?_ | with_reducible (first | refine AP_at ?_ | refine AHP_at ?_) | (with_reducible (first | apply AO_any | apply AHd_any | apply AP_go | apply AHP_go); focus (simp only [Sm, wantedA, execA, stepA, List.getElem?_cons_zero, List.getElem?_cons_succ, if_true, if_false, binA, binInt, unA, eqA, Option.map, eq_self, reduceCtorEq, ite_true, ite_false, fitsAll, CK.fits, fillA, AV.cells, writeN, sliceCells, appendA, lenA, i64, loA, hiA, Nat.reduceAdd, Nat.reduceMul, Nat.reduceDiv, Nat.reduceSub, Nat.reduceLeDiff, Nat.reduceLT, Int.reduceLE, Int.reduceLT, foldA, maxA, minA, Int.reduceBEq, Int.reduceBNe, Int.reduceGT, Int.reduceGE, Int.reduceEq, Int.reduceNe, Int.reduceToNat, AOp.stops, ↓want_eq, ↓exec_lenX, ↓exec_storeX, ↓exec_storeN, storeN_one, ↓exec_bsX, ↓exec_sliceX, ↓exec_copyX, ↓exec_appNil, ↓exec_carryX, Nat.sub_zero, rep_len, hc3, e64, s3]; with_reducible first | exact EqP.at_ | exact EqP.cont | exact EqP.hcont | exact EqP.gate | exact EqP.hgate)) | (refine AW_ift ?_ ?_; focus (simp only [Sm]; done)) | (refine AW_iff ?_ ?_; focus (simp only [Sm]; done))))
  have o23 := c3.hown (by omega : ¬ H.length = H.length + 1) o22
  have hW := hws.wide
  generalize wide ws = w at *
  generalize H.length = p at *
  refine AW_mid (fun e fr H' => e = .normal ∧ sp5I p w H3 48 fr H') ?_ ?_
  · refine AW_block (AW_up (sp5I p w H3) 48 ⟨Chg.refl _ _, o33, stale _ _ rfl⟩ ?_)
    rintro i fr H4 hi ⟨c4, o4, st, rfl⟩
    have hWi := hW.ex i
    have hsucc : exW w (i + 1) = (exW w i).set (16 + i) (nextW (exW w i) (16 + i)) := rfl
    generalize hu : exW w i = u at *
    (repeat (first | with_reducible (first | refine thenQ_n ?_ | refine blockQ_n ?_ | refine thenQ_e ?_ | refine thenQ_r ?_ | refine blockQ_r ?_ | refine blockQ_s ?_ | refine blockQ_o rfl ?_) | refine AW_skip ?_ | refine AW_seq ?_ | refine AW_ops ?_ | refine AW_blockS ?_ | refine AW_blockR ?_ | refine AW_blockD ?_ | refine AW_blockC ?_ | refine AO_nil ?_ | refine AW_draw ?_ | refine AW_draw3 ?_ | refine AW_blockD3 ?_ | (refine AW_drawA ?_; simp only [atBlk, Sm]) | refine AHd_nil ?_ | with_reducible (first | refine AP_at ?_ | refine AHP_at ?_) | (with_reducible (first | apply AO_any | apply AHd_any | apply AP_go | apply AHP_go); focus (simp only [Sm, wantedA, execA, stepA, List.getElem?_cons_zero, List.getElem?_cons_succ, if_true, if_false, binA, binInt, unA, eqA, Option.map, eq_self, reduceCtorEq, ite_true, ite_false, fitsAll, CK.fits, fillA, AV.cells, writeN, sliceCells, appendA, lenA, i64, loA, hiA, Nat.reduceAdd, Nat.reduceMul, Nat.reduceDiv, Nat.reduceSub, Nat.reduceLeDiff, Nat.reduceLT, Int.reduceLE, Int.reduceLT, foldA, maxA, minA, Int.reduceBEq, Int.reduceBNe, Int.reduceGT, Int.reduceGE, Int.reduceEq, Int.reduceNe, Int.reduceToNat, AOp.stops, ↓want_eq, ↓exec_lenX, ↓exec_storeX, ↓exec_storeN, storeN_one, ↓exec_bsX, ↓exec_sliceX, ↓exec_copyX, ↓exec_appNil, ↓exec_carryX, Nat.sub_zero, rep_len]; with_reducible first | exact EqP.at_ | exact EqP.cont | exact EqP.hcont | exact EqP.gate | exact EqP.hgate)) | (refine AW_ift ?_ ?_; focus (simp only [Sm]; done)) | (refine AW_iff ?_ ?_; focus (simp only [Sm]; done))))
    refine AW_cond rfl ?_ ?_ <;> intro ht
    · have ht : ((16 + i : Nat) : Int) < 64 := of_decide_eq_true ht
      have hi2 : i < 48 := by omega
      have e1 : IntKind.i64.wrap (((16 + i : Nat) : Int) - 15) = ((16 + i - 15 : Nat) : Int) := by rw [i64_of (by omega) (by omega)]; omega
      have e2 : IntKind.i64.wrap (((16 + i : Nat) : Int) - 2) = ((16 + i - 2 : Nat) : Int) := by rw [i64_of (by omega) (by omega)]; omega
      have e3 : IntKind.i64.wrap (((16 + i : Nat) : Int) - 16) = ((16 + i - 16 : Nat) : Int) := by rw [i64_of (by omega) (by omega)]; omega
      have e4 : IntKind.i64.wrap (((16 + i : Nat) : Int) - 7) = ((16 + i - 7 : Nat) : Int) := by rw [i64_of (by omega) (by omega)]; omega
      have b1 : ((16 + i - 15 : Nat) : Int) < 64 := by omega
      have b2 : ((16 + i - 2 : Nat) : Int) < 64 := by omega
      have b3 : ((16 + i - 16 : Nat) : Int) < 64 := by omega
      have b4 : ((16 + i - 7 : Nat) : Int) < 64 := by omega
      have g1 := hWi.get (i := 16 + i - 15) (by omega)
      have g2 := hWi.get (i := 16 + i - 2) (by omega)
      have g3 := hWi.get (i := 16 + i - 16) (by omega)
      have g4 := hWi.get (i := 16 + i - 7) (by omega)
      have w1 := hWi.2 (16 + i - 15)
      have w2 := hWi.2 (16 + i - 2)
      have w3 := hWi.2 (16 + i - 16)
      have w4 := hWi.2 (16 + i - 7)
      have hn : nextW u (16 + i) = ad (ad (ad (u.getD (16 + i - 16) 0) (sg0 (u.getD (16 + i - 15) 0))) (u.getD (16 + i - 7) 0)) (sg1 (u.getD (16 + i - 2) 0)) := rfl
      rw [hn] at hsucc
      generalize 16 + i - 15 = j1 at *
      generalize 16 + i - 2 = j2 at *
      generalize 16 + i - 16 = j3 at *
      generalize 16 + i - 7 = j4 at *
      generalize u.getD j1 0 = v1 at *
      generalize u.getD j2 0 = v2 at *
      generalize u.getD j3 0 = v3 at *
      generalize u.getD j4 0 = v4 at *
      have hc4 := hcells_own o4
      have l4 := hown_lt o4
      have n3 : ¬ ((3 : Int) < 0) := by omega
      have n10 : ¬ ((10 : Int) < 0) := by omega
      have h8 : shrA .u32 (v1 : Int) 3 = ((v1 / 8 : Nat) : Int) := shr_n (k := .u32) (x := v1) (p := 3) (by decide)
      have h1024 : shrA .u32 (v2 : Int) 10 = ((v2 / 1024 : Nat) : Int) := shr_n (k := .u32) (x := v2) (p := 10) (by decide)
      have s0 := sg0_lt w1
      have s1 := sg1_lt w2
      have r7 := rt_lt (n := 7) (by omega) w1
      have r18 := rt_lt (n := 18) (by omega) w1
      have r17 := rt_lt (n := 17) (by omega) w2
      have r19 := rt_lt (n := 19) (by omega) w2
      have x1 := xo32 r7 r18
      have x2 : bitsA .xor .u32 ((rt 7 v1 ^^^ rt 18 v1 : Nat) : Int) ((v1 / 8 : Nat) : Int) = ((sg0 v1 : Nat) : Int) := xo32 (xo_lt r7 r18) (by omega)
      have x3 := xo32 r17 r19
      have x4 : bitsA .xor .u32 ((rt 17 v2 ^^^ rt 19 v2 : Nat) : Int) ((v2 / 1024 : Nat) : Int) = ((sg1 v2 : Nat) : Int) := xo32 (xo_lt r17 r19) (by omega)
      (repeat (first | with_reducible (first | refine thenQ_n ?_ | refine blockQ_n ?_ | refine thenQ_e ?_ | refine thenQ_r ?_ | refine blockQ_r ?_ | refine blockQ_s ?_ | refine blockQ_o rfl ?_) | refine AW_skip ?_ | refine AW_seq ?_ | refine AW_ops ?_ | refine AW_blockS ?_ | refine AW_blockR ?_ | refine AW_blockD ?_ | refine AW_blockC ?_ | refine AO_nil ?_ | refine AW_draw ?_ | refine AW_draw3 ?_ | refine AW_blockD3 ?_ | (refine AW_drawA ?_; simp only [atBlk, Sm]) | refine AHd_nil ?_ | with_reducible (first | refine AP_at ?_ | refine AHP_at ?_) | (with_reducible (first | apply AO_any | apply AHd_any | apply AP_go | apply AHP_go); focus (simp only [Sm, wantedA, execA, stepA, List.getElem?_cons_zero, List.getElem?_cons_succ, if_true, if_false, binA, binInt, unA, eqA, Option.map, eq_self, reduceCtorEq, ite_true, ite_false, fitsAll, CK.fits, fillA, AV.cells, writeN, sliceCells, appendA, lenA, i64, loA, hiA, Nat.reduceAdd, Nat.reduceMul, Nat.reduceDiv, Nat.reduceSub, Nat.reduceLeDiff, Nat.reduceLT, Int.reduceLE, Int.reduceLT, foldA, maxA, minA, Int.reduceBEq, Int.reduceBNe, Int.reduceGT, Int.reduceGE, Int.reduceEq, Int.reduceNe, Int.reduceToNat, AOp.stops, ↓want_eq, ↓exec_lenX, ↓exec_storeX, ↓exec_storeN, storeN_one, ↓exec_bsX, ↓exec_sliceX, ↓exec_copyX, ↓exec_appNil, ↓exec_carryX, Nat.sub_zero, rep_len, hc4, e1, e2, b1, b2, g1, g2, Nat.zero_add]; with_reducible first | exact EqP.at_ | exact EqP.cont | exact EqP.hcont | exact EqP.gate | exact EqP.hgate)) | (refine AW_ift ?_ ?_; focus (simp only [Sm]; done)) | (refine AW_iff ?_ ?_; focus (simp only [Sm]; done))))
      refine AO_call rfl ((AC_R32 H4 7 v1 (by omega) w1).floor (by omega)) ?_
      rintro _ _ ⟨rfl, rfl⟩
      (repeat (first | with_reducible (first | refine thenQ_n ?_ | refine blockQ_n ?_ | refine thenQ_e ?_ | refine thenQ_r ?_ | refine blockQ_r ?_ | refine blockQ_s ?_ | refine blockQ_o rfl ?_) | refine AW_skip ?_ | refine AW_seq ?_ | refine AW_ops ?_ | refine AW_blockS ?_ | refine AW_blockR ?_ | refine AW_blockD ?_ | refine AW_blockC ?_ | refine AO_nil ?_ | refine AW_draw ?_ | refine AW_draw3 ?_ | refine AW_blockD3 ?_ | (refine AW_drawA ?_; simp only [atBlk, Sm]) | refine AHd_nil ?_ | with_reducible (first | refine AP_at ?_ | refine AHP_at ?_) | (with_reducible (first | apply AO_any | apply AHd_any | apply AP_go | apply AHP_go); focus (simp only [Sm, wantedA, execA, stepA, List.getElem?_cons_zero, List.getElem?_cons_succ, if_true, if_false, binA, binInt, unA, eqA, Option.map, eq_self, reduceCtorEq, ite_true, ite_false, fitsAll, CK.fits, fillA, AV.cells, writeN, sliceCells, appendA, lenA, i64, loA, hiA, Nat.reduceAdd, Nat.reduceMul, Nat.reduceDiv, Nat.reduceSub, Nat.reduceLeDiff, Nat.reduceLT, Int.reduceLE, Int.reduceLT, foldA, maxA, minA, Int.reduceBEq, Int.reduceBNe, Int.reduceGT, Int.reduceGE, Int.reduceEq, Int.reduceNe, Int.reduceToNat, AOp.stops, ↓want_eq, ↓exec_lenX, ↓exec_storeX, ↓exec_storeN, storeN_one, ↓exec_bsX, ↓exec_sliceX, ↓exec_copyX, ↓exec_appNil, ↓exec_carryX, Nat.sub_zero, rep_len]; with_reducible first | exact EqP.at_ | exact EqP.cont | exact EqP.hcont | exact EqP.gate | exact EqP.hgate)) | (refine AW_ift ?_ ?_; focus (simp only [Sm]; done)) | (refine AW_iff ?_ ?_; focus (simp only [Sm]; done))))
      refine AO_call rfl ((AC_R32 H4 18 v1 (by omega) w1).floor (by omega)) ?_
      rintro _ _ ⟨rfl, rfl⟩
      (repeat (first | with_reducible (first | refine thenQ_n ?_ | refine blockQ_n ?_ | refine thenQ_e ?_ | refine thenQ_r ?_ | refine blockQ_r ?_ | refine blockQ_s ?_ | refine blockQ_o rfl ?_) | refine AW_skip ?_ | refine AW_seq ?_ | refine AW_ops ?_ | refine AW_blockS ?_ | refine AW_blockR ?_ | refine AW_blockD ?_ | refine AW_blockC ?_ | refine AO_nil ?_ | refine AW_draw ?_ | refine AW_draw3 ?_ | refine AW_blockD3 ?_ | (refine AW_drawA ?_; simp only [atBlk, Sm]) | refine AHd_nil ?_ | with_reducible (first | refine AP_at ?_ | refine AHP_at ?_) | (with_reducible (first | apply AO_any | apply AHd_any | apply AP_go | apply AHP_go); focus (simp only [Sm, wantedA, execA, stepA, List.getElem?_cons_zero, List.getElem?_cons_succ, if_true, if_false, binA, binInt, unA, eqA, Option.map, eq_self, reduceCtorEq, ite_true, ite_false, fitsAll, CK.fits, fillA, AV.cells, writeN, sliceCells, appendA, lenA, i64, loA, hiA, Nat.reduceAdd, Nat.reduceMul, Nat.reduceDiv, Nat.reduceSub, Nat.reduceLeDiff, Nat.reduceLT, Int.reduceLE, Int.reduceLT, foldA, maxA, minA, Int.reduceBEq, Int.reduceBNe, Int.reduceGT, Int.reduceGE, Int.reduceEq, Int.reduceNe, Int.reduceToNat, AOp.stops, ↓want_eq, ↓exec_lenX, ↓exec_storeX, ↓exec_storeN, storeN_one, ↓exec_bsX, ↓exec_sliceX, ↓exec_copyX, ↓exec_appNil, ↓exec_carryX, Nat.sub_zero, rep_len, x1, h8, n3, x2]; with_reducible first | exact EqP.at_ | exact EqP.cont | exact EqP.hcont | exact EqP.gate | exact EqP.hgate)) | (refine AW_ift ?_ ?_; focus (simp only [Sm]; done)) | (refine AW_iff ?_ ?_; focus (simp only [Sm]; done))))
      refine AO_call rfl ((AC_R32 H4 17 v2 (by omega) w2).floor (by omega)) ?_
      rintro _ _ ⟨rfl, rfl⟩
      (repeat (first | with_reducible (first | refine thenQ_n ?_ | refine blockQ_n ?_ | refine thenQ_e ?_ | refine thenQ_r ?_ | refine blockQ_r ?_ | refine blockQ_s ?_ | refine blockQ_o rfl ?_) | refine AW_skip ?_ | refine AW_seq ?_ | refine AW_ops ?_ | refine AW_blockS ?_ | refine AW_blockR ?_ | refine AW_blockD ?_ | refine AW_blockC ?_ | refine AO_nil ?_ | refine AW_draw ?_ | refine AW_draw3 ?_ | refine AW_blockD3 ?_ | (refine AW_drawA ?_; simp only [atBlk, Sm]) | refine AHd_nil ?_ | with_reducible (first | refine AP_at ?_ | refine AHP_at ?_) | (with_reducible (first | apply AO_any | apply AHd_any | apply AP_go | apply AHP_go); focus (simp only [Sm, wantedA, execA, stepA, List.getElem?_cons_zero, List.getElem?_cons_succ, if_true, if_false, binA, binInt, unA, eqA, Option.map, eq_self, reduceCtorEq, ite_true, ite_false, fitsAll, CK.fits, fillA, AV.cells, writeN, sliceCells, appendA, lenA, i64, loA, hiA, Nat.reduceAdd, Nat.reduceMul, Nat.reduceDiv, Nat.reduceSub, Nat.reduceLeDiff, Nat.reduceLT, Int.reduceLE, Int.reduceLT, foldA, maxA, minA, Int.reduceBEq, Int.reduceBNe, Int.reduceGT, Int.reduceGE, Int.reduceEq, Int.reduceNe, Int.reduceToNat, AOp.stops, ↓want_eq, ↓exec_lenX, ↓exec_storeX, ↓exec_storeN, storeN_one, ↓exec_bsX, ↓exec_sliceX, ↓exec_copyX, ↓exec_appNil, ↓exec_carryX, Nat.sub_zero, rep_len]; with_reducible first | exact EqP.at_ | exact EqP.cont | exact EqP.hcont | exact EqP.gate | exact EqP.hgate)) | (refine AW_ift ?_ ?_; focus (simp only [Sm]; done)) | (refine AW_iff ?_ ?_; focus (simp only [Sm]; done))))
      refine AO_call rfl ((AC_R32 H4 19 v2 (by omega) w2).floor (by omega)) ?_
      rintro _ _ ⟨rfl, rfl⟩
      have bi : 16 + i < 64 := by omega
      have esc : IntKind.i64.wrap (((16 + i : Nat) : Int) + 1) = ((16 + (i + 1) : Nat) : Int) := by rw [i64_of (by omega) (by omega)]; omega
      (repeat (first | with_reducible (first | refine thenQ_n ?_ | refine blockQ_n ?_ | refine thenQ_e ?_ | refine thenQ_r ?_ | refine blockQ_r ?_ | refine blockQ_s ?_ | refine blockQ_o rfl ?_) | refine AW_skip ?_ | refine AW_seq ?_ | refine AW_ops ?_ | refine AW_blockS ?_ | refine AW_blockR ?_ | refine AW_blockD ?_ | refine AW_blockC ?_ | refine AO_nil ?_ | refine AW_draw ?_ | refine AW_draw3 ?_ | refine AW_blockD3 ?_ | (refine AW_drawA ?_; simp only [atBlk, Sm]) | refine AHd_nil ?_ | with_reducible (first | refine AP_at ?_ | refine AHP_at ?_) | (with_reducible (first | apply AO_any | apply AHd_any | apply AP_go | apply AHP_go); focus (simp only [Sm, wantedA, execA, stepA, List.getElem?_cons_zero, List.getElem?_cons_succ, if_true, if_false, binA, binInt, unA, eqA, Option.map, eq_self, reduceCtorEq, ite_true, ite_false, fitsAll, CK.fits, fillA, AV.cells, writeN, sliceCells, appendA, lenA, i64, loA, hiA, Nat.reduceAdd, Nat.reduceMul, Nat.reduceDiv, Nat.reduceSub, Nat.reduceLeDiff, Nat.reduceLT, Int.reduceLE, Int.reduceLT, foldA, maxA, minA, Int.reduceBEq, Int.reduceBNe, Int.reduceGT, Int.reduceGE, Int.reduceEq, Int.reduceNe, Int.reduceToNat, AOp.stops, ↓want_eq, ↓exec_lenX, ↓exec_storeX, ↓exec_storeN, storeN_one, ↓exec_bsX, ↓exec_sliceX, ↓exec_copyX, ↓exec_appNil, ↓exec_carryX, Nat.sub_zero, rep_len, x3, h1024, n10, x4, hc4, e3, e4, b3, b4, g3, g4, Nat.zero_add, wrap_ad, ht, storeX_own o4 (by omega : p ≤ p + 1) (by rw [hWi.len]; exact bi : 16 + i < _), esc]; with_reducible first | exact EqP.at_ | exact EqP.cont | exact EqP.hcont | exact EqP.gate | exact EqP.hgate)) | (refine AW_ift ?_ ?_; focus (simp only [Sm]; done)) | (refine AW_iff ?_ ?_; focus (simp only [Sm]; done))))
      refine ⟨hi2, c4.trans (Chg.set (S := (· = p + 1)) rfl) fun _ _ h => h, ?_, stale _ _ rfl⟩
      rw [hown_set (hown_lt o4), W32_put, hsucc]
    · obtain rfl : i = 48 := by have : ¬ ((16 + i : Nat) : Int) < 64 := of_decide_eq_false ht; omega
      subst hu
      exact AW_exit ⟨rfl, c4, o4, stale _ _ rfl⟩
  rintro e fr H4 ⟨rfl, c4, o4, st, rfl⟩
  have o24 := c4.hown (by omega : ¬ p = p + 1) o23
  have hWe := hW.ex 48
  generalize exW w 48 = e at *
  have r4 : readN H4 (p + 1) 0 64 = some (W32 e) := by have := readN_all (hcells_own o4); rw [hWe.len] at this; exact this
  obtain ⟨H5, s5, o5, c5, l5⟩ := storeN_ex (n := 64) o24 (Nat.le_refl p) rep_len (W32 e) hWe.len
  have r5 : readN H5 p 0 64 = some (W32 e) := by have := readN_all (hcells_own o5); rw [hWe.len] at this; exact this
  (repeat (first | with_reducible (first | refine thenQ_n ?_ | refine blockQ_n ?_ | refine thenQ_e ?_ | refine thenQ_r ?_ | refine blockQ_r ?_ | refine blockQ_s ?_ | refine blockQ_o rfl ?_) | refine AW_skip ?_ | refine AW_seq ?_ | refine AW_ops ?_ | refine AW_blockS ?_ | refine AW_blockR ?_ | refine AW_blockD ?_ | refine AW_blockC ?_ | refine AO_nil ?_ | refine AW_draw ?_ | refine AW_draw3 ?_ | refine AW_blockD3 ?_ | (refine AW_drawA ?_; simp only [atBlk, Sm]) | refine AHd_nil ?_ | with_reducible (first | refine AP_at ?_ | refine AHP_at ?_) | (with_reducible (first | apply AO_any | apply AHd_any | apply AP_go | apply AHP_go); focus (simp only [Sm, wantedA, execA, stepA, List.getElem?_cons_zero, List.getElem?_cons_succ, if_true, if_false, binA, binInt, unA, eqA, Option.map, eq_self, reduceCtorEq, ite_true, ite_false, fitsAll, CK.fits, fillA, AV.cells, writeN, sliceCells, appendA, lenA, i64, loA, hiA, Nat.reduceAdd, Nat.reduceMul, Nat.reduceDiv, Nat.reduceSub, Nat.reduceLeDiff, Nat.reduceLT, Int.reduceLE, Int.reduceLT, foldA, maxA, minA, Int.reduceBEq, Int.reduceBNe, Int.reduceGT, Int.reduceGE, Int.reduceEq, Int.reduceNe, Int.reduceToNat, AOp.stops, ↓want_eq, ↓exec_lenX, ↓exec_storeX, ↓exec_storeN, storeN_one, ↓exec_bsX, ↓exec_sliceX, ↓exec_copyX, ↓exec_appNil, ↓exec_carryX, Nat.sub_zero, rep_len, ↓r4, s5]; with_reducible first | exact EqP.at_ | exact EqP.cont | exact EqP.hcont | exact EqP.gate | exact EqP.hgate)) | (refine AW_ift ?_ ?_; focus (simp only [Sm]; done)) | (refine AW_iff ?_ ?_; focus (simp only [Sm]; done))))
  exact AW_ret ⟨_, by simp only [outA, resA, ressA, AV.tv, Option.map_some, Sm, wantedA, execA, stepA, List.getElem?_cons_zero, List.getElem?_cons_succ, if_true, if_false, binA, binInt, unA, eqA, Option.map, eq_self, reduceCtorEq, ite_true, ite_false, fitsAll, CK.fits, fillA, AV.cells, writeN, sliceCells, appendA, lenA, i64, loA, hiA, Nat.reduceAdd, Nat.reduceMul, Nat.reduceDiv, Nat.reduceSub, Nat.reduceLeDiff, Nat.reduceLT, Int.reduceLE, Int.reduceLT, foldA, maxA, minA, r5] <;> with_reducible rfl, rfl⟩
end
end PK

/- SHA-256: the rounds, plain; Compress, walked. -/
namespace PK
open Go PAbs
set_option linter.unusedSimpArgs false
set_option linter.unusedVariables false
set_option maxRecDepth 100000
set_option maxHeartbeats 4000000

theorem getD_lt_of {l : List Nat} {M : Nat} (h0 : 0 < M) (h : ∀ x ∈ l, x < M) (k : Nat) : l.getD k 0 < M := by
  rw [List.getD_eq_getElem?_getD]
  rcases he : l[k]? with _ | x
  · exact h0
  · exact h x (List.mem_of_getElem? he)
theorem Wd_of {n : Nat} {l : List Nat} (hl : l.length = n) (h : ∀ x ∈ l, x < 4294967296) : Wd n l := ⟨hl, getD_lt_of (by decide) h⟩
def Ks : List Nat := [1116352408, 1899447441, 3049323471, 3921009573, 961987163, 1508970993, 2453635748, 2870763221, 3624381080, 310598401, 607225278, 1426881987, 1925078388, 2162078206, 2614888103, 3248222580, 3835390401, 4022224774, 264347078, 604807628, 770255983, 1249150122, 1555081692, 1996064986, 2554220882, 2821834349, 2952996808, 3210313671, 3336571891, 3584528711, 113926993, 338241895, 666307205, 773529912, 1294757372, 1396182291, 1695183700, 1986661051, 2177026350, 2456956037, 2730485921, 2820302411, 3259730800, 3345764771, 3516065817, 3600352804, 4094571909, 275423344, 430227734, 506948616, 659060556, 883997877, 958139571, 1322822218, 1537002063, 1747873779, 1955562222, 2024104815, 2227730452, 2361852424, 2428436474, 2756734187, 3204031479, 3329325298]
def Is : List Nat := [1779033703, 3144134277, 1013904242, 2773480762, 1359893119, 2600822924, 528734635, 1541459225]
theorem Ks_wd : Wd 64 Ks := Wd_of rfl (by decide)
theorem Is_wd : Wd 8 Is := Wd_of rfl (by decide)

section
variable (H : AHeap)
theorem AC_constants : AC A H.length F_sha_constants [] H (fun v H' => v = .agg (W32 Ks)) := by
  refine AC_enter t_sha_constants ?_; simp only [c_sha_constants, enterA, List.replicate, List.length_cons, List.length_nil, Nat.reduceAdd, Nat.reduceSub, List.cons_append, List.nil_append]
  have o2 : hown (H ++ [Blk.own (rep 64 (.int .u32 0))]) H.length = some (rep 64 (.int .u32 0)) := hown_last
  obtain ⟨H5, s5, o5, c5, l5⟩ := storeN_ex (n := 64) o2 (Nat.le_refl _) rep_len (W32 Ks) rfl
  have r5 : readN H5 H.length 0 64 = some (W32 Ks) := readN_all (hcells_own o5)
  have s5' := s5
  simp only [W32, Ks, List.map_cons, List.map_nil, rep, List.replicate, Int.cast_ofNat_Int] at s5'
  (repeat (first | with_reducible (first | refine thenQ_n ?_ | refine blockQ_n ?_ | refine thenQ_e ?_ | refine thenQ_r ?_ | refine blockQ_r ?_ | refine blockQ_s ?_ | refine blockQ_o rfl ?_) | refine AW_skip ?_ | refine AW_seq ?_ | refine AW_ops ?_ | refine AW_blockS ?_ | refine AW_blockR ?_ | refine AW_blockD ?_ | refine AW_blockC ?_ | refine AO_nil ?_ | refine AW_draw ?_ | refine AW_draw3 ?_ | refine AW_blockD3 ?_ | (refine AW_drawA ?_; simp only [atBlk, Sm]) | refine AHd_nil ?_ | with_reducible (first | refine AP_at ?_ | refine AHP_at ?_) | (with_reducible (first | apply AO_any | apply AHd_any | apply AP_go | apply AHP_go); focus (simp only [Sm, wantedA, execA, stepA, List.getElem?_cons_zero, List.getElem?_cons_succ, if_true, if_false, binA, binInt, unA, eqA, Option.map, eq_self, reduceCtorEq, ite_true, ite_false, fitsAll, CK.fits, fillA, AV.cells, writeN, sliceCells, appendA, lenA, i64, loA, hiA, Nat.reduceAdd, Nat.reduceMul, Nat.reduceDiv, Nat.reduceSub, Nat.reduceLeDiff, Nat.reduceLT, Int.reduceLE, Int.reduceLT, foldA, maxA, minA, Int.reduceBEq, Int.reduceBNe, Int.reduceGT, Int.reduceGE, Int.reduceEq, Int.reduceNe, Int.reduceToNat, AOp.stops, ↓want_eq, ↓exec_lenX, ↓exec_storeX, ↓exec_storeN, storeN_one, ↓exec_bsX, ↓exec_sliceX, ↓exec_copyX, ↓exec_appNil, ↓exec_carryX, Nat.sub_zero, rep_len, rep, List.replicate, s5']; with_reducible first | exact EqP.at_ | exact EqP.cont | exact EqP.hcont | exact EqP.gate | exact EqP.hgate)) | (refine AW_ift ?_ ?_; focus (simp only [Sm]; done)) | (refine AW_iff ?_ ?_; focus (simp only [Sm]; done))))
  exact AW_ret ⟨_, by simp only [outA, resA, ressA, AV.tv, Option.map_some, Sm, wantedA, execA, stepA, List.getElem?_cons_zero, List.getElem?_cons_succ, if_true, if_false, binA, binInt, unA, eqA, Option.map, eq_self, reduceCtorEq, ite_true, ite_false, fitsAll, CK.fits, fillA, AV.cells, writeN, sliceCells, appendA, lenA, i64, loA, hiA, Nat.reduceAdd, Nat.reduceMul, Nat.reduceDiv, Nat.reduceSub, Nat.reduceLeDiff, Nat.reduceLT, Int.reduceLE, Int.reduceLT, foldA, maxA, minA, r5] <;> with_reducible rfl, rfl⟩
theorem AC_Initial : AC A H.length F_sha_Initial [] H (fun v H' => v = .agg (W32 Is)) := by
  refine AC_enter t_sha_Initial ?_; simp only [c_sha_Initial, enterA, List.replicate, List.length_cons, List.length_nil, Nat.reduceAdd, Nat.reduceSub, List.cons_append, List.nil_append]
  have o2 : hown (H ++ [Blk.own (rep 8 (.int .u32 0))]) H.length = some (rep 8 (.int .u32 0)) := hown_last
  obtain ⟨H5, s5, o5, c5, l5⟩ := storeN_ex (n := 8) o2 (Nat.le_refl _) rep_len (W32 Is) rfl
  have r5 : readN H5 H.length 0 8 = some (W32 Is) := readN_all (hcells_own o5)
  have s5' := s5
  simp only [W32, Is, List.map_cons, List.map_nil, rep, List.replicate, Int.cast_ofNat_Int] at s5'
  (repeat (first | with_reducible (first | refine thenQ_n ?_ | refine blockQ_n ?_ | refine thenQ_e ?_ | refine thenQ_r ?_ | refine blockQ_r ?_ | refine blockQ_s ?_ | refine blockQ_o rfl ?_) | refine AW_skip ?_ | refine AW_seq ?_ | refine AW_ops ?_ | refine AW_blockS ?_ | refine AW_blockR ?_ | refine AW_blockD ?_ | refine AW_blockC ?_ | refine AO_nil ?_ | refine AW_draw ?_ | refine AW_draw3 ?_ | refine AW_blockD3 ?_ | (refine AW_drawA ?_; simp only [atBlk, Sm]) | refine AHd_nil ?_ | with_reducible (first | refine AP_at ?_ | refine AHP_at ?_) | (with_reducible (first | apply AO_any | apply AHd_any | apply AP_go | apply AHP_go); focus (simp only [Sm, wantedA, execA, stepA, List.getElem?_cons_zero, List.getElem?_cons_succ, if_true, if_false, binA, binInt, unA, eqA, Option.map, eq_self, reduceCtorEq, ite_true, ite_false, fitsAll, CK.fits, fillA, AV.cells, writeN, sliceCells, appendA, lenA, i64, loA, hiA, Nat.reduceAdd, Nat.reduceMul, Nat.reduceDiv, Nat.reduceSub, Nat.reduceLeDiff, Nat.reduceLT, Int.reduceLE, Int.reduceLT, foldA, maxA, minA, Int.reduceBEq, Int.reduceBNe, Int.reduceGT, Int.reduceGE, Int.reduceEq, Int.reduceNe, Int.reduceToNat, AOp.stops, ↓want_eq, ↓exec_lenX, ↓exec_storeX, ↓exec_storeN, storeN_one, ↓exec_bsX, ↓exec_sliceX, ↓exec_copyX, ↓exec_appNil, ↓exec_carryX, Nat.sub_zero, rep_len, rep, List.replicate, s5']; with_reducible first | exact EqP.at_ | exact EqP.cont | exact EqP.hcont | exact EqP.gate | exact EqP.hgate)) | (refine AW_ift ?_ ?_; focus (simp only [Sm]; done)) | (refine AW_iff ?_ ?_; focus (simp only [Sm]; done))))
  exact AW_ret ⟨_, by simp only [outA, resA, ressA, AV.tv, Option.map_some, Sm, wantedA, execA, stepA, List.getElem?_cons_zero, List.getElem?_cons_succ, if_true, if_false, binA, binInt, unA, eqA, Option.map, eq_self, reduceCtorEq, ite_true, ite_false, fitsAll, CK.fits, fillA, AV.cells, writeN, sliceCells, appendA, lenA, i64, loA, hiA, Nat.reduceAdd, Nat.reduceMul, Nat.reduceDiv, Nat.reduceSub, Nat.reduceLeDiff, Nat.reduceLT, Int.reduceLE, Int.reduceLT, foldA, maxA, minA, r5] <;> with_reducible rfl, rfl⟩
end

/-! a round -/
def sB1 (e : Nat) : Nat := rt 6 e ^^^ rt 11 e ^^^ rt 25 e
def sB0 (a : Nat) : Nat := rt 2 a ^^^ rt 13 a ^^^ rt 22 a
def chO (e f g : Nat) : Nat := (e &&& f) ^^^ ((4294967295 - e) &&& g)
def mjO (a b c : Nat) : Nat := (a &&& b) ^^^ (a &&& c) ^^^ (b &&& c)
def t1O (k w : Nat) (e f g h : Nat) : Nat := ad (ad (ad (ad h (sB1 e)) (chO e f g)) k) w
def t2O (a b c : Nat) : Nat := ad (sB0 a) (mjO a b c)
def rndO (k w : Nat) : List Nat → List Nat
  | [a, b, c, d, e, f, g, h] => [ad (t1O k w e f g h) (t2O a b c), a, b, c, ad d (t1O k w e f g h), e, f, g]
  | l => l
def rnds (ks ws s : List Nat) : Nat → List Nat
  | 0 => s
  | i + 1 => rndO (ks.getD i 0) (ws.getD i 0) (rnds ks ws s i)
def addW (s t : List Nat) : List Nat := List.zipWith ad s t
def compO (s bs : List Nat) : List Nat := addW s (rnds Ks (exW (wide (tk 4 (3 - ·) bs bs.length)) 48) s 64)
theorem Wd8 {s : List Nat} (h : Wd 8 s) : ∃ a b c d e f g i, s = [a, b, c, d, e, f, g, i] ∧ a < 4294967296 ∧ b < 4294967296 ∧ c < 4294967296 ∧ d < 4294967296 ∧ e < 4294967296 ∧ f < 4294967296 ∧ g < 4294967296 ∧ i < 4294967296 := by
  obtain ⟨hl, hk⟩ := h
  match s, hl with
  | [a, b, c, d, e, f, g, i], _ => exact ⟨a, b, c, d, e, f, g, i, rfl, hk 0, hk 1, hk 2, hk 3, hk 4, hk 5, hk 6, hk 7⟩
theorem Wd8_mk {a b c d e f g i : Nat} (h0 : a < 4294967296) (h1 : b < 4294967296) (h2 : c < 4294967296) (h3 : d < 4294967296) (h4 : e < 4294967296) (h5 : f < 4294967296) (h6 : g < 4294967296) (h7 : i < 4294967296) : Wd 8 [a, b, c, d, e, f, g, i] := by
  refine Wd_of rfl fun x hx => ?_
  simp only [List.mem_cons, List.not_mem_nil, or_false] at hx
  rcases hx with rfl | rfl | rfl | rfl | rfl | rfl | rfl | rfl <;> assumption
theorem rnd_wd {k w : Nat} {s : List Nat} (h : Wd 8 s) : Wd 8 (rndO k w s) := by
  obtain ⟨a, b, c, d, e, f, g, i, rfl, h0, h1, h2, h3, h4, h5, h6, h7⟩ := Wd8 h
  exact Wd8_mk (ad_lt _ _) h0 h1 h2 (ad_lt _ _) h4 h5 h6
theorem rnds_wd {ks ws s : List Nat} (h : Wd 8 s) : ∀ i, Wd 8 (rnds ks ws s i)
  | 0 => h
  | i + 1 => rnd_wd (rnds_wd h i)
theorem addW_wd {s t : List Nat} (hs : Wd 8 s) (ht : Wd 8 t) : Wd 8 (addW s t) := by
  obtain ⟨a, b, c, d, e, f, g, i, rfl, h0, h1, h2, h3, h4, h5, h6, h7⟩ := Wd8 hs
  obtain ⟨a', b', c', d', e', f', g', i', rfl, h0', h1', h2', h3', h4', h5', h6', h7'⟩ := Wd8 ht
  exact Wd8_mk (ad_lt _ _) (ad_lt _ _) (ad_lt _ _) (ad_lt _ _) (ad_lt _ _) (ad_lt _ _) (ad_lt _ _) (ad_lt _ _)
theorem compO_wd {s bs : List Nat} (h : Wd 8 s) : Wd 8 (compO s bs) := addW_wd h (rnds_wd h _)
end PK
