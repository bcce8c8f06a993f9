/- Texts of this claim, put together: L12c L12d L12e KShuffle L23a KPestleref23 L23b L12f L01o L01p L12g. -/
import Derived.Test.YtkmclhpnakphfaaG8
/- Salsa's double round and core: walked. -/
namespace PK
open Go PAbs
set_option linter.unusedSimpArgs false
set_option linter.unusedVariables false
set_option maxRecDepth 100000
set_option maxHeartbeats 4000000

theorem W32_setL {l : List Nat} {i n : Nat} : (W32 l).set i (.int .u32 (n : Int)) = W32 (l.set i n) := by simp [W32, List.map_set]
def qAt (x : List Nat) (a b c d : Nat) : List Nat :=
  (((x.set a (q4 (x.getD a 0) (x.getD b 0) (x.getD c 0) (x.getD d 0))).set b (q1 (x.getD a 0) (x.getD b 0) (x.getD c 0) (x.getD d 0))).set c (q2 (x.getD a 0) (x.getD b 0) (x.getD c 0) (x.getD d 0))).set d (q3 (x.getD a 0) (x.getD b 0) (x.getD c 0) (x.getD d 0))
def la (i : Nat) : Nat := [0, 5, 10, 15, 0, 5, 10, 15].getD i 0
def lb (i : Nat) : Nat := [4, 9, 14, 3, 1, 6, 11, 12].getD i 0
def lc (i : Nat) : Nat := [8, 13, 2, 7, 2, 7, 8, 13].getD i 0
def ld (i : Nat) : Nat := [12, 1, 6, 11, 3, 4, 9, 14].getD i 0
def dblK (x : List Nat) : Nat → List Nat
  | 0 => x
  | k + 1 => qAt (dblK x k) (la k) (lb k) (lc k) (ld k)
def dbl (x : List Nat) : List Nat := dblK x 8
def Words (x : List Nat) : Prop := x.length = 16 ∧ ∀ k, x.getD k 0 < 4294967296
theorem Words.set {x : List Nat} (h : Words x) {i n : Nat} (hn : n < 4294967296) : Words (x.set i n) := by
  refine ⟨by rw [List.length_set]; exact h.1, fun k => ?_⟩
  rw [List.getD_eq_getElem?_getD, List.getElem?_set]
  split
  · split
    · exact hn
    · simp
  · rw [← List.getD_eq_getElem?_getD]; exact h.2 k
theorem Words.qAt {x : List Nat} (h : Words x) (a b c d : Nat) : Words (qAt x a b c d) :=
  (((h.set (q4_lt _ _ _ _ (h.2 a) (h.2 b) (h.2 c) (h.2 d))).set (q1_lt _ _ _ _ (h.2 a) (h.2 b) (h.2 c) (h.2 d))).set (q2_lt _ _ _ _ (h.2 a) (h.2 b) (h.2 c) (h.2 d))).set (q3_lt _ _ _ _ (h.2 a) (h.2 b) (h.2 c) (h.2 d))
theorem Words.dblK {x : List Nat} (h : Words x) : ∀ k, Words (dblK x k)
  | 0 => h
  | k + 1 => (Words.dblK h k).qAt _ _ _ _
theorem Words.len {x : List Nat} (h : Words x) : (W32 x).length = 16 := by rw [W32_length]; exact h.1
theorem Words.get {x : List Nat} (h : Words x) {i : Nat} (hi : i < 16) : (W32 x)[i]? = some (.int .u32 ((x.getD i 0 : Nat) : Int)) := W32_get (by rw [h.1]; exact hi)

def lines32 : List Cell := [.int .i64 0, .int .i64 4, .int .i64 8, .int .i64 12, .int .i64 5, .int .i64 9, .int .i64 13, .int .i64 1, .int .i64 10, .int .i64 14, .int .i64 2, .int .i64 6, .int .i64 15, .int .i64 3, .int .i64 7, .int .i64 11,
  .int .i64 0, .int .i64 1, .int .i64 2, .int .i64 3, .int .i64 5, .int .i64 6, .int .i64 7, .int .i64 4, .int .i64 10, .int .i64 11, .int .i64 8, .int .i64 9, .int .i64 15, .int .i64 12, .int .i64 13, .int .i64 14]
theorem lines_at : ∀ i : Fin 8, (lines32.drop (i.val * 4)).take 4 = [.int .i64 ((la i.val : Nat) : Int), .int .i64 ((lb i.val : Nat) : Int), .int .i64 ((lc i.val : Nat) : Int), .int .i64 ((ld i.val : Nat) : Int)] := by decide
theorem lines_lt : ∀ i : Fin 8, la i.val < 16 ∧ lb i.val < 16 ∧ lc i.val < 16 ∧ ld i.val < 16 := by decide
theorem rep_32 {α : Type} {x : α} : rep 32 x = [x, x, x, x, x, x, x, x, x, x, x, x, x, x, x, x, x, x, x, x, x, x, x, x, x, x, x, x, x, x, x, x] := rfl

theorem AC_lines (H : AHeap) : AC A H.length F_salsa_lines [] H (fun v H' => v = .agg lines32) := by
  refine AC_enter t_salsa_lines ?_; simp only [c_salsa_lines, enterA, List.replicate, List.length_cons, List.length_nil, Nat.reduceAdd, Nat.reduceSub, List.cons_append, List.nil_append]
  (repeat (first | with_reducible refine thenQ_n ?_ | with_reducible refine blockQ_n ?_ | refine AW_skip ?_ | refine AW_seq ?_ | refine AW_ops ?_ | refine AW_blockS ?_ | refine AW_blockR ?_ | refine AW_blockD ?_ | refine AW_blockC ?_ | refine AO_nil ?_ | refine AW_draw ?_ | refine AW_draw3 ?_ | refine AW_blockD3 ?_ | refine AHd_nil ?_ | ((first | with_reducible apply AO_pre | with_reducible apply AHd_pre); focus (simp only [Sm, wantedA, execA, stepA, List.getElem?_cons_zero, List.getElem?_cons_succ, if_true, if_false, binA, binInt, unA, eqA, Option.map, eq_self, reduceCtorEq, ite_true, ite_false, cellsAV, fitsAll, CK.fits, fillA, AV.cells, writeN, readN, sliceCells, appendA, lenA, i64, loA, hiA, Nat.reduceAdd, Nat.reduceMul, Nat.reduceDiv, Nat.reduceSub, Nat.reduceLeDiff, Nat.reduceLT, Int.reduceLE, Int.reduceLT, foldA, maxA, minA, Int.reduceBEq, Int.reduceBNe, Int.reduceGT, Int.reduceGE, Int.reduceEq, Int.reduceNe, Int.reduceToNat, AOp.stops, ↓want_eq, ↓exec_lenX]; with_reducible rfl))))
  (repeat (first | with_reducible refine thenQ_n ?_ | with_reducible refine blockQ_n ?_ | refine AW_skip ?_ | refine AW_seq ?_ | refine AW_ops ?_ | refine AW_blockS ?_ | refine AW_blockR ?_ | refine AW_blockD ?_ | refine AW_blockC ?_ | refine AO_nil ?_ | refine AW_draw ?_ | refine AW_draw3 ?_ | refine AW_blockD3 ?_ | refine AHd_nil ?_ | ((first | with_reducible apply AO_pre | with_reducible apply AHd_pre); focus (simp only [Sm, wantedA, execA, stepA, List.getElem?_cons_zero, List.getElem?_cons_succ, if_true, if_false, binA, binInt, unA, eqA, Option.map, eq_self, reduceCtorEq, ite_true, ite_false, cellsAV, fitsAll, CK.fits, fillA, AV.cells, writeN, readN, sliceCells, appendA, lenA, i64, loA, hiA, Nat.reduceAdd, Nat.reduceMul, Nat.reduceDiv, Nat.reduceSub, Nat.reduceLeDiff, Nat.reduceLT, Int.reduceLE, Int.reduceLT, foldA, maxA, minA, Int.reduceBEq, Int.reduceBNe, Int.reduceGT, Int.reduceGE, Int.reduceEq, Int.reduceNe, Int.reduceToNat, AOp.stops, ↓want_eq, ↓exec_lenX, rep_4, rep_32, ↓exec_storeN, storeN_last (Nat.le_refl _)]; with_reducible rfl))))
  exact AW_ret ⟨_, by simp only [outA, resA, ressA, AV.tv, Option.map_some, List.take_succ_cons, List.take_zero, List.drop_succ_cons, List.drop_zero, bne_self_eq_false, List.map_cons, List.map_nil, Bool.true_beq, Bool.false_beq, run_nil, run_cons, run_gate, cont_some, gate_true, gate_false, hrun_nil, hrun_cons, hrun_gate, hcont_some, hgate_true, hgate_false, put_some, put_none, ev_t, ev_k, wantedA, execA, stepA, List.set_cons_succ, List.set_cons_zero, List.getD_cons_succ, List.getD_cons_zero, List.getElem?_cons_zero, List.getElem?_cons_succ, if_true, if_false, binA, binInt, unA, eqA, Option.map, eq_self, true_or, or_true, true_and, and_true, and_self, beq_self_eq_true, Bool.not_true, Bool.not_false, reduceCtorEq, Bool.false_eq_true, ite_true, ite_false, cellsAV, fitsAll, CK.fits, decide_true, Bool.and_true, Bool.true_and, fillA, AV.cells, writeN, readN, sliceCells, appendA, lenA, i64, loA, hiA, hcells_last, hown_last, List.take_zero, List.drop_zero, List.nil_append, List.cons_append, List.append_nil, List.take_nil, List.drop_nil, List.length_cons, List.length_nil, List.length_append, Nat.zero_add, Nat.add_zero, Nat.reduceAdd, Nat.reduceMul, Nat.reduceDiv, Nat.reduceSub, Nat.mul_one, Nat.one_mul, Nat.div_one, Nat.le_refl, Nat.reduceLeDiff, Nat.reduceLT, Int.toNat_natCast, Int.toNat_zero, Nat.zero_le, Int.natCast_nonneg, Int.reduceLE, Int.reduceLT, Option.some.injEq, foldA, maxA, minA, Cell.int.injEq, AV.c.injEq, pre_nil, pre_cons, pre_gate, pre1_cons, pre1_gate, qstop_true, qstop_false, qstopg_false, qgate_true, qgate_false, pcont_some, pstop_true, pstop_false, pstopg_false, pgate_true, pgate_false, hpre_nil, hpre_cons, hpre_gate, hpre1_cons, hpre1_gate, hqstop_true, hqstop_false, hqstopg_false, hqgate_true, hqgate_false, hpcont_some, hpstop_true, hpstop_false, hpstopg_false, hpgate_true, hpgate_false, Int.reduceBEq, Int.reduceBNe, Int.reduceGT, Int.reduceGE, Int.reduceEq, Int.reduceNe, decide_false, nat_0, nat_1, nat_2, nat_3, nat_4, nat_8, nat_16, nat_64, nat_128, Int.reduceToNat, AOp.stops, pre1_nil, hpre1_nil, ↓want_eq, wantV_bool, wantV_undef, ↓exec_lenX, lenX_snil, lenX_slc] <;> with_reducible rfl, by rfl⟩


def dbI (p : Nat) (x : List Nat) (H0 : AHeap) (i : Nat) (fr : AFrame) (H : AHeap) : Prop := Chg (· = p) H0 H ∧ hown H p = some (W32 (dblK x i)) ∧ hown H (p + 1) = some (rep 16 (.int .u32 0)) ∧ (∃ s : Nat → AV, fr = [s 0, .c (.ptr p 0), .c (.ptr (p + 1) 0), s 3, s 4, s 5, s 6, s 7, s 8, .agg lines32, .c (.int .i64 (i : Int)), s 11, s 12, s 13, s 14, s 15, s 16, s 17, s 18, s 19, s 20, s 21, s 22, s 23, s 24, s 25, s 26, s 27, s 28, s 29, s 30, s 31, s 32, s 33, s 34, s 35, s 36, s 37, s 38, s 39, s 40, s 41, s 42, s 43, s 44, s 45, s 46, s 47, s 48])

theorem AC_Double (H : AHeap) (x : List Nat) (hx : Words x) : AC A H.length F_salsa_Double [.agg (W32 x)] H (fun v H' => v = .agg (W32 (dbl x))) := by
  refine AC_enter t_salsa_Double ?_; simp only [c_salsa_Double, enterA, List.replicate, List.length_cons, List.length_nil, Nat.reduceAdd, Nat.reduceSub, List.cons_append, List.nil_append]
  refine AW_seq (AW_ops (AO_pre (by simp only [List.take_succ_cons, List.take_zero, List.drop_succ_cons, List.drop_zero, bne_self_eq_false, List.map_cons, List.map_nil, Bool.true_beq, Bool.false_beq, run_nil, run_cons, run_gate, cont_some, gate_true, gate_false, hrun_nil, hrun_cons, hrun_gate, hcont_some, hgate_true, hgate_false, put_some, put_none, ev_t, ev_k, wantedA, execA, stepA, List.set_cons_succ, List.set_cons_zero, List.getD_cons_succ, List.getD_cons_zero, List.getElem?_cons_zero, List.getElem?_cons_succ, if_true, if_false, binA, binInt, unA, eqA, Option.map, eq_self, true_or, or_true, true_and, and_true, and_self, beq_self_eq_true, Bool.not_true, Bool.not_false, reduceCtorEq, Bool.false_eq_true, ite_true, ite_false, cellsAV, fitsAll, CK.fits, decide_true, Bool.and_true, Bool.true_and, fillA, AV.cells, writeN, readN, sliceCells, appendA, lenA, i64, loA, hiA, hcells_last, hown_last, List.take_zero, List.drop_zero, List.nil_append, List.cons_append, List.append_nil, List.take_nil, List.drop_nil, List.length_cons, List.length_nil, List.length_append, Nat.zero_add, Nat.add_zero, Nat.reduceAdd, Nat.reduceMul, Nat.reduceDiv, Nat.reduceSub, Nat.mul_one, Nat.one_mul, Nat.div_one, Nat.le_refl, Nat.reduceLeDiff, Nat.reduceLT, Int.toNat_natCast, Int.toNat_zero, Nat.zero_le, Int.natCast_nonneg, Int.reduceLE, Int.reduceLT, Option.some.injEq, foldA, maxA, minA, Cell.int.injEq, AV.c.injEq, pre_nil, pre_cons, pre_gate, pre1_cons, pre1_gate, qstop_true, qstop_false, qstopg_false, qgate_true, qgate_false, pcont_some, pstop_true, pstop_false, pstopg_false, pgate_true, pgate_false, hpre_nil, hpre_cons, hpre_gate, hpre1_cons, hpre1_gate, hqstop_true, hqstop_false, hqstopg_false, hqgate_true, hqgate_false, hpcont_some, hpstop_true, hpstop_false, hpstopg_false, hpgate_true, hpgate_false, Int.reduceBEq, Int.reduceBNe, Int.reduceGT, Int.reduceGE, Int.reduceEq, Int.reduceNe, decide_false, nat_0, nat_1, nat_2, nat_3, nat_4, nat_8, nat_16, nat_64, nat_128, Int.reduceToNat, AOp.stops, pre1_nil, hpre1_nil, ↓want_eq, wantV_bool, wantV_undef, ↓exec_lenX, lenX_snil, lenX_slc]; with_reducible rfl) (AO_nil ?_)))
  have ho : hown (H ++ [Blk.own (W32 x)] ++ [Blk.own (rep 16 (.int .u32 0))]) H.length = some (W32 x) := hown_app hown_last
  have hz : hown (H ++ [Blk.own (W32 x)] ++ [Blk.own (rep 16 (.int .u32 0))]) (H ++ [Blk.own (W32 x)]).length = some (rep 16 (.int .u32 0)) := hown_last
  have hq1 : (H ++ [Blk.own (W32 x)]).length = H.length + 1 := by simp
  rw [hq1] at hz
  try simp only [List.length_append, List.length_cons, List.length_nil, Nat.zero_add]
  have hfl : H.length ≤ (H ++ [Blk.own (W32 x)] ++ [Blk.own (rep 16 (.int .u32 0))]).length := by simp
  generalize H ++ [Blk.own (W32 x)] ++ [Blk.own (rep 16 (.int .u32 0))] = H1 at *
  generalize H.length = p at *
  (repeat (first | with_reducible refine thenQ_n ?_ | with_reducible refine blockQ_n ?_ | refine AW_skip ?_ | refine AW_seq ?_ | refine AW_ops ?_ | refine AW_blockS ?_ | refine AW_blockR ?_ | refine AW_blockD ?_ | refine AW_blockC ?_ | refine AO_nil ?_ | refine AW_draw ?_ | refine AW_draw3 ?_ | refine AW_blockD3 ?_ | refine AHd_nil ?_ | ((first | with_reducible apply AO_pre | with_reducible apply AHd_pre); focus (simp only [Sm, wantedA, execA, stepA, List.getElem?_cons_zero, List.getElem?_cons_succ, if_true, if_false, binA, binInt, unA, eqA, Option.map, eq_self, reduceCtorEq, ite_true, ite_false, cellsAV, fitsAll, CK.fits, fillA, AV.cells, writeN, readN, sliceCells, appendA, lenA, i64, loA, hiA, Nat.reduceAdd, Nat.reduceMul, Nat.reduceDiv, Nat.reduceSub, Nat.reduceLeDiff, Nat.reduceLT, Int.reduceLE, Int.reduceLT, foldA, maxA, minA, Int.reduceBEq, Int.reduceBNe, Int.reduceGT, Int.reduceGE, Int.reduceEq, Int.reduceNe, Int.reduceToNat, AOp.stops, ↓want_eq, ↓exec_lenX]; with_reducible rfl))))
  refine AO_call rfl ((AC_lines H1).kept hfl) ?_
  rintro _ H2 ⟨rfl, k2⟩
  have c2 := Chg.of_kept k2
  have ho2 := c2.hown (fun h => h) ho
  have hz2 := c2.hown (fun h => h) hz
  clear ho hz k2 c2 hq1
  (repeat (first | with_reducible refine thenQ_n ?_ | with_reducible refine blockQ_n ?_ | refine AW_skip ?_ | refine AW_seq ?_ | refine AW_ops ?_ | refine AW_blockS ?_ | refine AW_blockR ?_ | refine AW_blockD ?_ | refine AW_blockC ?_ | refine AO_nil ?_ | refine AW_draw ?_ | refine AW_draw3 ?_ | refine AW_blockD3 ?_ | refine AHd_nil ?_ | ((first | with_reducible apply AO_pre | with_reducible apply AHd_pre); focus (simp only [Sm, wantedA, execA, stepA, List.getElem?_cons_zero, List.getElem?_cons_succ, if_true, if_false, binA, binInt, unA, eqA, Option.map, eq_self, reduceCtorEq, ite_true, ite_false, cellsAV, fitsAll, CK.fits, fillA, AV.cells, writeN, readN, sliceCells, appendA, lenA, i64, loA, hiA, Nat.reduceAdd, Nat.reduceMul, Nat.reduceDiv, Nat.reduceSub, Nat.reduceLeDiff, Nat.reduceLT, Int.reduceLE, Int.reduceLT, foldA, maxA, minA, Int.reduceBEq, Int.reduceBNe, Int.reduceGT, Int.reduceGE, Int.reduceEq, Int.reduceNe, Int.reduceToNat, AOp.stops, ↓want_eq, ↓exec_lenX]; with_reducible rfl))))
  refine AW_mid (fun e fr H' => e = .normal ∧ dbI p x H2 8 fr H') ?_ ?_
  · refine AW_block (AW_up (dbI p x H2) 8 ⟨Chg.refl _ _, ho2, hz2, stale _ _ rfl⟩ ?_)
    rintro i fr H3 hi ⟨c3, ho3, hz3, st, rfl⟩
    (repeat (first | with_reducible refine thenQ_n ?_ | with_reducible refine blockQ_n ?_ | refine AW_skip ?_ | refine AW_seq ?_ | refine AW_ops ?_ | refine AW_blockS ?_ | refine AW_blockR ?_ | refine AW_blockD ?_ | refine AW_blockC ?_ | refine AO_nil ?_ | refine AW_draw ?_ | refine AW_draw3 ?_ | refine AW_blockD3 ?_ | refine AHd_nil ?_ | ((first | with_reducible apply AO_pre | with_reducible apply AHd_pre); focus (simp only [Sm, wantedA, execA, stepA, List.getElem?_cons_zero, List.getElem?_cons_succ, if_true, if_false, binA, binInt, unA, eqA, Option.map, eq_self, reduceCtorEq, ite_true, ite_false, cellsAV, fitsAll, CK.fits, fillA, AV.cells, writeN, readN, sliceCells, appendA, lenA, i64, loA, hiA, Nat.reduceAdd, Nat.reduceMul, Nat.reduceDiv, Nat.reduceSub, Nat.reduceLeDiff, Nat.reduceLT, Int.reduceLE, Int.reduceLT, foldA, maxA, minA, Int.reduceBEq, Int.reduceBNe, Int.reduceGT, Int.reduceGE, Int.reduceEq, Int.reduceNe, Int.reduceToNat, AOp.stops, ↓want_eq, ↓exec_lenX]; with_reducible rfl))))
    refine AW_cond rfl ?_ ?_ <;> intro ht
    · have ht : (i : Int) < 8 := of_decide_eq_true ht
      have hi8 : i < 8 := by omega
      have hline := lines_at ⟨i, hi8⟩
      obtain ⟨a1, a2, a3, a4⟩ := lines_lt ⟨i, hi8⟩
      have hW := hx.dblK i
      have hsucc : dblK x (i + 1) = qAt (dblK x i) (la i) (lb i) (lc i) (ld i) := rfl
      simp only at hline a1 a2 a3 a4
      generalize dblK x i = l at *
      generalize la i = a at *
      generalize lb i = b at *
      generalize lc i = c at *
      generalize ld i = d at *
      have q0 : i * 4 + 4 ≤ lines32.length := by show i * 4 + 4 ≤ 32; omega
      (repeat (first | with_reducible refine thenQ_n ?_ | with_reducible refine blockQ_n ?_ | refine AW_skip ?_ | refine AW_seq ?_ | refine AW_ops ?_ | refine AW_blockS ?_ | refine AW_blockR ?_ | refine AW_blockD ?_ | refine AW_blockC ?_ | refine AO_nil ?_ | refine AW_draw ?_ | refine AW_draw3 ?_ | refine AW_blockD3 ?_ | refine AHd_nil ?_ | ((first | with_reducible apply AO_pre | with_reducible apply AHd_pre); focus (simp only [Sm, wantedA, execA, stepA, List.getElem?_cons_zero, List.getElem?_cons_succ, if_true, if_false, binA, binInt, unA, eqA, Option.map, eq_self, reduceCtorEq, ite_true, ite_false, cellsAV, fitsAll, CK.fits, fillA, AV.cells, writeN, readN, sliceCells, appendA, lenA, i64, loA, hiA, Nat.reduceAdd, Nat.reduceMul, Nat.reduceDiv, Nat.reduceSub, Nat.reduceLeDiff, Nat.reduceLT, Int.reduceLE, Int.reduceLT, foldA, maxA, minA, Int.reduceBEq, Int.reduceBNe, Int.reduceGT, Int.reduceGE, Int.reduceEq, Int.reduceNe, Int.reduceToNat, AOp.stops, ↓want_eq, ↓exec_lenX, ht, q0, hline, rep_4, ↓exec_storeN, storeN_last (by have := hown_lt hz3; omega : p ≤ H3.length)]; with_reducible rfl))))
      have c4 : Chg none_ H3 (H3 ++ [Blk.own [.int .i64 (a : Int), .int .i64 (b : Int), .int .i64 (c : Int), .int .i64 (d : Int)]]) := Chg.push _ _ _
      have ho4 := c4.hown (fun h => h) ho3
      have hz4 := c4.hown (fun h => h) hz3
      generalize H3 ++ [Blk.own [.int .i64 (a : Int), .int .i64 (b : Int), .int .i64 (c : Int), .int .i64 (d : Int)]] = H4 at *
      obtain ⟨H5, e5, hp5, c5, hz5⟩ : ∃ H5, H4 = H5.set p (.own (W32 l)) ∧ p < H5.length ∧ Chg none_ H3 H5 ∧ hown H5 (p + 1) = some (rep 16 (.int .u32 0)) := ⟨H4, set_id ho4, hown_lt ho4, c4, hz4⟩
      rw [e5]
      clear e5 ho4 hz4 c4
      have b1 : (a : Int) < 16 := by omega
      have b2 : (b : Int) < 16 := by omega
      have b3 : (c : Int) < 16 := by omega
      have b4 : (d : Int) < 16 := by omega
      (repeat (first | with_reducible refine thenQ_n ?_ | with_reducible refine blockQ_n ?_ | refine AW_skip ?_ | refine AW_seq ?_ | refine AW_ops ?_ | refine AW_blockS ?_ | refine AW_blockR ?_ | refine AW_blockD ?_ | refine AW_blockC ?_ | refine AO_nil ?_ | refine AW_draw ?_ | refine AW_draw3 ?_ | refine AW_blockD3 ?_ | refine AHd_nil ?_ | ((first | with_reducible apply AO_pre | with_reducible apply AHd_pre); focus (simp only [Sm, wantedA, execA, stepA, List.getElem?_cons_zero, List.getElem?_cons_succ, if_true, if_false, binA, binInt, unA, eqA, Option.map, eq_self, reduceCtorEq, ite_true, ite_false, cellsAV, fitsAll, CK.fits, fillA, AV.cells, writeN, readN, sliceCells, appendA, lenA, i64, loA, hiA, Nat.reduceAdd, Nat.reduceMul, Nat.reduceDiv, Nat.reduceSub, Nat.reduceLeDiff, Nat.reduceLT, Int.reduceLE, Int.reduceLT, foldA, maxA, minA, Int.reduceBEq, Int.reduceBNe, Int.reduceGT, Int.reduceGE, Int.reduceEq, Int.reduceNe, Int.reduceToNat, AOp.stops, ↓want_eq, ↓exec_lenX, hcells_setS hp5, b1, b2, b3, b4, hW.get a1, hW.get a2, hW.get a3, hW.get a4, Nat.zero_add]; with_reducible rfl))))
      refine AHd_call rfl (AC_Quarter _ _ _ _ _ _ (hW.2 a) (hW.2 b) (hW.2 c) (hW.2 d)) ?_
      rintro _ _ ⟨rfl, rfl⟩ _
      (repeat (first | with_reducible refine thenQ_n ?_ | with_reducible refine blockQ_n ?_ | refine AW_skip ?_ | refine AW_seq ?_ | refine AW_ops ?_ | refine AW_blockS ?_ | refine AW_blockR ?_ | refine AW_blockD ?_ | refine AW_blockC ?_ | refine AO_nil ?_ | refine AW_draw ?_ | refine AW_draw3 ?_ | refine AW_blockD3 ?_ | refine AHd_nil ?_ | ((first | with_reducible apply AO_pre | with_reducible apply AHd_pre); focus (simp only [Sm, wantedA, execA, stepA, List.getElem?_cons_zero, List.getElem?_cons_succ, if_true, if_false, binA, binInt, unA, eqA, Option.map, eq_self, reduceCtorEq, ite_true, ite_false, cellsAV, fitsAll, CK.fits, fillA, AV.cells, writeN, readN, sliceCells, appendA, lenA, i64, loA, hiA, Nat.reduceAdd, Nat.reduceMul, Nat.reduceDiv, Nat.reduceSub, Nat.reduceLeDiff, Nat.reduceLT, Int.reduceLE, Int.reduceLT, foldA, maxA, minA, Int.reduceBEq, Int.reduceBNe, Int.reduceGT, Int.reduceGE, Int.reduceEq, Int.reduceNe, Int.reduceToNat, AOp.stops, ↓want_eq, ↓exec_lenX, hcells_setS hp5, b1, b2, b3, b4, ↓exec_storeX, storeX_setS hp5 (Nat.le_refl _), W32_setL, W32_length, List.length_set, hW.1, a1, a2, a3, a4, Nat.zero_add, i64_succ (show i < 9223372036854775807 by omega)]; with_reducible rfl))))
      refine ⟨hi8, (c3.trans (c5.mono (T := (· = p)) fun _ _ h => h.elim) fun _ _ h => h).trans (Chg.set (S := (· = p)) rfl) fun _ _ h => h, ?_, ?_, stale _ _ rfl⟩
      · rw [hown_set hp5, hsucc]; rfl
      · rw [hown_set_ne (by omega)]; exact hz5
    · obtain rfl : i = 8 := by have : ¬ (i : Int) < 8 := of_decide_eq_false ht; omega
      exact AW_exit ⟨rfl, c3, ho3, hz3, stale _ _ rfl⟩
  rintro e fr H3 ⟨rfl, c3, ho3, hz3, st, rfl⟩
  have hl : (W32 (dblK x 8)).length = 16 := (hx.dblK 8).len
  have hr : readN H3 p 0 16 = some (W32 (dblK x 8)) := by rw [← hl]; exact readN_all (hcells_own ho3)
  have hp3 := hown_lt hz3
  (repeat (first | with_reducible refine thenQ_n ?_ | with_reducible refine blockQ_n ?_ | refine AW_skip ?_ | refine AW_seq ?_ | refine AW_ops ?_ | refine AW_blockS ?_ | refine AW_blockR ?_ | refine AW_blockD ?_ | refine AW_blockC ?_ | refine AO_nil ?_ | refine AW_draw ?_ | refine AW_draw3 ?_ | refine AW_blockD3 ?_ | refine AHd_nil ?_ | ((first | with_reducible apply AO_pre | with_reducible apply AHd_pre); focus (simp only [Sm, wantedA, execA, stepA, List.getElem?_cons_zero, List.getElem?_cons_succ, if_true, if_false, binA, binInt, unA, eqA, Option.map, eq_self, reduceCtorEq, ite_true, ite_false, cellsAV, fitsAll, CK.fits, fillA, AV.cells, writeN, readN, sliceCells, appendA, lenA, i64, loA, hiA, Nat.reduceAdd, Nat.reduceMul, Nat.reduceDiv, Nat.reduceSub, Nat.reduceLeDiff, Nat.reduceLT, Int.reduceLE, Int.reduceLT, foldA, maxA, minA, Int.reduceBEq, Int.reduceBNe, Int.reduceGT, Int.reduceGE, Int.reduceEq, Int.reduceNe, Int.reduceToNat, AOp.stops, ↓want_eq, ↓exec_lenX, ↓hr, ↓exec_storeN, storeN_all hz3 (Nat.le_succ _) rep_len hl]; with_reducible rfl))))
  have hr2 : readN (H3.set (p + 1) (.own (W32 (dblK x 8)))) (p + 1) 0 16 = some (W32 (dblK x 8)) := by rw [← hl]; exact readN_all (hcells_set hp3)
  exact AW_ret ⟨_, by simp only [outA, resA, ressA, AV.tv, Option.map_some, List.take_succ_cons, List.take_zero, List.drop_succ_cons, List.drop_zero, bne_self_eq_false, List.map_cons, List.map_nil, Bool.true_beq, Bool.false_beq, run_nil, run_cons, run_gate, cont_some, gate_true, gate_false, hrun_nil, hrun_cons, hrun_gate, hcont_some, hgate_true, hgate_false, put_some, put_none, ev_t, ev_k, wantedA, execA, stepA, List.set_cons_succ, List.set_cons_zero, List.getD_cons_succ, List.getD_cons_zero, List.getElem?_cons_zero, List.getElem?_cons_succ, if_true, if_false, binA, binInt, unA, eqA, Option.map, eq_self, true_or, or_true, true_and, and_true, and_self, beq_self_eq_true, Bool.not_true, Bool.not_false, reduceCtorEq, Bool.false_eq_true, ite_true, ite_false, cellsAV, fitsAll, CK.fits, decide_true, Bool.and_true, Bool.true_and, fillA, AV.cells, writeN, readN, sliceCells, appendA, lenA, i64, loA, hiA, hcells_last, hown_last, List.take_zero, List.drop_zero, List.nil_append, List.cons_append, List.append_nil, List.take_nil, List.drop_nil, List.length_cons, List.length_nil, List.length_append, Nat.zero_add, Nat.add_zero, Nat.reduceAdd, Nat.reduceMul, Nat.reduceDiv, Nat.reduceSub, Nat.mul_one, Nat.one_mul, Nat.div_one, Nat.le_refl, Nat.reduceLeDiff, Nat.reduceLT, Int.toNat_natCast, Int.toNat_zero, Nat.zero_le, Int.natCast_nonneg, Int.reduceLE, Int.reduceLT, Option.some.injEq, foldA, maxA, minA, Cell.int.injEq, AV.c.injEq, pre_nil, pre_cons, pre_gate, pre1_cons, pre1_gate, qstop_true, qstop_false, qstopg_false, qgate_true, qgate_false, pcont_some, pstop_true, pstop_false, pstopg_false, pgate_true, pgate_false, hpre_nil, hpre_cons, hpre_gate, hpre1_cons, hpre1_gate, hqstop_true, hqstop_false, hqstopg_false, hqgate_true, hqgate_false, hpcont_some, hpstop_true, hpstop_false, hpstopg_false, hpgate_true, hpgate_false, Int.reduceBEq, Int.reduceBNe, Int.reduceGT, Int.reduceGE, Int.reduceEq, Int.reduceNe, decide_false, nat_0, nat_1, nat_2, nat_3, nat_4, nat_8, nat_16, nat_64, nat_128, Int.reduceToNat, AOp.stops, pre1_nil, hpre1_nil, ↓want_eq, wantV_bool, wantV_undef, ↓exec_lenX, lenX_snil, lenX_slc, ↓hr2] <;> with_reducible rfl, by rfl⟩
end PK

/- Salsa's core, eight rounds: walked; the document's half rounds and core. -/
namespace PK
open Go PAbs
set_option linter.unusedSimpArgs false
set_option linter.unusedVariables false
set_option maxRecDepth 100000
set_option maxHeartbeats 1000000

def dblN (x : List Nat) : Nat → List Nat
  | 0 => x
  | k + 1 => dbl (dblN x k)
theorem Words.dblN {x : List Nat} (h : Words x) : ∀ k, Words (dblN x k)
  | 0 => h
  | k + 1 => (Words.dblN h k).dblK 8
def addS (y x : List Nat) (k : Nat) : List Nat := upd (fun i => s32 (y.getD i 0) (x.getD i 0)) y k
def core (x : List Nat) (n : Nat) : List Nat := addS (dblN x n) x 16
theorem Words.addS {y : List Nat} (h : Words y) (x : List Nat) : ∀ k, Words (addS y x k)
  | 0 => h
  | k + 1 => (Words.addS h x k).set (s32_lt _ _)
theorem addS_self {y x : List Nat} {k : Nat} (h : Words y) (hk : k < 16) : (addS y x k).getD k 0 = y.getD k 0 := by
  rw [List.getD_eq_getElem?_getD, List.getD_eq_getElem?_getD]
  have := upd_self (f := fun i => s32 (y.getD i 0) (x.getD i 0)) (l := y) k (by rw [h.1]; exact hk)
  show ((upd _ y k)[k]?).getD 0 = _
  rw [this]


def co1 (p n : Nat) (x : List Nat) (H0 : AHeap) (i : Nat) (fr : AFrame) (H : AHeap) : Prop := Chg (· = p + 2) H0 H ∧ hown H (p + 2) = some (W32 (dblN x i)) ∧ (∃ s : Nat → AV, fr = [s 0, s 1, .c (.ptr p 0), s 3, .c (.ptr (p + 1) 0), s 5, .c (.ptr (p + 2) 0), s 7, s 8, s 9, s 10, s 11, s 12, s 13, s 14, s 15, .c (.int .i64 (n : Int)), .c (.int .i64 (i : Int)), s 18, s 19, s 20, s 21, s 22, s 23, s 24, s 25, s 26, s 27, s 28, s 29, s 30, s 31, s 32, s 33, s 34])

def co2 (p : Nat) (y x : List Nat) (H0 : AHeap) (i : Nat) (fr : AFrame) (H : AHeap) : Prop := Chg (· = p + 2) H0 H ∧ hown H (p + 2) = some (W32 (addS y x i)) ∧ (∃ s : Nat → AV, fr = [s 0, s 1, .c (.ptr p 0), s 3, .c (.ptr (p + 1) 0), s 5, .c (.ptr (p + 2) 0), s 7, s 8, s 9, s 10, s 11, s 12, s 13, s 14, s 15, s 16, s 17, s 18, s 19, s 20, s 21, .c (.int .i64 (i : Int)), s 23, s 24, s 25, s 26, s 27, s 28, s 29, s 30, s 31, s 32, s 33, s 34])

theorem AC_Core (H : AHeap) (x : List Nat) (hx : Words x) (z : Int) (hz : -9223372036854775808 ≤ z ∧ z ≤ 9223372036854775807) : AC A H.length F_salsa_Core [.agg (W32 x), .c (.int .i64 z)] H
    (fun v H' => ((z < 0 ∨ z > 100) ∧ v = .tup [.agg (rep 16 (.int .u32 0)), .c (.int .i64 1)]) ∨ (0 ≤ z ∧ z ≤ 100 ∧ v = .tup [.agg (W32 (core x z.toNat)), .c (.int .i64 0)])) := by
  refine AC_enter t_salsa_Core ?_; simp only [c_salsa_Core, enterA, List.replicate, List.length_cons, List.length_nil, Nat.reduceAdd, Nat.reduceSub, List.cons_append, List.nil_append]
  refine AW_seq (AW_ops (AO_pre (by simp only [List.take_succ_cons, List.take_zero, List.drop_succ_cons, List.drop_zero, bne_self_eq_false, List.map_cons, List.map_nil, Bool.true_beq, Bool.false_beq, run_nil, run_cons, run_gate, cont_some, gate_true, gate_false, hrun_nil, hrun_cons, hrun_gate, hcont_some, hgate_true, hgate_false, put_some, put_none, ev_t, ev_k, wantedA, execA, stepA, List.set_cons_succ, List.set_cons_zero, List.getD_cons_succ, List.getD_cons_zero, List.getElem?_cons_zero, List.getElem?_cons_succ, if_true, if_false, binA, binInt, unA, eqA, Option.map, eq_self, true_or, or_true, true_and, and_true, and_self, beq_self_eq_true, Bool.not_true, Bool.not_false, reduceCtorEq, Bool.false_eq_true, ite_true, ite_false, cellsAV, fitsAll, CK.fits, decide_true, Bool.and_true, Bool.true_and, fillA, AV.cells, writeN, readN, sliceCells, appendA, lenA, i64, loA, hiA, hcells_last, hown_last, List.take_zero, List.drop_zero, List.nil_append, List.cons_append, List.append_nil, List.take_nil, List.drop_nil, List.length_cons, List.length_nil, List.length_append, Nat.zero_add, Nat.add_zero, Nat.reduceAdd, Nat.reduceMul, Nat.reduceDiv, Nat.reduceSub, Nat.mul_one, Nat.one_mul, Nat.div_one, Nat.le_refl, Nat.reduceLeDiff, Nat.reduceLT, Int.toNat_natCast, Int.toNat_zero, Nat.zero_le, Int.natCast_nonneg, Int.reduceLE, Int.reduceLT, Option.some.injEq, foldA, maxA, minA, Cell.int.injEq, AV.c.injEq, pre_nil, pre_cons, pre_gate, pre1_cons, pre1_gate, qstop_true, qstop_false, qstopg_false, qgate_true, qgate_false, pcont_some, pstop_true, pstop_false, pstopg_false, pgate_true, pgate_false, hpre_nil, hpre_cons, hpre_gate, hpre1_cons, hpre1_gate, hqstop_true, hqstop_false, hqstopg_false, hqgate_true, hqgate_false, hpcont_some, hpstop_true, hpstop_false, hpstopg_false, hpgate_true, hpgate_false, Int.reduceBEq, Int.reduceBNe, Int.reduceGT, Int.reduceGE, Int.reduceEq, Int.reduceNe, decide_false, nat_0, nat_1, nat_2, nat_3, nat_4, nat_8, nat_16, nat_64, nat_128, Int.reduceToNat, AOp.stops, pre1_nil, hpre1_nil, ↓want_eq, wantV_bool, wantV_undef, ↓exec_lenX, lenX_snil, lenX_slc]; with_reducible rfl) (AO_nil ?_)))
  have ho : hown (H ++ [Blk.own (W32 x)] ++ [Blk.own (rep 16 (.int .u32 0))]) H.length = some (W32 x) := hown_app hown_last
  have hz4 : hown (H ++ [Blk.own (W32 x)] ++ [Blk.own (rep 16 (.int .u32 0))]) (H ++ [Blk.own (W32 x)]).length = some (rep 16 (.int .u32 0)) := hown_last
  have hq1 : (H ++ [Blk.own (W32 x)]).length = H.length + 1 := by simp
  rw [hq1] at hz4
  try simp only [List.length_append, List.length_cons, List.length_nil, Nat.zero_add]
  have hfl : (H ++ [Blk.own (W32 x)] ++ [Blk.own (rep 16 (.int .u32 0))]).length = H.length + 2 := by simp
  generalize H ++ [Blk.own (W32 x)] ++ [Blk.own (rep 16 (.int .u32 0))] = H1 at *
  generalize H.length = p at *
  have hbad : (z < 0 ∨ z > 100) → AW A p (.seq (.region
      [⟨some 14, .build (rep 16 (.int .u32 0)) [], none⟩,
        ⟨none, .store 16 (.t 4) (.t 14), none⟩,
        ⟨some 5, .mv (.k (.c (.int .i64 1))), none⟩]) .ret) [] H1 (fun _ _ _ => True) → True := fun _ _ => trivial
  have hr4 : ∀ (K : AHeap), K = H1.set (p + 1) (.own (rep 16 (.int .u32 0))) → readN K (p + 1) 0 16 = some (rep 16 (.int .u32 0)) := by
    rintro _ rfl
    exact readN_all (cs := rep 16 (Cell.int .u32 0)) (hcells_set (hown_lt hz4))
  rcases Decidable.em (z < 0) with h1 | h1
  · (repeat (first | with_reducible refine thenQ_n ?_ | with_reducible refine blockQ_n ?_ | refine AW_skip ?_ | refine AW_seq ?_ | refine AW_ops ?_ | refine AW_blockS ?_ | refine AW_blockR ?_ | refine AW_blockD ?_ | refine AW_blockC ?_ | refine AO_nil ?_ | refine AW_draw ?_ | refine AW_draw3 ?_ | refine AW_blockD3 ?_ | refine AHd_nil ?_ | ((first | with_reducible apply AO_pre | with_reducible apply AHd_pre); focus (simp only [Sm, wantedA, execA, stepA, List.getElem?_cons_zero, List.getElem?_cons_succ, if_true, if_false, binA, binInt, unA, eqA, Option.map, eq_self, reduceCtorEq, ite_true, ite_false, cellsAV, fitsAll, CK.fits, fillA, AV.cells, writeN, readN, sliceCells, appendA, lenA, i64, loA, hiA, Nat.reduceAdd, Nat.reduceMul, Nat.reduceDiv, Nat.reduceSub, Nat.reduceLeDiff, Nat.reduceLT, Int.reduceLE, Int.reduceLT, foldA, maxA, minA, Int.reduceBEq, Int.reduceBNe, Int.reduceGT, Int.reduceGE, Int.reduceEq, Int.reduceNe, Int.reduceToNat, AOp.stops, ↓want_eq, ↓exec_lenX, decide_eq_true h1]; with_reducible rfl))))
    refine AW_cond (t := true) rfl (fun _ => ?_) (fun h => by cases h)
    (repeat (first | with_reducible refine thenQ_n ?_ | with_reducible refine blockQ_n ?_ | refine AW_skip ?_ | refine AW_seq ?_ | refine AW_ops ?_ | refine AW_blockS ?_ | refine AW_blockR ?_ | refine AW_blockD ?_ | refine AW_blockC ?_ | refine AO_nil ?_ | refine AW_draw ?_ | refine AW_draw3 ?_ | refine AW_blockD3 ?_ | refine AHd_nil ?_ | ((first | with_reducible apply AO_pre | with_reducible apply AHd_pre); focus (simp only [Sm, wantedA, execA, stepA, List.getElem?_cons_zero, List.getElem?_cons_succ, if_true, if_false, binA, binInt, unA, eqA, Option.map, eq_self, reduceCtorEq, ite_true, ite_false, cellsAV, fitsAll, CK.fits, fillA, AV.cells, writeN, readN, sliceCells, appendA, lenA, i64, loA, hiA, Nat.reduceAdd, Nat.reduceMul, Nat.reduceDiv, Nat.reduceSub, Nat.reduceLeDiff, Nat.reduceLT, Int.reduceLE, Int.reduceLT, foldA, maxA, minA, Int.reduceBEq, Int.reduceBNe, Int.reduceGT, Int.reduceGE, Int.reduceEq, Int.reduceNe, Int.reduceToNat, AOp.stops, ↓want_eq, ↓exec_lenX, fillA, ↓exec_storeN, storeN_all hz4 (Nat.le_succ _) rep_len rep_len]; with_reducible rfl))))
    exact AW_ret ⟨_, by simp only [outA, resA, ressA, AV.tv, Option.map_some, List.take_succ_cons, List.take_zero, List.drop_succ_cons, List.drop_zero, bne_self_eq_false, List.map_cons, List.map_nil, Bool.true_beq, Bool.false_beq, run_nil, run_cons, run_gate, cont_some, gate_true, gate_false, hrun_nil, hrun_cons, hrun_gate, hcont_some, hgate_true, hgate_false, put_some, put_none, ev_t, ev_k, wantedA, execA, stepA, List.set_cons_succ, List.set_cons_zero, List.getD_cons_succ, List.getD_cons_zero, List.getElem?_cons_zero, List.getElem?_cons_succ, if_true, if_false, binA, binInt, unA, eqA, Option.map, eq_self, true_or, or_true, true_and, and_true, and_self, beq_self_eq_true, Bool.not_true, Bool.not_false, reduceCtorEq, Bool.false_eq_true, ite_true, ite_false, cellsAV, fitsAll, CK.fits, decide_true, Bool.and_true, Bool.true_and, fillA, AV.cells, writeN, readN, sliceCells, appendA, lenA, i64, loA, hiA, hcells_last, hown_last, List.take_zero, List.drop_zero, List.nil_append, List.cons_append, List.append_nil, List.take_nil, List.drop_nil, List.length_cons, List.length_nil, List.length_append, Nat.zero_add, Nat.add_zero, Nat.reduceAdd, Nat.reduceMul, Nat.reduceDiv, Nat.reduceSub, Nat.mul_one, Nat.one_mul, Nat.div_one, Nat.le_refl, Nat.reduceLeDiff, Nat.reduceLT, Int.toNat_natCast, Int.toNat_zero, Nat.zero_le, Int.natCast_nonneg, Int.reduceLE, Int.reduceLT, Option.some.injEq, foldA, maxA, minA, Cell.int.injEq, AV.c.injEq, pre_nil, pre_cons, pre_gate, pre1_cons, pre1_gate, qstop_true, qstop_false, qstopg_false, qgate_true, qgate_false, pcont_some, pstop_true, pstop_false, pstopg_false, pgate_true, pgate_false, hpre_nil, hpre_cons, hpre_gate, hpre1_cons, hpre1_gate, hqstop_true, hqstop_false, hqstopg_false, hqgate_true, hqgate_false, hpcont_some, hpstop_true, hpstop_false, hpstopg_false, hpgate_true, hpgate_false, Int.reduceBEq, Int.reduceBNe, Int.reduceGT, Int.reduceGE, Int.reduceEq, Int.reduceNe, decide_false, nat_0, nat_1, nat_2, nat_3, nat_4, nat_8, nat_16, nat_64, nat_128, Int.reduceToNat, AOp.stops, pre1_nil, hpre1_nil, ↓want_eq, wantV_bool, wantV_undef, ↓exec_lenX, lenX_snil, lenX_slc, ↓hr4 _ rfl] <;> with_reducible rfl, by exact .inl ⟨.inl h1, rfl⟩⟩
  rcases Decidable.em (z > 100) with h2 | h2
  · (repeat (first | with_reducible refine thenQ_n ?_ | with_reducible refine blockQ_n ?_ | refine AW_skip ?_ | refine AW_seq ?_ | refine AW_ops ?_ | refine AW_blockS ?_ | refine AW_blockR ?_ | refine AW_blockD ?_ | refine AW_blockC ?_ | refine AO_nil ?_ | refine AW_draw ?_ | refine AW_draw3 ?_ | refine AW_blockD3 ?_ | refine AHd_nil ?_ | ((first | with_reducible apply AO_pre | with_reducible apply AHd_pre); focus (simp only [Sm, wantedA, execA, stepA, List.getElem?_cons_zero, List.getElem?_cons_succ, if_true, if_false, binA, binInt, unA, eqA, Option.map, eq_self, reduceCtorEq, ite_true, ite_false, cellsAV, fitsAll, CK.fits, fillA, AV.cells, writeN, readN, sliceCells, appendA, lenA, i64, loA, hiA, Nat.reduceAdd, Nat.reduceMul, Nat.reduceDiv, Nat.reduceSub, Nat.reduceLeDiff, Nat.reduceLT, Int.reduceLE, Int.reduceLT, foldA, maxA, minA, Int.reduceBEq, Int.reduceBNe, Int.reduceGT, Int.reduceGE, Int.reduceEq, Int.reduceNe, Int.reduceToNat, AOp.stops, ↓want_eq, ↓exec_lenX, decide_eq_false h1, decide_eq_true h2]; with_reducible rfl))))
    refine AW_cond (t := true) rfl (fun _ => ?_) (fun h => by cases h)
    (repeat (first | with_reducible refine thenQ_n ?_ | with_reducible refine blockQ_n ?_ | refine AW_skip ?_ | refine AW_seq ?_ | refine AW_ops ?_ | refine AW_blockS ?_ | refine AW_blockR ?_ | refine AW_blockD ?_ | refine AW_blockC ?_ | refine AO_nil ?_ | refine AW_draw ?_ | refine AW_draw3 ?_ | refine AW_blockD3 ?_ | refine AHd_nil ?_ | ((first | with_reducible apply AO_pre | with_reducible apply AHd_pre); focus (simp only [Sm, wantedA, execA, stepA, List.getElem?_cons_zero, List.getElem?_cons_succ, if_true, if_false, binA, binInt, unA, eqA, Option.map, eq_self, reduceCtorEq, ite_true, ite_false, cellsAV, fitsAll, CK.fits, fillA, AV.cells, writeN, readN, sliceCells, appendA, lenA, i64, loA, hiA, Nat.reduceAdd, Nat.reduceMul, Nat.reduceDiv, Nat.reduceSub, Nat.reduceLeDiff, Nat.reduceLT, Int.reduceLE, Int.reduceLT, foldA, maxA, minA, Int.reduceBEq, Int.reduceBNe, Int.reduceGT, Int.reduceGE, Int.reduceEq, Int.reduceNe, Int.reduceToNat, AOp.stops, ↓want_eq, ↓exec_lenX, fillA, ↓exec_storeN, storeN_all hz4 (Nat.le_succ _) rep_len rep_len]; with_reducible rfl))))
    exact AW_ret ⟨_, by simp only [outA, resA, ressA, AV.tv, Option.map_some, List.take_succ_cons, List.take_zero, List.drop_succ_cons, List.drop_zero, bne_self_eq_false, List.map_cons, List.map_nil, Bool.true_beq, Bool.false_beq, run_nil, run_cons, run_gate, cont_some, gate_true, gate_false, hrun_nil, hrun_cons, hrun_gate, hcont_some, hgate_true, hgate_false, put_some, put_none, ev_t, ev_k, wantedA, execA, stepA, List.set_cons_succ, List.set_cons_zero, List.getD_cons_succ, List.getD_cons_zero, List.getElem?_cons_zero, List.getElem?_cons_succ, if_true, if_false, binA, binInt, unA, eqA, Option.map, eq_self, true_or, or_true, true_and, and_true, and_self, beq_self_eq_true, Bool.not_true, Bool.not_false, reduceCtorEq, Bool.false_eq_true, ite_true, ite_false, cellsAV, fitsAll, CK.fits, decide_true, Bool.and_true, Bool.true_and, fillA, AV.cells, writeN, readN, sliceCells, appendA, lenA, i64, loA, hiA, hcells_last, hown_last, List.take_zero, List.drop_zero, List.nil_append, List.cons_append, List.append_nil, List.take_nil, List.drop_nil, List.length_cons, List.length_nil, List.length_append, Nat.zero_add, Nat.add_zero, Nat.reduceAdd, Nat.reduceMul, Nat.reduceDiv, Nat.reduceSub, Nat.mul_one, Nat.one_mul, Nat.div_one, Nat.le_refl, Nat.reduceLeDiff, Nat.reduceLT, Int.toNat_natCast, Int.toNat_zero, Nat.zero_le, Int.natCast_nonneg, Int.reduceLE, Int.reduceLT, Option.some.injEq, foldA, maxA, minA, Cell.int.injEq, AV.c.injEq, pre_nil, pre_cons, pre_gate, pre1_cons, pre1_gate, qstop_true, qstop_false, qstopg_false, qgate_true, qgate_false, pcont_some, pstop_true, pstop_false, pstopg_false, pgate_true, pgate_false, hpre_nil, hpre_cons, hpre_gate, hpre1_cons, hpre1_gate, hqstop_true, hqstop_false, hqstopg_false, hqgate_true, hqgate_false, hpcont_some, hpstop_true, hpstop_false, hpstopg_false, hpgate_true, hpgate_false, Int.reduceBEq, Int.reduceBNe, Int.reduceGT, Int.reduceGE, Int.reduceEq, Int.reduceNe, decide_false, nat_0, nat_1, nat_2, nat_3, nat_4, nat_8, nat_16, nat_64, nat_128, Int.reduceToNat, AOp.stops, pre1_nil, hpre1_nil, ↓want_eq, wantV_bool, wantV_undef, ↓exec_lenX, lenX_snil, lenX_slc, ↓hr4 _ rfl] <;> with_reducible rfl, by exact .inl ⟨.inr h2, rfl⟩⟩
  obtain ⟨n, rfl⟩ := Int.eq_ofNat_of_zero_le (show 0 ≤ z by omega)
  have hn : n ≤ 100 := by omega
  (repeat (first | with_reducible refine thenQ_n ?_ | with_reducible refine blockQ_n ?_ | refine AW_skip ?_ | refine AW_seq ?_ | refine AW_ops ?_ | refine AW_blockS ?_ | refine AW_blockR ?_ | refine AW_blockD ?_ | refine AW_blockC ?_ | refine AO_nil ?_ | refine AW_draw ?_ | refine AW_draw3 ?_ | refine AW_blockD3 ?_ | refine AHd_nil ?_ | ((first | with_reducible apply AO_pre | with_reducible apply AHd_pre); focus (simp only [Sm, wantedA, execA, stepA, List.getElem?_cons_zero, List.getElem?_cons_succ, if_true, if_false, binA, binInt, unA, eqA, Option.map, eq_self, reduceCtorEq, ite_true, ite_false, cellsAV, fitsAll, CK.fits, fillA, AV.cells, writeN, readN, sliceCells, appendA, lenA, i64, loA, hiA, Nat.reduceAdd, Nat.reduceMul, Nat.reduceDiv, Nat.reduceSub, Nat.reduceLeDiff, Nat.reduceLT, Int.reduceLE, Int.reduceLT, foldA, maxA, minA, Int.reduceBEq, Int.reduceBNe, Int.reduceGT, Int.reduceGE, Int.reduceEq, Int.reduceNe, Int.reduceToNat, AOp.stops, ↓want_eq, ↓exec_lenX, decide_eq_false h1, decide_eq_false h2]; with_reducible rfl))))
  refine AW_cond (t := false) rfl (fun h => by cases h) fun _ => ?_
  have hr : readN H1 p 0 16 = some (W32 x) := by rw [← hx.len]; exact readN_all (hcells_own ho)
  (repeat (first | with_reducible refine thenQ_n ?_ | with_reducible refine blockQ_n ?_ | refine AW_skip ?_ | refine AW_seq ?_ | refine AW_ops ?_ | refine AW_blockS ?_ | refine AW_blockR ?_ | refine AW_blockD ?_ | refine AW_blockC ?_ | refine AO_nil ?_ | refine AW_draw ?_ | refine AW_draw3 ?_ | refine AW_blockD3 ?_ | refine AHd_nil ?_ | ((first | with_reducible apply AO_pre | with_reducible apply AHd_pre); focus (simp only [Sm, wantedA, execA, stepA, List.getElem?_cons_zero, List.getElem?_cons_succ, if_true, if_false, binA, binInt, unA, eqA, Option.map, eq_self, reduceCtorEq, ite_true, ite_false, cellsAV, fitsAll, CK.fits, fillA, AV.cells, writeN, readN, sliceCells, appendA, lenA, i64, loA, hiA, Nat.reduceAdd, Nat.reduceMul, Nat.reduceDiv, Nat.reduceSub, Nat.reduceLeDiff, Nat.reduceLT, Int.reduceLE, Int.reduceLT, foldA, maxA, minA, Int.reduceBEq, Int.reduceBNe, Int.reduceGT, Int.reduceGE, Int.reduceEq, Int.reduceNe, Int.reduceToNat, AOp.stops, ↓want_eq, ↓exec_lenX, ↓hr, ↓exec_storeN, storeN_last (by omega : p ≤ H1.length), rep_len, hx.len]; with_reducible rfl))))
  have c2 : Chg none_ H1 (H1 ++ [Blk.own (W32 x)]) := Chg.push _ _ _
  have ho2 := c2.hown (fun h => h) ho
  have hz2 := c2.hown (fun h => h) hz4
  have hy2 : hown (H1 ++ [Blk.own (W32 x)]) (p + 2) = some (W32 x) := by rw [← hfl]; exact hown_last
  rw [hfl]
  generalize H1 ++ [Blk.own (W32 x)] = H2 at *
  refine AW_mid (fun e fr H' => e = .normal ∧ co1 p n x H2 n fr H') ?_ ?_
  · refine AW_block (AW_up (co1 p n x H2) n ⟨Chg.refl _ _, hy2, stale _ _ rfl⟩ ?_)
    rintro i fr H3 hi ⟨c3, hy3, st, rfl⟩
    (repeat (first | with_reducible refine thenQ_n ?_ | with_reducible refine blockQ_n ?_ | refine AW_skip ?_ | refine AW_seq ?_ | refine AW_ops ?_ | refine AW_blockS ?_ | refine AW_blockR ?_ | refine AW_blockD ?_ | refine AW_blockC ?_ | refine AO_nil ?_ | refine AW_draw ?_ | refine AW_draw3 ?_ | refine AW_blockD3 ?_ | refine AHd_nil ?_ | ((first | with_reducible apply AO_pre | with_reducible apply AHd_pre); focus (simp only [Sm, wantedA, execA, stepA, List.getElem?_cons_zero, List.getElem?_cons_succ, if_true, if_false, binA, binInt, unA, eqA, Option.map, eq_self, reduceCtorEq, ite_true, ite_false, cellsAV, fitsAll, CK.fits, fillA, AV.cells, writeN, readN, sliceCells, appendA, lenA, i64, loA, hiA, Nat.reduceAdd, Nat.reduceMul, Nat.reduceDiv, Nat.reduceSub, Nat.reduceLeDiff, Nat.reduceLT, Int.reduceLE, Int.reduceLT, foldA, maxA, minA, Int.reduceBEq, Int.reduceBNe, Int.reduceGT, Int.reduceGE, Int.reduceEq, Int.reduceNe, Int.reduceToNat, AOp.stops, ↓want_eq, ↓exec_lenX]; with_reducible rfl))))
    refine AW_cond rfl ?_ ?_ <;> intro ht
    · have ht : (i : Int) < n := of_decide_eq_true ht
      have hW := hx.dblN i
      have hr3 : readN H3 (p + 2) 0 16 = some (W32 (dblN x i)) := by rw [← hW.len]; exact readN_all (hcells_own hy3)
      (repeat (first | with_reducible refine thenQ_n ?_ | with_reducible refine blockQ_n ?_ | refine AW_skip ?_ | refine AW_seq ?_ | refine AW_ops ?_ | refine AW_blockS ?_ | refine AW_blockR ?_ | refine AW_blockD ?_ | refine AW_blockC ?_ | refine AO_nil ?_ | refine AW_draw ?_ | refine AW_draw3 ?_ | refine AW_blockD3 ?_ | refine AHd_nil ?_ | ((first | with_reducible apply AO_pre | with_reducible apply AHd_pre); focus (simp only [Sm, wantedA, execA, stepA, List.getElem?_cons_zero, List.getElem?_cons_succ, if_true, if_false, binA, binInt, unA, eqA, Option.map, eq_self, reduceCtorEq, ite_true, ite_false, cellsAV, fitsAll, CK.fits, fillA, AV.cells, writeN, readN, sliceCells, appendA, lenA, i64, loA, hiA, Nat.reduceAdd, Nat.reduceMul, Nat.reduceDiv, Nat.reduceSub, Nat.reduceLeDiff, Nat.reduceLT, Int.reduceLE, Int.reduceLT, foldA, maxA, minA, Int.reduceBEq, Int.reduceBNe, Int.reduceGT, Int.reduceGE, Int.reduceEq, Int.reduceNe, Int.reduceToNat, AOp.stops, ↓want_eq, ↓exec_lenX, ↓hr3]; with_reducible rfl))))
      refine AO_call rfl ((AC_Double H3 _ hW).kept (by have := hown_lt hy3; omega)) ?_
      rintro _ H4 ⟨rfl, k4⟩
      have c4 := Chg.of_kept k4
      have hy4 := c4.hown (fun h => h) hy3
      (repeat (first | with_reducible refine thenQ_n ?_ | with_reducible refine blockQ_n ?_ | refine AW_skip ?_ | refine AW_seq ?_ | refine AW_ops ?_ | refine AW_blockS ?_ | refine AW_blockR ?_ | refine AW_blockD ?_ | refine AW_blockC ?_ | refine AO_nil ?_ | refine AW_draw ?_ | refine AW_draw3 ?_ | refine AW_blockD3 ?_ | refine AHd_nil ?_ | ((first | with_reducible apply AO_pre | with_reducible apply AHd_pre); focus (simp only [Sm, wantedA, execA, stepA, List.getElem?_cons_zero, List.getElem?_cons_succ, if_true, if_false, binA, binInt, unA, eqA, Option.map, eq_self, reduceCtorEq, ite_true, ite_false, cellsAV, fitsAll, CK.fits, fillA, AV.cells, writeN, readN, sliceCells, appendA, lenA, i64, loA, hiA, Nat.reduceAdd, Nat.reduceMul, Nat.reduceDiv, Nat.reduceSub, Nat.reduceLeDiff, Nat.reduceLT, Int.reduceLE, Int.reduceLT, foldA, maxA, minA, Int.reduceBEq, Int.reduceBNe, Int.reduceGT, Int.reduceGE, Int.reduceEq, Int.reduceNe, Int.reduceToNat, AOp.stops, ↓want_eq, ↓exec_lenX, ↓exec_storeN, storeN_all hy4 (by omega : p ≤ p + 2) hW.len (show (W32 (dbl (dblN x i))).length = 16 from (hW.dblK 8).len), i64_succ (show i < 9223372036854775807 by omega)]; with_reducible rfl))))
      refine ⟨by omega, (c3.trans c4 fun _ _ h => h.elim).trans (Chg.set (S := (· = p + 2)) rfl) fun _ _ h => h, hown_set (hown_lt hy4), stale _ _ rfl⟩
    · obtain rfl : i = n := by have : ¬ (i : Int) < n := of_decide_eq_false ht; omega
      exact AW_exit ⟨rfl, c3, hy3, stale _ _ rfl⟩
  rintro e fr H3 ⟨rfl, c3, hy3, st, rfl⟩
  have ho3 := c3.hown (by omega : ¬ p = p + 2) ho2
  have hz3 := c3.hown (by omega : ¬ p + 1 = p + 2) hz2
  have hW := hx.dblN n
  (repeat (first | with_reducible refine thenQ_n ?_ | with_reducible refine blockQ_n ?_ | refine AW_skip ?_ | refine AW_seq ?_ | refine AW_ops ?_ | refine AW_blockS ?_ | refine AW_blockR ?_ | refine AW_blockD ?_ | refine AW_blockC ?_ | refine AO_nil ?_ | refine AW_draw ?_ | refine AW_draw3 ?_ | refine AW_blockD3 ?_ | refine AHd_nil ?_ | ((first | with_reducible apply AO_pre | with_reducible apply AHd_pre); focus (simp only [Sm, wantedA, execA, stepA, List.getElem?_cons_zero, List.getElem?_cons_succ, if_true, if_false, binA, binInt, unA, eqA, Option.map, eq_self, reduceCtorEq, ite_true, ite_false, cellsAV, fitsAll, CK.fits, fillA, AV.cells, writeN, readN, sliceCells, appendA, lenA, i64, loA, hiA, Nat.reduceAdd, Nat.reduceMul, Nat.reduceDiv, Nat.reduceSub, Nat.reduceLeDiff, Nat.reduceLT, Int.reduceLE, Int.reduceLT, foldA, maxA, minA, Int.reduceBEq, Int.reduceBNe, Int.reduceGT, Int.reduceGE, Int.reduceEq, Int.reduceNe, Int.reduceToNat, AOp.stops, ↓want_eq, ↓exec_lenX]; with_reducible rfl))))
  refine AW_mid (fun e fr H' => e = .normal ∧ co2 p (dblN x n) x H3 16 fr H') ?_ ?_
  · refine AW_block (AW_up (co2 p (dblN x n) x H3) 16 ⟨Chg.refl _ _, hy3, stale _ _ rfl⟩ ?_)
    rintro i fr H4 hi ⟨c4, hy4, st, rfl⟩
    (repeat (first | with_reducible refine thenQ_n ?_ | with_reducible refine blockQ_n ?_ | refine AW_skip ?_ | refine AW_seq ?_ | refine AW_ops ?_ | refine AW_blockS ?_ | refine AW_blockR ?_ | refine AW_blockD ?_ | refine AW_blockC ?_ | refine AO_nil ?_ | refine AW_draw ?_ | refine AW_draw3 ?_ | refine AW_blockD3 ?_ | refine AHd_nil ?_ | ((first | with_reducible apply AO_pre | with_reducible apply AHd_pre); focus (simp only [Sm, wantedA, execA, stepA, List.getElem?_cons_zero, List.getElem?_cons_succ, if_true, if_false, binA, binInt, unA, eqA, Option.map, eq_self, reduceCtorEq, ite_true, ite_false, cellsAV, fitsAll, CK.fits, fillA, AV.cells, writeN, readN, sliceCells, appendA, lenA, i64, loA, hiA, Nat.reduceAdd, Nat.reduceMul, Nat.reduceDiv, Nat.reduceSub, Nat.reduceLeDiff, Nat.reduceLT, Int.reduceLE, Int.reduceLT, foldA, maxA, minA, Int.reduceBEq, Int.reduceBNe, Int.reduceGT, Int.reduceGE, Int.reduceEq, Int.reduceNe, Int.reduceToNat, AOp.stops, ↓want_eq, ↓exec_lenX]; with_reducible rfl))))
    refine AW_cond rfl ?_ ?_ <;> intro ht
    · have ht : (i : Int) < 16 := of_decide_eq_true ht
      have hi16 : i < 16 := by omega
      have ho4 := c4.hown (by omega : ¬ p = p + 2) ho3
      have hA := hW.addS x i
      have g1 := hA.get hi16
      rw [addS_self hW hi16] at g1
      have g2 := hx.get hi16
      (repeat (first | with_reducible refine thenQ_n ?_ | with_reducible refine blockQ_n ?_ | refine AW_skip ?_ | refine AW_seq ?_ | refine AW_ops ?_ | refine AW_blockS ?_ | refine AW_blockR ?_ | refine AW_blockD ?_ | refine AW_blockC ?_ | refine AO_nil ?_ | refine AW_draw ?_ | refine AW_draw3 ?_ | refine AW_blockD3 ?_ | refine AHd_nil ?_ | ((first | with_reducible apply AO_pre | with_reducible apply AHd_pre); focus (simp only [Sm, wantedA, execA, stepA, List.getElem?_cons_zero, List.getElem?_cons_succ, if_true, if_false, binA, binInt, unA, eqA, Option.map, eq_self, reduceCtorEq, ite_true, ite_false, cellsAV, fitsAll, CK.fits, fillA, AV.cells, writeN, readN, sliceCells, appendA, lenA, i64, loA, hiA, Nat.reduceAdd, Nat.reduceMul, Nat.reduceDiv, Nat.reduceSub, Nat.reduceLeDiff, Nat.reduceLT, Int.reduceLE, Int.reduceLT, foldA, maxA, minA, Int.reduceBEq, Int.reduceBNe, Int.reduceGT, Int.reduceGE, Int.reduceEq, Int.reduceNe, Int.reduceToNat, AOp.stops, ↓want_eq, ↓exec_lenX, hcells_own hy4, hcells_own ho4, ht, g1, g2, Nat.zero_add, u32_add, ↓exec_storeX, storeX_own hy4 (by omega : p ≤ p + 2) (by rw [hA.len]; exact hi16 : i < _), W32_setL, i64_succ (show i < 9223372036854775807 by omega)]; with_reducible rfl))))
      refine ⟨hi16, c4.trans (Chg.set (S := (· = p + 2)) rfl) fun _ _ h => h, hown_set (hown_lt hy4), stale _ _ rfl⟩
    · obtain rfl : i = 16 := by have : ¬ (i : Int) < 16 := of_decide_eq_false ht; omega
      exact AW_exit ⟨rfl, c4, hy4, stale _ _ rfl⟩
  rintro e fr H4 ⟨rfl, c4, hy4, st, rfl⟩
  have hz4' := c4.hown (by omega : ¬ p + 1 = p + 2) hz3
  have hA := hW.addS x 16
  have hr5 : readN H4 (p + 2) 0 16 = some (W32 (addS (dblN x n) x 16)) := by
    have := readN_all (hcells_own hy4)
    rw [hA.len] at this; exact this
  (repeat (first | with_reducible refine thenQ_n ?_ | with_reducible refine blockQ_n ?_ | refine AW_skip ?_ | refine AW_seq ?_ | refine AW_ops ?_ | refine AW_blockS ?_ | refine AW_blockR ?_ | refine AW_blockD ?_ | refine AW_blockC ?_ | refine AO_nil ?_ | refine AW_draw ?_ | refine AW_draw3 ?_ | refine AW_blockD3 ?_ | refine AHd_nil ?_ | ((first | with_reducible apply AO_pre | with_reducible apply AHd_pre); focus (simp only [Sm, wantedA, execA, stepA, List.getElem?_cons_zero, List.getElem?_cons_succ, if_true, if_false, binA, binInt, unA, eqA, Option.map, eq_self, reduceCtorEq, ite_true, ite_false, cellsAV, fitsAll, CK.fits, fillA, AV.cells, writeN, readN, sliceCells, appendA, lenA, i64, loA, hiA, Nat.reduceAdd, Nat.reduceMul, Nat.reduceDiv, Nat.reduceSub, Nat.reduceLeDiff, Nat.reduceLT, Int.reduceLE, Int.reduceLT, foldA, maxA, minA, Int.reduceBEq, Int.reduceBNe, Int.reduceGT, Int.reduceGE, Int.reduceEq, Int.reduceNe, Int.reduceToNat, AOp.stops, ↓want_eq, ↓exec_lenX, ↓hr5, ↓exec_storeN, storeN_all hz4' (by omega : p ≤ p + 1) rep_len hA.len]; with_reducible rfl))))
  have hr6 : readN (H4.set (p + 1) (.own (W32 (addS (dblN x n) x 16)))) (p + 1) 0 16 = some (W32 (addS (dblN x n) x 16)) := by
    have := readN_all (hcells_set (cs := W32 (addS (dblN x n) x 16)) (hown_lt hz4'))
    rw [hA.len] at this; exact this
  exact AW_ret ⟨_, by simp only [outA, resA, ressA, AV.tv, Option.map_some, List.take_succ_cons, List.take_zero, List.drop_succ_cons, List.drop_zero, bne_self_eq_false, List.map_cons, List.map_nil, Bool.true_beq, Bool.false_beq, run_nil, run_cons, run_gate, cont_some, gate_true, gate_false, hrun_nil, hrun_cons, hrun_gate, hcont_some, hgate_true, hgate_false, put_some, put_none, ev_t, ev_k, wantedA, execA, stepA, List.set_cons_succ, List.set_cons_zero, List.getD_cons_succ, List.getD_cons_zero, List.getElem?_cons_zero, List.getElem?_cons_succ, if_true, if_false, binA, binInt, unA, eqA, Option.map, eq_self, true_or, or_true, true_and, and_true, and_self, beq_self_eq_true, Bool.not_true, Bool.not_false, reduceCtorEq, Bool.false_eq_true, ite_true, ite_false, cellsAV, fitsAll, CK.fits, decide_true, Bool.and_true, Bool.true_and, fillA, AV.cells, writeN, readN, sliceCells, appendA, lenA, i64, loA, hiA, hcells_last, hown_last, List.take_zero, List.drop_zero, List.nil_append, List.cons_append, List.append_nil, List.take_nil, List.drop_nil, List.length_cons, List.length_nil, List.length_append, Nat.zero_add, Nat.add_zero, Nat.reduceAdd, Nat.reduceMul, Nat.reduceDiv, Nat.reduceSub, Nat.mul_one, Nat.one_mul, Nat.div_one, Nat.le_refl, Nat.reduceLeDiff, Nat.reduceLT, Int.toNat_natCast, Int.toNat_zero, Nat.zero_le, Int.natCast_nonneg, Int.reduceLE, Int.reduceLT, Option.some.injEq, foldA, maxA, minA, Cell.int.injEq, AV.c.injEq, pre_nil, pre_cons, pre_gate, pre1_cons, pre1_gate, qstop_true, qstop_false, qstopg_false, qgate_true, qgate_false, pcont_some, pstop_true, pstop_false, pstopg_false, pgate_true, pgate_false, hpre_nil, hpre_cons, hpre_gate, hpre1_cons, hpre1_gate, hqstop_true, hqstop_false, hqstopg_false, hqgate_true, hqgate_false, hpcont_some, hpstop_true, hpstop_false, hpstopg_false, hpgate_true, hpgate_false, Int.reduceBEq, Int.reduceBNe, Int.reduceGT, Int.reduceGE, Int.reduceEq, Int.reduceNe, decide_false, nat_0, nat_1, nat_2, nat_3, nat_4, nat_8, nat_16, nat_64, nat_128, Int.reduceToNat, AOp.stops, pre1_nil, hpre1_nil, ↓want_eq, wantV_bool, wantV_undef, ↓exec_lenX, lenX_snil, lenX_slc, ↓hr6] <;> with_reducible rfl, by rw [Int.toNat_natCast]; exact .inr ⟨by omega, by omega, by rfl⟩⟩
end PK

/- The document's half rounds and core; eight rounds: walked. -/
namespace PK
open Go PAbs
set_option linter.unusedSimpArgs false
set_option linter.unusedVariables false
set_option maxRecDepth 100000
set_option maxHeartbeats 2000000

def hat (rows : Bool) (i k : Nat) : Nat := if rows then 4 * i + (i + k) % 4 else 4 * ((i + k) % 4) + i
def halfK (x : List Nat) (rows : Bool) : Nat → List Nat
  | 0 => x
  | i + 1 => qAt (halfK x rows i) (hat rows i 0) (hat rows i 1) (hat rows i 2) (hat rows i 3)
theorem hat_lt {rows : Bool} {i k : Nat} (hi : i < 4) : hat rows i k < 16 := by
  have := Nat.mod_lt (i + k) (by omega : 0 < 4)
  cases rows <;> simp only [hat, Bool.false_eq_true, if_false, if_true] <;> omega
theorem Words.halfK {x : List Nat} (h : Words x) (rows : Bool) : ∀ k, Words (halfK x rows k)
  | 0 => h
  | k + 1 => (Words.halfK h rows k).qAt _ _ _ _
theorem dbl_half (x : List Nat) : dbl x = halfK (halfK x false 4) true 4 := rfl

def I64 (l : List Nat) : List Cell := l.map fun (n : Nat) => Cell.int .i64 (n : Int)
theorem I64_set {l : List Nat} {i n : Nat} : (I64 l).set i (.int .i64 (n : Int)) = I64 (l.set i n) := by simp [I64, List.map_set]
theorem I64_length {l : List Nat} : (I64 l).length = l.length := by simp [I64]
theorem I64_get {l : List Nat} {i : Nat} (h : i < l.length) : (I64 l)[i]? = some (.int .i64 ((l.getD i 0 : Nat) : Int)) := by simp [I64, h]

theorem upd4 (f : Nat → Nat) : upd f [0, 0, 0, 0] 4 = [f 0, f 1, f 2, f 3] := rfl
def putK (l : List Nat) (h v : Nat → Nat) : Nat → List Nat
  | 0 => l
  | k + 1 => (putK l h v k).set (h k) (v k)
theorem putK_length {l : List Nat} {h v : Nat → Nat} : ∀ k, (putK l h v k).length = l.length
  | 0 => rfl
  | k + 1 => by simp [putK, putK_length k]


def haI (p : Nat) (x : List Nat) (rows : Bool) (H0 : AHeap) (i : Nat) (fr : AFrame) (H : AHeap) : Prop := Chg (· = p) H0 H ∧ hown H p = some (W32 (halfK x rows i)) ∧ (∃ s : Nat → AV, fr = [s 0, .c (.bool rows), .c (.ptr p 0), s 3, .c (.ptr (p + 1) 0), .c (.int .i64 (i : Int)), s 6, s 7, s 8, s 9, s 10, s 11, s 12, s 13, s 14, s 15, s 16, s 17, s 18, s 19, s 20, s 21, s 22, s 23, s 24, s 25, s 26, s 27, s 28, s 29, s 30, s 31, s 32, s 33, s 34, s 35, s 36, s 37, s 38, s 39, s 40, s 41, s 42, s 43, s 44, s 45, s 46, s 47, s 48, s 49, s 50, s 51, s 52, s 53, s 54, s 55, s 56, s 57])

def haJ (p q i : Nat) (l : List Nat) (rows : Bool) (H0 : AHeap) (k : Nat) (fr : AFrame) (H : AHeap) : Prop := Chg (fun b => b = q ∨ b = q + 1) H0 H ∧ hown H q = some (I64 (upd (hat rows i) [0, 0, 0, 0] k)) ∧ hown H (q + 1) = some (W32 (upd (fun j => l.getD (hat rows i j) 0) [0, 0, 0, 0] k)) ∧ (∃ s : Nat → AV, fr = [s 0, .c (.bool rows), .c (.ptr p 0), s 3, .c (.ptr (p + 1) 0), .c (.int .i64 (i : Int)), .c (.ptr q 0), .c (.ptr (q + 1) 0), .c (.int .i64 (k : Int)), s 9, s 10, s 11, s 12, s 13, s 14, s 15, s 16, s 17, s 18, s 19, s 20, s 21, s 22, s 23, s 24, s 25, s 26, s 27, s 28, s 29, s 30, s 31, s 32, s 33, s 34, s 35, s 36, s 37, s 38, s 39, s 40, s 41, s 42, s 43, s 44, s 45, s 46, s 47, s 48, s 49, s 50, s 51, s 52, s 53, s 54, s 55, s 56, s 57])

def haL (p q i : Nat) (l : List Nat) (h v : Nat → Nat) (rows : Bool) (H0 : AHeap) (k : Nat) (fr : AFrame) (H : AHeap) : Prop := Chg (· = p) H0 H ∧ hown H p = some (W32 (putK l h v k)) ∧ (∃ s : Nat → AV, fr = [s 0, .c (.bool rows), .c (.ptr p 0), s 3, .c (.ptr (p + 1) 0), .c (.int .i64 (i : Int)), .c (.ptr q 0), .c (.ptr (q + 1) 0), s 8, .c (.int .i64 (k : Int)), s 10, s 11, s 12, s 13, s 14, s 15, s 16, s 17, s 18, s 19, s 20, s 21, s 22, s 23, s 24, s 25, s 26, s 27, s 28, s 29, s 30, s 31, s 32, s 33, s 34, s 35, s 36, s 37, s 38, s 39, s 40, s 41, s 42, s 43, s 44, s 45, s 46, s 47, s 48, s 49, s 50, s 51, s 52, s 53, s 54, s 55, s 56, s 57])

def c4_ (l : List Nat) (rows : Bool) (i : Nat) : List Cell := c4 (l.getD (hat rows i 0) 0) (l.getD (hat rows i 1) 0) (l.getD (hat rows i 2) 0) (l.getD (hat rows i 3) 0)
theorem AC_Half12 (H : AHeap) (x : List Nat) (hx : Words x) (rows : Bool) : AC A H.length F_pestleref12_Half [.agg (W32 x), .c (.bool rows)] H (fun v H' => v = .agg (W32 (halfK x rows 4))) := by
  refine AC_enter t_pestleref12_Half ?_; simp only [c_pestleref12_Half, enterA, List.replicate, List.length_cons, List.length_nil, Nat.reduceAdd, Nat.reduceSub, List.cons_append, List.nil_append]
  refine AW_seq (AW_ops (AO_pre (by simp only [List.take_succ_cons, List.take_zero, List.drop_succ_cons, List.drop_zero, bne_self_eq_false, List.map_cons, List.map_nil, Bool.true_beq, Bool.false_beq, run_nil, run_cons, run_gate, cont_some, gate_true, gate_false, hrun_nil, hrun_cons, hrun_gate, hcont_some, hgate_true, hgate_false, put_some, put_none, ev_t, ev_k, wantedA, execA, stepA, List.set_cons_succ, List.set_cons_zero, List.getD_cons_succ, List.getD_cons_zero, List.getElem?_cons_zero, List.getElem?_cons_succ, if_true, if_false, binA, binInt, unA, eqA, Option.map, eq_self, true_or, or_true, true_and, and_true, and_self, beq_self_eq_true, Bool.not_true, Bool.not_false, reduceCtorEq, Bool.false_eq_true, ite_true, ite_false, cellsAV, fitsAll, CK.fits, decide_true, Bool.and_true, Bool.true_and, fillA, AV.cells, writeN, readN, sliceCells, appendA, lenA, i64, loA, hiA, hcells_last, hown_last, List.take_zero, List.drop_zero, List.nil_append, List.cons_append, List.append_nil, List.take_nil, List.drop_nil, List.length_cons, List.length_nil, List.length_append, Nat.zero_add, Nat.add_zero, Nat.reduceAdd, Nat.reduceMul, Nat.reduceDiv, Nat.reduceSub, Nat.mul_one, Nat.one_mul, Nat.div_one, Nat.le_refl, Nat.reduceLeDiff, Nat.reduceLT, Int.toNat_natCast, Int.toNat_zero, Nat.zero_le, Int.natCast_nonneg, Int.reduceLE, Int.reduceLT, Option.some.injEq, foldA, maxA, minA, Cell.int.injEq, AV.c.injEq, pre_nil, pre_cons, pre_gate, pre1_cons, pre1_gate, qstop_true, qstop_false, qstopg_false, qgate_true, qgate_false, pcont_some, pstop_true, pstop_false, pstopg_false, pgate_true, pgate_false, hpre_nil, hpre_cons, hpre_gate, hpre1_cons, hpre1_gate, hqstop_true, hqstop_false, hqstopg_false, hqgate_true, hqgate_false, hpcont_some, hpstop_true, hpstop_false, hpstopg_false, hpgate_true, hpgate_false, Int.reduceBEq, Int.reduceBNe, Int.reduceGT, Int.reduceGE, Int.reduceEq, Int.reduceNe, decide_false, nat_0, nat_1, nat_2, nat_3, nat_4, nat_8, nat_16, nat_64, nat_128, Int.reduceToNat, AOp.stops, pre1_nil, hpre1_nil, ↓want_eq, wantV_bool, wantV_undef, ↓exec_lenX, lenX_snil, lenX_slc]; with_reducible rfl) (AO_nil ?_)))
  have ho : hown (H ++ [Blk.own (W32 x)] ++ [Blk.own (rep 16 (.int .u32 0))]) H.length = some (W32 x) := hown_app hown_last
  have hz : hown (H ++ [Blk.own (W32 x)] ++ [Blk.own (rep 16 (.int .u32 0))]) (H ++ [Blk.own (W32 x)]).length = some (rep 16 (.int .u32 0)) := hown_last
  have hq1 : (H ++ [Blk.own (W32 x)]).length = H.length + 1 := by simp
  rw [hq1] at hz
  try simp only [List.length_append, List.length_cons, List.length_nil, Nat.zero_add]
  generalize H ++ [Blk.own (W32 x)] ++ [Blk.own (rep 16 (.int .u32 0))] = H1 at *
  generalize H.length = p at *
  (repeat (first | with_reducible refine thenQ_n ?_ | with_reducible refine blockQ_n ?_ | refine AW_skip ?_ | refine AW_seq ?_ | refine AW_ops ?_ | refine AW_blockS ?_ | refine AW_blockR ?_ | refine AW_blockD ?_ | refine AW_blockC ?_ | refine AO_nil ?_ | refine AW_draw ?_ | refine AW_draw3 ?_ | refine AW_blockD3 ?_ | refine AHd_nil ?_ | ((first | with_reducible apply AO_pre | with_reducible apply AHd_pre); focus (simp only [Sm, wantedA, execA, stepA, List.getElem?_cons_zero, List.getElem?_cons_succ, if_true, if_false, binA, binInt, unA, eqA, Option.map, eq_self, reduceCtorEq, ite_true, ite_false, cellsAV, fitsAll, CK.fits, fillA, AV.cells, writeN, readN, sliceCells, appendA, lenA, i64, loA, hiA, Nat.reduceAdd, Nat.reduceMul, Nat.reduceDiv, Nat.reduceSub, Nat.reduceLeDiff, Nat.reduceLT, Int.reduceLE, Int.reduceLT, foldA, maxA, minA, Int.reduceBEq, Int.reduceBNe, Int.reduceGT, Int.reduceGE, Int.reduceEq, Int.reduceNe, Int.reduceToNat, AOp.stops, ↓want_eq, ↓exec_lenX]; with_reducible rfl))))
  refine AW_mid (fun e fr H' => e = .normal ∧ haI p x rows H1 4 fr H') ?_ ?_
  · refine AW_block (AW_up (haI p x rows H1) 4 ⟨Chg.refl _ _, ho, stale _ _ rfl⟩ ?_)
    rintro i fr H2 hi ⟨c2, ho2, st, rfl⟩
    have hz2 := c2.hown (by omega : ¬ p + 1 = p) hz
    have hpl := hown_lt hz2
    (repeat (first | with_reducible refine thenQ_n ?_ | with_reducible refine blockQ_n ?_ | refine AW_skip ?_ | refine AW_seq ?_ | refine AW_ops ?_ | refine AW_blockS ?_ | refine AW_blockR ?_ | refine AW_blockD ?_ | refine AW_blockC ?_ | refine AO_nil ?_ | refine AW_draw ?_ | refine AW_draw3 ?_ | refine AW_blockD3 ?_ | refine AHd_nil ?_ | ((first | with_reducible apply AO_pre | with_reducible apply AHd_pre); focus (simp only [Sm, wantedA, execA, stepA, List.getElem?_cons_zero, List.getElem?_cons_succ, if_true, if_false, binA, binInt, unA, eqA, Option.map, eq_self, reduceCtorEq, ite_true, ite_false, cellsAV, fitsAll, CK.fits, fillA, AV.cells, writeN, readN, sliceCells, appendA, lenA, i64, loA, hiA, Nat.reduceAdd, Nat.reduceMul, Nat.reduceDiv, Nat.reduceSub, Nat.reduceLeDiff, Nat.reduceLT, Int.reduceLE, Int.reduceLT, foldA, maxA, minA, Int.reduceBEq, Int.reduceBNe, Int.reduceGT, Int.reduceGE, Int.reduceEq, Int.reduceNe, Int.reduceToNat, AOp.stops, ↓want_eq, ↓exec_lenX]; with_reducible rfl))))
    refine AW_cond rfl ?_ ?_ <;> intro ht
    · have ht : (i : Int) < 4 := of_decide_eq_true ht
      have hi4 : i < 4 := by omega
      have hW := hx.halfK rows i
      have hsucc : halfK x rows (i + 1) = qAt (halfK x rows i) (hat rows i 0) (hat rows i 1) (hat rows i 2) (hat rows i 3) := rfl
      generalize halfK x rows i = l at *
      refine AW_skip (AW_seq (AW_blockS (AW_seq (AW_ops (AO_pre (by simp only [List.take_succ_cons, List.take_zero, List.drop_succ_cons, List.drop_zero, bne_self_eq_false, List.map_cons, List.map_nil, Bool.true_beq, Bool.false_beq, run_nil, run_cons, run_gate, cont_some, gate_true, gate_false, hrun_nil, hrun_cons, hrun_gate, hcont_some, hgate_true, hgate_false, put_some, put_none, ev_t, ev_k, wantedA, execA, stepA, List.set_cons_succ, List.set_cons_zero, List.getD_cons_succ, List.getD_cons_zero, List.getElem?_cons_zero, List.getElem?_cons_succ, if_true, if_false, binA, binInt, unA, eqA, Option.map, eq_self, true_or, or_true, true_and, and_true, and_self, beq_self_eq_true, Bool.not_true, Bool.not_false, reduceCtorEq, Bool.false_eq_true, ite_true, ite_false, cellsAV, fitsAll, CK.fits, decide_true, Bool.and_true, Bool.true_and, fillA, AV.cells, writeN, readN, sliceCells, appendA, lenA, i64, loA, hiA, hcells_last, hown_last, List.take_zero, List.drop_zero, List.nil_append, List.cons_append, List.append_nil, List.take_nil, List.drop_nil, List.length_cons, List.length_nil, List.length_append, Nat.zero_add, Nat.add_zero, Nat.reduceAdd, Nat.reduceMul, Nat.reduceDiv, Nat.reduceSub, Nat.mul_one, Nat.one_mul, Nat.div_one, Nat.le_refl, Nat.reduceLeDiff, Nat.reduceLT, Int.toNat_natCast, Int.toNat_zero, Nat.zero_le, Int.natCast_nonneg, Int.reduceLE, Int.reduceLT, Option.some.injEq, foldA, maxA, minA, Cell.int.injEq, AV.c.injEq, pre_nil, pre_cons, pre_gate, pre1_cons, pre1_gate, qstop_true, qstop_false, qstopg_false, qgate_true, qgate_false, pcont_some, pstop_true, pstop_false, pstopg_false, pgate_true, pgate_false, hpre_nil, hpre_cons, hpre_gate, hpre1_cons, hpre1_gate, hqstop_true, hqstop_false, hqstopg_false, hqgate_true, hqgate_false, hpcont_some, hpstop_true, hpstop_false, hpstopg_false, hpgate_true, hpgate_false, Int.reduceBEq, Int.reduceBNe, Int.reduceGT, Int.reduceGE, Int.reduceEq, Int.reduceNe, decide_false, nat_0, nat_1, nat_2, nat_3, nat_4, nat_8, nat_16, nat_64, nat_128, Int.reduceToNat, AOp.stops, pre1_nil, hpre1_nil, ↓want_eq, wantV_bool, wantV_undef, ↓exec_lenX, lenX_snil, lenX_slc]; with_reducible rfl) (AO_nil ?_))))))
      refine AW_seq (AW_ops (AO_pre (by simp only [List.take_succ_cons, List.take_zero, List.drop_succ_cons, List.drop_zero, bne_self_eq_false, List.map_cons, List.map_nil, Bool.true_beq, Bool.false_beq, run_nil, run_cons, run_gate, cont_some, gate_true, gate_false, hrun_nil, hrun_cons, hrun_gate, hcont_some, hgate_true, hgate_false, put_some, put_none, ev_t, ev_k, wantedA, execA, stepA, List.set_cons_succ, List.set_cons_zero, List.getD_cons_succ, List.getD_cons_zero, List.getElem?_cons_zero, List.getElem?_cons_succ, if_true, if_false, binA, binInt, unA, eqA, Option.map, eq_self, true_or, or_true, true_and, and_true, and_self, beq_self_eq_true, Bool.not_true, Bool.not_false, reduceCtorEq, Bool.false_eq_true, ite_true, ite_false, cellsAV, fitsAll, CK.fits, decide_true, Bool.and_true, Bool.true_and, fillA, AV.cells, writeN, readN, sliceCells, appendA, lenA, i64, loA, hiA, hcells_last, hown_last, List.take_zero, List.drop_zero, List.nil_append, List.cons_append, List.append_nil, List.take_nil, List.drop_nil, List.length_cons, List.length_nil, List.length_append, Nat.zero_add, Nat.add_zero, Nat.reduceAdd, Nat.reduceMul, Nat.reduceDiv, Nat.reduceSub, Nat.mul_one, Nat.one_mul, Nat.div_one, Nat.le_refl, Nat.reduceLeDiff, Nat.reduceLT, Int.toNat_natCast, Int.toNat_zero, Nat.zero_le, Int.natCast_nonneg, Int.reduceLE, Int.reduceLT, Option.some.injEq, foldA, maxA, minA, Cell.int.injEq, AV.c.injEq, pre_nil, pre_cons, pre_gate, pre1_cons, pre1_gate, qstop_true, qstop_false, qstopg_false, qgate_true, qgate_false, pcont_some, pstop_true, pstop_false, pstopg_false, pgate_true, pgate_false, hpre_nil, hpre_cons, hpre_gate, hpre1_cons, hpre1_gate, hqstop_true, hqstop_false, hqstopg_false, hqgate_true, hqgate_false, hpcont_some, hpstop_true, hpstop_false, hpstopg_false, hpgate_true, hpgate_false, Int.reduceBEq, Int.reduceBNe, Int.reduceGT, Int.reduceGE, Int.reduceEq, Int.reduceNe, decide_false, nat_0, nat_1, nat_2, nat_3, nat_4, nat_8, nat_16, nat_64, nat_128, Int.reduceToNat, AOp.stops, pre1_nil, hpre1_nil, ↓want_eq, wantV_bool, wantV_undef, ↓exec_lenX, lenX_snil, lenX_slc]; with_reducible rfl) (AO_nil ?_)))
      have g6 : hown (H2 ++ [Blk.own (rep 4 (.int .i64 0))] ++ [Blk.own (rep 4 (.int .u32 0))]) H2.length = some (I64 [0, 0, 0, 0]) := hown_app hown_last
      have g7 : hown (H2 ++ [Blk.own (rep 4 (.int .i64 0))] ++ [Blk.own (rep 4 (.int .u32 0))]) (H2 ++ [Blk.own (rep 4 (Cell.int .i64 0))]).length = some (W32 [0, 0, 0, 0]) := hown_last
      have hq2 : (H2 ++ [Blk.own (rep 4 (Cell.int .i64 0))]).length = H2.length + 1 := by simp
      rw [hq2] at g7
      try simp only [List.length_append, List.length_cons, List.length_nil, Nat.zero_add]
      have c3 : Chg none_ H2 (H2 ++ [Blk.own (rep 4 (Cell.int .i64 0))] ++ [Blk.own (rep 4 (Cell.int .u32 0))]) := by rw [List.append_assoc]; exact Chg.push _ _ _
      have ho3 := c3.hown (fun h => h) ho2
      generalize H2 ++ [Blk.own (rep 4 (Cell.int .i64 0))] ++ [Blk.own (rep 4 (Cell.int .u32 0))] = H3 at *
      generalize hq : H2.length = q at *
      (repeat (first | with_reducible refine thenQ_n ?_ | with_reducible refine blockQ_n ?_ | refine AW_skip ?_ | refine AW_seq ?_ | refine AW_ops ?_ | refine AW_blockS ?_ | refine AW_blockR ?_ | refine AW_blockD ?_ | refine AW_blockC ?_ | refine AO_nil ?_ | refine AW_draw ?_ | refine AW_draw3 ?_ | refine AW_blockD3 ?_ | refine AHd_nil ?_ | ((first | with_reducible apply AO_pre | with_reducible apply AHd_pre); focus (simp only [Sm, wantedA, execA, stepA, List.getElem?_cons_zero, List.getElem?_cons_succ, if_true, if_false, binA, binInt, unA, eqA, Option.map, eq_self, reduceCtorEq, ite_true, ite_false, cellsAV, fitsAll, CK.fits, fillA, AV.cells, writeN, readN, sliceCells, appendA, lenA, i64, loA, hiA, Nat.reduceAdd, Nat.reduceMul, Nat.reduceDiv, Nat.reduceSub, Nat.reduceLeDiff, Nat.reduceLT, Int.reduceLE, Int.reduceLT, foldA, maxA, minA, Int.reduceBEq, Int.reduceBNe, Int.reduceGT, Int.reduceGE, Int.reduceEq, Int.reduceNe, Int.reduceToNat, AOp.stops, ↓want_eq, ↓exec_lenX]; with_reducible rfl))))
      refine AW_mid (fun e fr H' => e = .normal ∧ haJ p q i l rows H3 4 fr H') ?_ ?_
      · refine AW_block (AW_up (haJ p q i l rows H3) 4 ⟨Chg.refl _ _, g6, g7, stale _ _ rfl⟩ ?_)
        rintro k fr H4 hk ⟨c4, ha4, hv4, st, rfl⟩
        (repeat (first | with_reducible refine thenQ_n ?_ | with_reducible refine blockQ_n ?_ | refine AW_skip ?_ | refine AW_seq ?_ | refine AW_ops ?_ | refine AW_blockS ?_ | refine AW_blockR ?_ | refine AW_blockD ?_ | refine AW_blockC ?_ | refine AO_nil ?_ | refine AW_draw ?_ | refine AW_draw3 ?_ | refine AW_blockD3 ?_ | refine AHd_nil ?_ | ((first | with_reducible apply AO_pre | with_reducible apply AHd_pre); focus (simp only [Sm, wantedA, execA, stepA, List.getElem?_cons_zero, List.getElem?_cons_succ, if_true, if_false, binA, binInt, unA, eqA, Option.map, eq_self, reduceCtorEq, ite_true, ite_false, cellsAV, fitsAll, CK.fits, fillA, AV.cells, writeN, readN, sliceCells, appendA, lenA, i64, loA, hiA, Nat.reduceAdd, Nat.reduceMul, Nat.reduceDiv, Nat.reduceSub, Nat.reduceLeDiff, Nat.reduceLT, Int.reduceLE, Int.reduceLT, foldA, maxA, minA, Int.reduceBEq, Int.reduceBNe, Int.reduceGT, Int.reduceGE, Int.reduceEq, Int.reduceNe, Int.reduceToNat, AOp.stops, ↓want_eq, ↓exec_lenX]; with_reducible rfl))))
        refine AW_cond rfl ?_ ?_ <;> intro ht
        · have ht : (k : Int) < 4 := of_decide_eq_true ht
          have hk4 : k < 4 := by omega
          have ho4 := c4.hown (by omega : ¬ (p = q ∨ p = q + 1)) ho3
          have e1 : IntKind.i64.wrap ((i : Int) + (k : Int)) = ((i + k : Nat) : Int) := i64_add (by omega)
          have e2 : Int.tmod ((i + k : Nat) : Int) 4 = (((i + k) % 4 : Nat) : Int) := tmod_nat
          have hm := Nat.mod_lt (i + k) (by omega : 0 < 4)
          have e3 : IntKind.i64.wrap (4 * (((i + k) % 4 : Nat) : Int)) = ((4 * ((i + k) % 4) : Nat) : Int) := by rw [i64_of (by omega) (by omega)]; omega
          have e4 : IntKind.i64.wrap (((4 * ((i + k) % 4) : Nat) : Int) + (i : Int)) = ((4 * ((i + k) % 4) + i : Nat) : Int) := i64_add (by omega)
          have e5 : IntKind.i64.wrap (4 * (i : Int)) = ((4 * i : Nat) : Int) := by rw [i64_of (by omega) (by omega)]; omega
          have e6 : IntKind.i64.wrap (((4 * i : Nat) : Int) + (((i + k) % 4 : Nat) : Int)) = ((4 * i + (i + k) % 4 : Nat) : Int) := i64_add (by omega)
          have e7 : ¬ ((4 : Int) = 0) := by omega
          have ul : ∀ (f : Nat → Nat) (k : Nat), (upd f [0, 0, 0, 0] k).length = 4 := fun f k => upd_length k
          have ui : (I64 (upd (hat rows i) [0, 0, 0, 0] k)).length = 4 := by rw [I64_length, ul]
          have uw : (W32 (upd (fun j => l.getD (hat rows i j) 0) [0, 0, 0, 0] k)).length = 4 := by rw [W32_length, ul]
          -- the place
          refine AW_skip (AW_seq (AW_blockS (AW_seq (AW_ops (AO_pre (by simp only [List.take_succ_cons, List.take_zero, List.drop_succ_cons, List.drop_zero, bne_self_eq_false, List.map_cons, List.map_nil, Bool.true_beq, Bool.false_beq, run_nil, run_cons, run_gate, cont_some, gate_true, gate_false, hrun_nil, hrun_cons, hrun_gate, hcont_some, hgate_true, hgate_false, put_some, put_none, ev_t, ev_k, wantedA, execA, stepA, List.set_cons_succ, List.set_cons_zero, List.getD_cons_succ, List.getD_cons_zero, List.getElem?_cons_zero, List.getElem?_cons_succ, if_true, if_false, binA, binInt, unA, eqA, Option.map, eq_self, true_or, or_true, true_and, and_true, and_self, beq_self_eq_true, Bool.not_true, Bool.not_false, reduceCtorEq, Bool.false_eq_true, ite_true, ite_false, cellsAV, fitsAll, CK.fits, decide_true, Bool.and_true, Bool.true_and, fillA, AV.cells, writeN, readN, sliceCells, appendA, lenA, i64, loA, hiA, hcells_last, hown_last, List.take_zero, List.drop_zero, List.nil_append, List.cons_append, List.append_nil, List.take_nil, List.drop_nil, List.length_cons, List.length_nil, List.length_append, Nat.zero_add, Nat.add_zero, Nat.reduceAdd, Nat.reduceMul, Nat.reduceDiv, Nat.reduceSub, Nat.mul_one, Nat.one_mul, Nat.div_one, Nat.le_refl, Nat.reduceLeDiff, Nat.reduceLT, Int.toNat_natCast, Int.toNat_zero, Nat.zero_le, Int.natCast_nonneg, Int.reduceLE, Int.reduceLT, Option.some.injEq, foldA, maxA, minA, Cell.int.injEq, AV.c.injEq, pre_nil, pre_cons, pre_gate, pre1_cons, pre1_gate, qstop_true, qstop_false, qstopg_false, qgate_true, qgate_false, pcont_some, pstop_true, pstop_false, pstopg_false, pgate_true, pgate_false, hpre_nil, hpre_cons, hpre_gate, hpre1_cons, hpre1_gate, hqstop_true, hqstop_false, hqstopg_false, hqgate_true, hqgate_false, hpcont_some, hpstop_true, hpstop_false, hpstopg_false, hpgate_true, hpgate_false, Int.reduceBEq, Int.reduceBNe, Int.reduceGT, Int.reduceGE, Int.reduceEq, Int.reduceNe, decide_false, nat_0, nat_1, nat_2, nat_3, nat_4, nat_8, nat_16, nat_64, nat_128, Int.reduceToNat, AOp.stops, pre1_nil, hpre1_nil, ↓want_eq, wantV_bool, wantV_undef, ↓exec_lenX, lenX_snil, lenX_slc, hcells_own ha4, ht, e1, e2, e3, e4, e7, ↓exec_storeX, storeX_own ha4 (by omega : p ≤ q) (by rw [ui]; exact hk4 : k < _), Nat.zero_add]; with_reducible rfl) (AO_nil ?_))))))
          have c5 : Chg (· = q) H4 (H4.set q (.own ((I64 (upd (hat rows i) [0, 0, 0, 0] k)).set k (.int .i64 ((4 * ((i + k) % 4) + i : Nat) : Int))))) := Chg.set rfl
          have ha5 : hown (H4.set q (.own ((I64 (upd (hat rows i) [0, 0, 0, 0] k)).set k (.int .i64 ((4 * ((i + k) % 4) + i : Nat) : Int))))) q = some (I64 ((upd (hat rows i) [0, 0, 0, 0] k).set k (4 * ((i + k) % 4) + i))) := by rw [hown_set (hown_lt ha4), I64_set]
          generalize H4.set q (.own ((I64 (upd (hat rows i) [0, 0, 0, 0] k)).set k (.int .i64 ((4 * ((i + k) % 4) + i : Nat) : Int)))) = H5 at *
          refine AW_seq (AW_mid (fun e fr H' => e = .normal ∧ Chg (· = q) H4 H' ∧ hown H' q = some (I64 (upd (hat rows i) [0, 0, 0, 0] (k + 1))) ∧ (∃ s : Nat → AV, fr = [s 0, .c (.bool rows), .c (.ptr p 0), s 3, .c (.ptr (p + 1) 0), .c (.int .i64 (i : Int)), .c (.ptr q 0), .c (.ptr (q + 1) 0), .c (.int .i64 (k : Int)), s 9, s 10, s 11, s 12, s 13, s 14, s 15, s 16, s 17, s 18, s 19, s 20, s 21, s 22, s 23, s 24, s 25, s 26, s 27, s 28, s 29, s 30, s 31, s 32, s 33, s 34, s 35, s 36, s 37, s 38, s 39, s 40, s 41, s 42, s 43, s 44, s 45, s 46, s 47, s 48, s 49, s 50, s 51, s 52, s 53, s 54, s 55, s 56, s 57])) ?_ ?_)
          · cases rows with
            | false =>
              (repeat (first | with_reducible refine thenQ_n ?_ | with_reducible refine blockQ_n ?_ | refine AW_skip ?_ | refine AW_seq ?_ | refine AW_ops ?_ | refine AW_blockS ?_ | refine AW_blockR ?_ | refine AW_blockD ?_ | refine AW_blockC ?_ | refine AO_nil ?_ | refine AW_draw ?_ | refine AW_draw3 ?_ | refine AW_blockD3 ?_ | refine AHd_nil ?_ | ((first | with_reducible apply AO_pre | with_reducible apply AHd_pre); focus (simp only [Sm, wantedA, execA, stepA, List.getElem?_cons_zero, List.getElem?_cons_succ, if_true, if_false, binA, binInt, unA, eqA, Option.map, eq_self, reduceCtorEq, ite_true, ite_false, cellsAV, fitsAll, CK.fits, fillA, AV.cells, writeN, readN, sliceCells, appendA, lenA, i64, loA, hiA, Nat.reduceAdd, Nat.reduceMul, Nat.reduceDiv, Nat.reduceSub, Nat.reduceLeDiff, Nat.reduceLT, Int.reduceLE, Int.reduceLT, foldA, maxA, minA, Int.reduceBEq, Int.reduceBNe, Int.reduceGT, Int.reduceGE, Int.reduceEq, Int.reduceNe, Int.reduceToNat, AOp.stops, ↓want_eq, ↓exec_lenX]; with_reducible rfl))))
              refine AW_cond (t := false) rfl (fun h => by cases h) fun _ => ?_
              exact AW_skip ⟨rfl, c5, ha5, stale _ _ rfl⟩
            | true =>
              (repeat (first | with_reducible refine thenQ_n ?_ | with_reducible refine blockQ_n ?_ | refine AW_skip ?_ | refine AW_seq ?_ | refine AW_ops ?_ | refine AW_blockS ?_ | refine AW_blockR ?_ | refine AW_blockD ?_ | refine AW_blockC ?_ | refine AO_nil ?_ | refine AW_draw ?_ | refine AW_draw3 ?_ | refine AW_blockD3 ?_ | refine AHd_nil ?_ | ((first | with_reducible apply AO_pre | with_reducible apply AHd_pre); focus (simp only [Sm, wantedA, execA, stepA, List.getElem?_cons_zero, List.getElem?_cons_succ, if_true, if_false, binA, binInt, unA, eqA, Option.map, eq_self, reduceCtorEq, ite_true, ite_false, cellsAV, fitsAll, CK.fits, fillA, AV.cells, writeN, readN, sliceCells, appendA, lenA, i64, loA, hiA, Nat.reduceAdd, Nat.reduceMul, Nat.reduceDiv, Nat.reduceSub, Nat.reduceLeDiff, Nat.reduceLT, Int.reduceLE, Int.reduceLT, foldA, maxA, minA, Int.reduceBEq, Int.reduceBNe, Int.reduceGT, Int.reduceGE, Int.reduceEq, Int.reduceNe, Int.reduceToNat, AOp.stops, ↓want_eq, ↓exec_lenX]; with_reducible rfl))))
              refine AW_cond (t := true) rfl (fun _ => ?_) (fun h => by cases h)
              have u5 : (I64 ((upd (hat true i) [0, 0, 0, 0] k).set k (4 * ((i + k) % 4) + i))).length = 4 := by rw [I64_length, List.length_set, ul]
              (repeat (first | with_reducible refine thenQ_n ?_ | with_reducible refine blockQ_n ?_ | refine AW_skip ?_ | refine AW_seq ?_ | refine AW_ops ?_ | refine AW_blockS ?_ | refine AW_blockR ?_ | refine AW_blockD ?_ | refine AW_blockC ?_ | refine AO_nil ?_ | refine AW_draw ?_ | refine AW_draw3 ?_ | refine AW_blockD3 ?_ | refine AHd_nil ?_ | ((first | with_reducible apply AO_pre | with_reducible apply AHd_pre); focus (simp only [Sm, wantedA, execA, stepA, List.getElem?_cons_zero, List.getElem?_cons_succ, if_true, if_false, binA, binInt, unA, eqA, Option.map, eq_self, reduceCtorEq, ite_true, ite_false, cellsAV, fitsAll, CK.fits, fillA, AV.cells, writeN, readN, sliceCells, appendA, lenA, i64, loA, hiA, Nat.reduceAdd, Nat.reduceMul, Nat.reduceDiv, Nat.reduceSub, Nat.reduceLeDiff, Nat.reduceLT, Int.reduceLE, Int.reduceLT, foldA, maxA, minA, Int.reduceBEq, Int.reduceBNe, Int.reduceGT, Int.reduceGE, Int.reduceEq, Int.reduceNe, Int.reduceToNat, AOp.stops, ↓want_eq, ↓exec_lenX, hcells_own ha5, ht, e1, e2, e3, e4, e5, e6, e7, ↓exec_storeX, storeX_own ha5 (by omega : p ≤ q) (by rw [u5]; exact hk4 : k < _), Nat.zero_add]; with_reducible rfl))))
              refine ⟨rfl, c5.trans (Chg.set (S := (· = q)) rfl) fun _ _ h => h, ?_, stale _ _ rfl⟩
              rw [hown_set (hown_lt ha5), I64_set, List.set_set]; rfl
          rintro e fr H6 ⟨rfl, c6, ha6, st, rfl⟩
          have hv6 := c6.hown (by omega : ¬ q + 1 = q) hv4
          have ho6 := c6.hown (by omega : ¬ p = q) ho4
          have hh := hat_lt (rows := rows) (k := k) hi4
          have k1 : (upd (hat rows i) [0, 0, 0, 0] (k + 1)).getD k 0 = hat rows i k := by
            rw [List.getD_eq_getElem?_getD]; show (((upd (hat rows i) [0, 0, 0, 0] k).set k (hat rows i k))[k]?).getD 0 = _
            rw [List.getElem?_set_self (by rw [ul]; exact hk4)]; rfl
          have g1 : (I64 (upd (hat rows i) [0, 0, 0, 0] (k + 1)))[k]? = some (.int .i64 ((hat rows i k : Nat) : Int)) := by rw [I64_get (by rw [ul]; exact hk4), k1]
          have g2 := hW.get hh
          have b1 : ((hat rows i k : Nat) : Int) < 16 := by omega
          (repeat (first | with_reducible refine thenQ_n ?_ | with_reducible refine blockQ_n ?_ | refine AW_skip ?_ | refine AW_seq ?_ | refine AW_ops ?_ | refine AW_blockS ?_ | refine AW_blockR ?_ | refine AW_blockD ?_ | refine AW_blockC ?_ | refine AO_nil ?_ | refine AW_draw ?_ | refine AW_draw3 ?_ | refine AW_blockD3 ?_ | refine AHd_nil ?_ | ((first | with_reducible apply AO_pre | with_reducible apply AHd_pre); focus (simp only [Sm, wantedA, execA, stepA, List.getElem?_cons_zero, List.getElem?_cons_succ, if_true, if_false, binA, binInt, unA, eqA, Option.map, eq_self, reduceCtorEq, ite_true, ite_false, cellsAV, fitsAll, CK.fits, fillA, AV.cells, writeN, readN, sliceCells, appendA, lenA, i64, loA, hiA, Nat.reduceAdd, Nat.reduceMul, Nat.reduceDiv, Nat.reduceSub, Nat.reduceLeDiff, Nat.reduceLT, Int.reduceLE, Int.reduceLT, foldA, maxA, minA, Int.reduceBEq, Int.reduceBNe, Int.reduceGT, Int.reduceGE, Int.reduceEq, Int.reduceNe, Int.reduceToNat, AOp.stops, ↓want_eq, ↓exec_lenX, hcells_own ha6, hcells_own hv6, hcells_own ho6, ht, g1, g2, b1, ↓exec_storeX, storeX_own hv6 (by omega : p ≤ q + 1) (by rw [uw]; exact hk4 : k < _), Nat.zero_add, i64_succ (show k < 9223372036854775807 by omega)]; with_reducible rfl))))
          refine ⟨hk4, (c4.trans c6 fun _ _ h => .inl h).trans (Chg.set (S := (· = q + 1)) rfl) fun _ _ h => .inr h, ?_, ?_, stale _ _ rfl⟩
          · rw [hown_set_ne (by omega)]; exact ha6
          · rw [hown_set (hown_lt hv6), W32_setL]; rfl
        · obtain rfl : k = 4 := by have : ¬ (k : Int) < 4 := of_decide_eq_false ht; omega
          exact AW_exit ⟨rfl, c4, ha4, hv4, stale _ _ rfl⟩
      rintro e fr H4 ⟨rfl, c4, ha4, hv4, st, rfl⟩
      have ho4 := c4.hown (by omega : ¬ (p = q ∨ p = q + 1)) ho3
      rw [upd4] at hv4
      have hr7 : readN H4 (q + 1) 0 4 = some (c4_ l rows i) := readN_all (hcells_own hv4)
      have hql := hown_lt hv4
      (repeat (first | with_reducible refine thenQ_n ?_ | with_reducible refine blockQ_n ?_ | refine AW_skip ?_ | refine AW_seq ?_ | refine AW_ops ?_ | refine AW_blockS ?_ | refine AW_blockR ?_ | refine AW_blockD ?_ | refine AW_blockC ?_ | refine AO_nil ?_ | refine AW_draw ?_ | refine AW_draw3 ?_ | refine AW_blockD3 ?_ | refine AHd_nil ?_ | ((first | with_reducible apply AO_pre | with_reducible apply AHd_pre); focus (simp only [Sm, wantedA, execA, stepA, List.getElem?_cons_zero, List.getElem?_cons_succ, if_true, if_false, binA, binInt, unA, eqA, Option.map, eq_self, reduceCtorEq, ite_true, ite_false, cellsAV, fitsAll, CK.fits, fillA, AV.cells, writeN, readN, sliceCells, appendA, lenA, i64, loA, hiA, Nat.reduceAdd, Nat.reduceMul, Nat.reduceDiv, Nat.reduceSub, Nat.reduceLeDiff, Nat.reduceLT, Int.reduceLE, Int.reduceLT, foldA, maxA, minA, Int.reduceBEq, Int.reduceBNe, Int.reduceGT, Int.reduceGE, Int.reduceEq, Int.reduceNe, Int.reduceToNat, AOp.stops, ↓want_eq, ↓exec_lenX, ↓hr7]; with_reducible rfl))))
      have w0 := hW.2 (hat rows i 0)
      have w1 := hW.2 (hat rows i 1)
      have w2 := hW.2 (hat rows i 2)
      have w3 := hW.2 (hat rows i 3)
      refine AO_call rfl ((AC_refQuarter H4 _ _ _ _ w0 w1 w2 w3).kept (by omega)) ?_
      rintro _ H5 ⟨rfl, k5⟩
      have c5 := Chg.of_kept k5
      have ha5 := c5.hown (fun h => h) ha4
      have hv5 := c5.hown (fun h => h) hv4
      have ho5 := c5.hown (fun h => h) ho4
      obtain ⟨v, hv, hvl⟩ : ∃ v : List Nat, PK.c4 (q4 (l.getD (hat rows i 0) 0) (l.getD (hat rows i 1) 0) (l.getD (hat rows i 2) 0) (l.getD (hat rows i 3) 0)) (q1 (l.getD (hat rows i 0) 0) (l.getD (hat rows i 1) 0) (l.getD (hat rows i 2) 0) (l.getD (hat rows i 3) 0)) (q2 (l.getD (hat rows i 0) 0) (l.getD (hat rows i 1) 0) (l.getD (hat rows i 2) 0) (l.getD (hat rows i 3) 0)) (q3 (l.getD (hat rows i 0) 0) (l.getD (hat rows i 1) 0) (l.getD (hat rows i 2) 0) (l.getD (hat rows i 3) 0)) = W32 v ∧ (v.length = 4 ∧ qAt l (hat rows i 0) (hat rows i 1) (hat rows i 2) (hat rows i 3) = putK l (hat rows i) (fun k => v.getD k 0) 4) :=
        ⟨[q4 (l.getD (hat rows i 0) 0) (l.getD (hat rows i 1) 0) (l.getD (hat rows i 2) 0) (l.getD (hat rows i 3) 0), q1 (l.getD (hat rows i 0) 0) (l.getD (hat rows i 1) 0) (l.getD (hat rows i 2) 0) (l.getD (hat rows i 3) 0), q2 (l.getD (hat rows i 0) 0) (l.getD (hat rows i 1) 0) (l.getD (hat rows i 2) 0) (l.getD (hat rows i 3) 0), q3 (l.getD (hat rows i 0) 0) (l.getD (hat rows i 1) 0) (l.getD (hat rows i 2) 0) (l.getD (hat rows i 3) 0)], rfl, rfl, rfl⟩
      rw [hv]
      have vl : (W32 v).length = 4 := by rw [W32_length]; exact hvl.1
      (repeat (first | with_reducible refine thenQ_n ?_ | with_reducible refine blockQ_n ?_ | refine AW_skip ?_ | refine AW_seq ?_ | refine AW_ops ?_ | refine AW_blockS ?_ | refine AW_blockR ?_ | refine AW_blockD ?_ | refine AW_blockC ?_ | refine AO_nil ?_ | refine AW_draw ?_ | refine AW_draw3 ?_ | refine AW_blockD3 ?_ | refine AHd_nil ?_ | ((first | with_reducible apply AO_pre | with_reducible apply AHd_pre); focus (simp only [Sm, wantedA, execA, stepA, List.getElem?_cons_zero, List.getElem?_cons_succ, if_true, if_false, binA, binInt, unA, eqA, Option.map, eq_self, reduceCtorEq, ite_true, ite_false, cellsAV, fitsAll, CK.fits, fillA, AV.cells, writeN, readN, sliceCells, appendA, lenA, i64, loA, hiA, Nat.reduceAdd, Nat.reduceMul, Nat.reduceDiv, Nat.reduceSub, Nat.reduceLeDiff, Nat.reduceLT, Int.reduceLE, Int.reduceLT, foldA, maxA, minA, Int.reduceBEq, Int.reduceBNe, Int.reduceGT, Int.reduceGE, Int.reduceEq, Int.reduceNe, Int.reduceToNat, AOp.stops, ↓want_eq, ↓exec_lenX, ↓exec_storeN, storeN_all hv5 (by omega : p ≤ q + 1) (by rfl : _ = 4) vl]; with_reducible rfl))))
      have cS : Chg (· = q + 1) H5 (H5.set (q + 1) (.own (W32 v))) := Chg.set rfl
      have hv6 : hown (H5.set (q + 1) (.own (W32 v))) (q + 1) = some (W32 v) := hown_set (hown_lt hv5)
      have ha6 := cS.hown (by omega : ¬ q = q + 1) ha5
      have ho6 := cS.hown (by omega : ¬ p = q + 1) ho5
      generalize H5.set (q + 1) (.own (W32 v)) = H6 at *
      have ul : (upd (hat rows i) [0, 0, 0, 0] 4).length = 4 := upd_length 4
      refine AW_mid (fun e fr H' => e = .normal ∧ haL p q i l (hat rows i) (fun k => v.getD k 0) rows H6 4 fr H') ?_ ?_
      · refine AW_block (AW_up (haL p q i l (hat rows i) (fun k => v.getD k 0) rows H6) 4 ⟨Chg.refl _ _, ho6, stale _ _ rfl⟩ ?_)
        rintro k fr H7 hk ⟨c7, ho7, st, rfl⟩
        (repeat (first | with_reducible refine thenQ_n ?_ | with_reducible refine blockQ_n ?_ | refine AW_skip ?_ | refine AW_seq ?_ | refine AW_ops ?_ | refine AW_blockS ?_ | refine AW_blockR ?_ | refine AW_blockD ?_ | refine AW_blockC ?_ | refine AO_nil ?_ | refine AW_draw ?_ | refine AW_draw3 ?_ | refine AW_blockD3 ?_ | refine AHd_nil ?_ | ((first | with_reducible apply AO_pre | with_reducible apply AHd_pre); focus (simp only [Sm, wantedA, execA, stepA, List.getElem?_cons_zero, List.getElem?_cons_succ, if_true, if_false, binA, binInt, unA, eqA, Option.map, eq_self, reduceCtorEq, ite_true, ite_false, cellsAV, fitsAll, CK.fits, fillA, AV.cells, writeN, readN, sliceCells, appendA, lenA, i64, loA, hiA, Nat.reduceAdd, Nat.reduceMul, Nat.reduceDiv, Nat.reduceSub, Nat.reduceLeDiff, Nat.reduceLT, Int.reduceLE, Int.reduceLT, foldA, maxA, minA, Int.reduceBEq, Int.reduceBNe, Int.reduceGT, Int.reduceGE, Int.reduceEq, Int.reduceNe, Int.reduceToNat, AOp.stops, ↓want_eq, ↓exec_lenX]; with_reducible rfl))))
        refine AW_cond rfl ?_ ?_ <;> intro ht
        · have ht : (k : Int) < 4 := of_decide_eq_true ht
          have hk4 : k < 4 := by omega
          have ha7 := c7.hown (by omega : ¬ q = p) ha6
          have hv7 := c7.hown (by omega : ¬ q + 1 = p) hv6
          have hh := hat_lt (rows := rows) (k := k) hi4
          have k1 : (upd (hat rows i) [0, 0, 0, 0] 4).getD k 0 = hat rows i k := by
            rw [List.getD_eq_getElem?_getD, upd_get 4 k (by simpa using hk4), if_pos hk4]; rfl
          have g1 : (I64 (upd (hat rows i) [0, 0, 0, 0] 4))[k]? = some (.int .i64 ((hat rows i k : Nat) : Int)) := by rw [I64_get (by rw [ul]; exact hk4), k1]
          have g2 : (W32 v)[k]? = some (.int .u32 ((v.getD k 0 : Nat) : Int)) := W32_get (by omega)
          have b1 : ((hat rows i k : Nat) : Int) < 16 := by omega
          have pl : (W32 (putK l (hat rows i) (fun k => v.getD k 0) k)).length = 16 := by rw [W32_length, putK_length]; exact hW.1
          (repeat (first | with_reducible refine thenQ_n ?_ | with_reducible refine blockQ_n ?_ | refine AW_skip ?_ | refine AW_seq ?_ | refine AW_ops ?_ | refine AW_blockS ?_ | refine AW_blockR ?_ | refine AW_blockD ?_ | refine AW_blockC ?_ | refine AO_nil ?_ | refine AW_draw ?_ | refine AW_draw3 ?_ | refine AW_blockD3 ?_ | refine AHd_nil ?_ | ((first | with_reducible apply AO_pre | with_reducible apply AHd_pre); focus (simp only [Sm, wantedA, execA, stepA, List.getElem?_cons_zero, List.getElem?_cons_succ, if_true, if_false, binA, binInt, unA, eqA, Option.map, eq_self, reduceCtorEq, ite_true, ite_false, cellsAV, fitsAll, CK.fits, fillA, AV.cells, writeN, readN, sliceCells, appendA, lenA, i64, loA, hiA, Nat.reduceAdd, Nat.reduceMul, Nat.reduceDiv, Nat.reduceSub, Nat.reduceLeDiff, Nat.reduceLT, Int.reduceLE, Int.reduceLT, foldA, maxA, minA, Int.reduceBEq, Int.reduceBNe, Int.reduceGT, Int.reduceGE, Int.reduceEq, Int.reduceNe, Int.reduceToNat, AOp.stops, ↓want_eq, ↓exec_lenX, hcells_own ha7, hcells_own hv7, hcells_own ho7, ht, g1, g2, b1, ↓exec_storeX, storeX_own ho7 (Nat.le_refl _) (by rw [pl]; exact hh : hat rows i k < _), Nat.zero_add, i64_succ (show k < 9223372036854775807 by omega)]; with_reducible rfl))))
          refine ⟨hk4, c7.trans (Chg.set (S := (· = p)) rfl) fun _ _ h => h, ?_, stale _ _ rfl⟩
          rw [hown_set (hown_lt ho7), W32_setL]; rfl
        · obtain rfl : k = 4 := by have : ¬ (k : Int) < 4 := of_decide_eq_false ht; omega
          exact AW_exit ⟨rfl, c7, ho7, stale _ _ rfl⟩
      rintro e fr H7 ⟨rfl, c7, ho7, st, rfl⟩
      (repeat (first | with_reducible refine thenQ_n ?_ | with_reducible refine blockQ_n ?_ | refine AW_skip ?_ | refine AW_seq ?_ | refine AW_ops ?_ | refine AW_blockS ?_ | refine AW_blockR ?_ | refine AW_blockD ?_ | refine AW_blockC ?_ | refine AO_nil ?_ | refine AW_draw ?_ | refine AW_draw3 ?_ | refine AW_blockD3 ?_ | refine AHd_nil ?_ | ((first | with_reducible apply AO_pre | with_reducible apply AHd_pre); focus (simp only [Sm, wantedA, execA, stepA, List.getElem?_cons_zero, List.getElem?_cons_succ, if_true, if_false, binA, binInt, unA, eqA, Option.map, eq_self, reduceCtorEq, ite_true, ite_false, cellsAV, fitsAll, CK.fits, fillA, AV.cells, writeN, readN, sliceCells, appendA, lenA, i64, loA, hiA, Nat.reduceAdd, Nat.reduceMul, Nat.reduceDiv, Nat.reduceSub, Nat.reduceLeDiff, Nat.reduceLT, Int.reduceLE, Int.reduceLT, foldA, maxA, minA, Int.reduceBEq, Int.reduceBNe, Int.reduceGT, Int.reduceGE, Int.reduceEq, Int.reduceNe, Int.reduceToNat, AOp.stops, ↓want_eq, ↓exec_lenX, i64_succ (show i < 9223372036854775807 by omega)]; with_reducible rfl))))
      refine ⟨hi4, ?_, ?_, stale _ _ rfl⟩
      · refine c2.trans ((((((c3.mono (T := fun b => b = p ∨ q ≤ b) fun _ _ h => h.elim).trans c4 fun b _ h => .inr (by rcases h with h | h <;> omega)).trans c5 fun _ _ h => h.elim).trans cS fun b _ h => .inr (by omega)).trans c7 fun b _ h => .inl h)) fun b hb h => ?_
        have hlen := c2.1
        rcases h with h | h
        · exact h
        · omega
      · rw [hsucc, hvl.2]; exact ho7
    · obtain rfl : i = 4 := by have : ¬ (i : Int) < 4 := of_decide_eq_false ht; omega
      exact AW_exit ⟨rfl, c2, ho2, stale _ _ rfl⟩
  rintro e fr H2 ⟨rfl, c2, ho2, st, rfl⟩
  have hz2 := c2.hown (by omega : ¬ p + 1 = p) hz
  have hl : (W32 (halfK x rows 4)).length = 16 := (hx.halfK rows 4).len
  have hr : readN H2 p 0 16 = some (W32 (halfK x rows 4)) := by
    have := readN_all (hcells_own ho2)
    rw [hl] at this; exact this
  (repeat (first | with_reducible refine thenQ_n ?_ | with_reducible refine blockQ_n ?_ | refine AW_skip ?_ | refine AW_seq ?_ | refine AW_ops ?_ | refine AW_blockS ?_ | refine AW_blockR ?_ | refine AW_blockD ?_ | refine AW_blockC ?_ | refine AO_nil ?_ | refine AW_draw ?_ | refine AW_draw3 ?_ | refine AW_blockD3 ?_ | refine AHd_nil ?_ | ((first | with_reducible apply AO_pre | with_reducible apply AHd_pre); focus (simp only [Sm, wantedA, execA, stepA, List.getElem?_cons_zero, List.getElem?_cons_succ, if_true, if_false, binA, binInt, unA, eqA, Option.map, eq_self, reduceCtorEq, ite_true, ite_false, cellsAV, fitsAll, CK.fits, fillA, AV.cells, writeN, readN, sliceCells, appendA, lenA, i64, loA, hiA, Nat.reduceAdd, Nat.reduceMul, Nat.reduceDiv, Nat.reduceSub, Nat.reduceLeDiff, Nat.reduceLT, Int.reduceLE, Int.reduceLT, foldA, maxA, minA, Int.reduceBEq, Int.reduceBNe, Int.reduceGT, Int.reduceGE, Int.reduceEq, Int.reduceNe, Int.reduceToNat, AOp.stops, ↓want_eq, ↓exec_lenX, ↓hr, ↓exec_storeN, storeN_all hz2 (Nat.le_succ _) rep_len hl]; with_reducible rfl))))
  have hr2 : readN (H2.set (p + 1) (.own (W32 (halfK x rows 4)))) (p + 1) 0 16 = some (W32 (halfK x rows 4)) := by
    have := readN_all (hcells_set (cs := W32 (halfK x rows 4)) (hown_lt hz2))
    rw [hl] at this; exact this
  exact AW_ret ⟨_, by simp only [outA, resA, ressA, AV.tv, Option.map_some, List.take_succ_cons, List.take_zero, List.drop_succ_cons, List.drop_zero, bne_self_eq_false, List.map_cons, List.map_nil, Bool.true_beq, Bool.false_beq, run_nil, run_cons, run_gate, cont_some, gate_true, gate_false, hrun_nil, hrun_cons, hrun_gate, hcont_some, hgate_true, hgate_false, put_some, put_none, ev_t, ev_k, wantedA, execA, stepA, List.set_cons_succ, List.set_cons_zero, List.getD_cons_succ, List.getD_cons_zero, List.getElem?_cons_zero, List.getElem?_cons_succ, if_true, if_false, binA, binInt, unA, eqA, Option.map, eq_self, true_or, or_true, true_and, and_true, and_self, beq_self_eq_true, Bool.not_true, Bool.not_false, reduceCtorEq, Bool.false_eq_true, ite_true, ite_false, cellsAV, fitsAll, CK.fits, decide_true, Bool.and_true, Bool.true_and, fillA, AV.cells, writeN, readN, sliceCells, appendA, lenA, i64, loA, hiA, hcells_last, hown_last, List.take_zero, List.drop_zero, List.nil_append, List.cons_append, List.append_nil, List.take_nil, List.drop_nil, List.length_cons, List.length_nil, List.length_append, Nat.zero_add, Nat.add_zero, Nat.reduceAdd, Nat.reduceMul, Nat.reduceDiv, Nat.reduceSub, Nat.mul_one, Nat.one_mul, Nat.div_one, Nat.le_refl, Nat.reduceLeDiff, Nat.reduceLT, Int.toNat_natCast, Int.toNat_zero, Nat.zero_le, Int.natCast_nonneg, Int.reduceLE, Int.reduceLT, Option.some.injEq, foldA, maxA, minA, Cell.int.injEq, AV.c.injEq, pre_nil, pre_cons, pre_gate, pre1_cons, pre1_gate, qstop_true, qstop_false, qstopg_false, qgate_true, qgate_false, pcont_some, pstop_true, pstop_false, pstopg_false, pgate_true, pgate_false, hpre_nil, hpre_cons, hpre_gate, hpre1_cons, hpre1_gate, hqstop_true, hqstop_false, hqstopg_false, hqgate_true, hqgate_false, hpcont_some, hpstop_true, hpstop_false, hpstopg_false, hpgate_true, hpgate_false, Int.reduceBEq, Int.reduceBNe, Int.reduceGT, Int.reduceGE, Int.reduceEq, Int.reduceNe, decide_false, nat_0, nat_1, nat_2, nat_3, nat_4, nat_8, nat_16, nat_64, nat_128, Int.reduceToNat, AOp.stops, pre1_nil, hpre1_nil, ↓want_eq, wantV_bool, wantV_undef, ↓exec_lenX, lenX_snil, lenX_slc, ↓hr2] <;> with_reducible rfl, by rfl⟩


def rc1 (p n : Nat) (x : List Nat) (H0 : AHeap) (i : Nat) (fr : AFrame) (H : AHeap) : Prop := Chg (· = p + 2) H0 H ∧ hown H (p + 2) = some (W32 (dblN x i)) ∧ (∃ s : Nat → AV, fr = [s 0, .c (.int .i64 (n : Int)), .c (.ptr p 0), s 3, .c (.ptr (p + 1) 0), .c (.ptr (p + 2) 0), .c (.int .i64 (i : Int)), s 7, s 8, s 9, s 10, s 11, s 12, s 13, s 14, s 15, s 16, s 17, s 18, s 19, s 20, s 21, s 22, s 23, s 24, s 25, s 26, s 27, s 28, s 29, s 30])

def rc2 (p n : Nat) (y x : List Nat) (H0 : AHeap) (i : Nat) (fr : AFrame) (H : AHeap) : Prop := Chg (· = p + 2) H0 H ∧ hown H (p + 2) = some (W32 (addS y x i)) ∧ (∃ s : Nat → AV, fr = [s 0, .c (.int .i64 (n : Int)), .c (.ptr p 0), s 3, .c (.ptr (p + 1) 0), .c (.ptr (p + 2) 0), s 6, .c (.int .i64 (i : Int)), s 8, s 9, s 10, s 11, s 12, s 13, s 14, s 15, s 16, s 17, s 18, s 19, s 20, s 21, s 22, s 23, s 24, s 25, s 26, s 27, s 28, s 29, s 30])

theorem AC_refCore (H : AHeap) (x : List Nat) (hx : Words x) (n : Nat) (hn : n ≤ 100) : AC A H.length F_pestleref12_Core [.agg (W32 x), .c (.int .i64 (n : Int))] H (fun v H' => v = .agg (W32 (core x n))) := by
  refine AC_enter t_pestleref12_Core ?_; simp only [c_pestleref12_Core, enterA, List.replicate, List.length_cons, List.length_nil, Nat.reduceAdd, Nat.reduceSub, List.cons_append, List.nil_append]
  refine AW_seq (AW_ops (AO_pre (by simp only [List.take_succ_cons, List.take_zero, List.drop_succ_cons, List.drop_zero, bne_self_eq_false, List.map_cons, List.map_nil, Bool.true_beq, Bool.false_beq, run_nil, run_cons, run_gate, cont_some, gate_true, gate_false, hrun_nil, hrun_cons, hrun_gate, hcont_some, hgate_true, hgate_false, put_some, put_none, ev_t, ev_k, wantedA, execA, stepA, List.set_cons_succ, List.set_cons_zero, List.getD_cons_succ, List.getD_cons_zero, List.getElem?_cons_zero, List.getElem?_cons_succ, if_true, if_false, binA, binInt, unA, eqA, Option.map, eq_self, true_or, or_true, true_and, and_true, and_self, beq_self_eq_true, Bool.not_true, Bool.not_false, reduceCtorEq, Bool.false_eq_true, ite_true, ite_false, cellsAV, fitsAll, CK.fits, decide_true, Bool.and_true, Bool.true_and, fillA, AV.cells, writeN, readN, sliceCells, appendA, lenA, i64, loA, hiA, hcells_last, hown_last, List.take_zero, List.drop_zero, List.nil_append, List.cons_append, List.append_nil, List.take_nil, List.drop_nil, List.length_cons, List.length_nil, List.length_append, Nat.zero_add, Nat.add_zero, Nat.reduceAdd, Nat.reduceMul, Nat.reduceDiv, Nat.reduceSub, Nat.mul_one, Nat.one_mul, Nat.div_one, Nat.le_refl, Nat.reduceLeDiff, Nat.reduceLT, Int.toNat_natCast, Int.toNat_zero, Nat.zero_le, Int.natCast_nonneg, Int.reduceLE, Int.reduceLT, Option.some.injEq, foldA, maxA, minA, Cell.int.injEq, AV.c.injEq, pre_nil, pre_cons, pre_gate, pre1_cons, pre1_gate, qstop_true, qstop_false, qstopg_false, qgate_true, qgate_false, pcont_some, pstop_true, pstop_false, pstopg_false, pgate_true, pgate_false, hpre_nil, hpre_cons, hpre_gate, hpre1_cons, hpre1_gate, hqstop_true, hqstop_false, hqstopg_false, hqgate_true, hqgate_false, hpcont_some, hpstop_true, hpstop_false, hpstopg_false, hpgate_true, hpgate_false, Int.reduceBEq, Int.reduceBNe, Int.reduceGT, Int.reduceGE, Int.reduceEq, Int.reduceNe, decide_false, nat_0, nat_1, nat_2, nat_3, nat_4, nat_8, nat_16, nat_64, nat_128, Int.reduceToNat, AOp.stops, pre1_nil, hpre1_nil, ↓want_eq, wantV_bool, wantV_undef, ↓exec_lenX, lenX_snil, lenX_slc]; with_reducible rfl) (AO_nil ?_)))
  have ho : hown (H ++ [Blk.own (W32 x)] ++ [Blk.own (rep 16 (.int .u32 0))]) H.length = some (W32 x) := hown_app hown_last
  have hz4 : hown (H ++ [Blk.own (W32 x)] ++ [Blk.own (rep 16 (.int .u32 0))]) (H ++ [Blk.own (W32 x)]).length = some (rep 16 (.int .u32 0)) := hown_last
  have hq1 : (H ++ [Blk.own (W32 x)]).length = H.length + 1 := by simp
  rw [hq1] at hz4
  try simp only [List.length_append, List.length_cons, List.length_nil, Nat.zero_add]
  have hfl : (H ++ [Blk.own (W32 x)] ++ [Blk.own (rep 16 (.int .u32 0))]).length = H.length + 2 := by simp
  generalize H ++ [Blk.own (W32 x)] ++ [Blk.own (rep 16 (.int .u32 0))] = H1 at *
  generalize H.length = p at *
  have hr : readN H1 p 0 16 = some (W32 x) := by
    have := readN_all (hcells_own ho)
    rw [hx.len] at this; exact this
  (repeat (first | with_reducible refine thenQ_n ?_ | with_reducible refine blockQ_n ?_ | refine AW_skip ?_ | refine AW_seq ?_ | refine AW_ops ?_ | refine AW_blockS ?_ | refine AW_blockR ?_ | refine AW_blockD ?_ | refine AW_blockC ?_ | refine AO_nil ?_ | refine AW_draw ?_ | refine AW_draw3 ?_ | refine AW_blockD3 ?_ | refine AHd_nil ?_ | ((first | with_reducible apply AO_pre | with_reducible apply AHd_pre); focus (simp only [Sm, wantedA, execA, stepA, List.getElem?_cons_zero, List.getElem?_cons_succ, if_true, if_false, binA, binInt, unA, eqA, Option.map, eq_self, reduceCtorEq, ite_true, ite_false, cellsAV, fitsAll, CK.fits, fillA, AV.cells, writeN, readN, sliceCells, appendA, lenA, i64, loA, hiA, Nat.reduceAdd, Nat.reduceMul, Nat.reduceDiv, Nat.reduceSub, Nat.reduceLeDiff, Nat.reduceLT, Int.reduceLE, Int.reduceLT, foldA, maxA, minA, Int.reduceBEq, Int.reduceBNe, Int.reduceGT, Int.reduceGE, Int.reduceEq, Int.reduceNe, Int.reduceToNat, AOp.stops, ↓want_eq, ↓exec_lenX, ↓hr, ↓exec_storeN, storeN_last (by omega : p ≤ H1.length), rep_len, hx.len]; with_reducible rfl))))
  have c2 : Chg none_ H1 (H1 ++ [Blk.own (W32 x)]) := Chg.push _ _ _
  have ho2 := c2.hown (fun h => h) ho
  have hz2 := c2.hown (fun h => h) hz4
  have hy2 : hown (H1 ++ [Blk.own (W32 x)]) (p + 2) = some (W32 x) := by rw [← hfl]; exact hown_last
  rw [hfl]
  generalize H1 ++ [Blk.own (W32 x)] = H2 at *
  refine AW_mid (fun e fr H' => e = .normal ∧ rc1 p n x H2 n fr H') ?_ ?_
  · refine AW_block (AW_up (rc1 p n x H2) n ⟨Chg.refl _ _, hy2, stale _ _ rfl⟩ ?_)
    rintro i fr H3 hi ⟨c3, hy3, st, rfl⟩
    (repeat (first | with_reducible refine thenQ_n ?_ | with_reducible refine blockQ_n ?_ | refine AW_skip ?_ | refine AW_seq ?_ | refine AW_ops ?_ | refine AW_blockS ?_ | refine AW_blockR ?_ | refine AW_blockD ?_ | refine AW_blockC ?_ | refine AO_nil ?_ | refine AW_draw ?_ | refine AW_draw3 ?_ | refine AW_blockD3 ?_ | refine AHd_nil ?_ | ((first | with_reducible apply AO_pre | with_reducible apply AHd_pre); focus (simp only [Sm, wantedA, execA, stepA, List.getElem?_cons_zero, List.getElem?_cons_succ, if_true, if_false, binA, binInt, unA, eqA, Option.map, eq_self, reduceCtorEq, ite_true, ite_false, cellsAV, fitsAll, CK.fits, fillA, AV.cells, writeN, readN, sliceCells, appendA, lenA, i64, loA, hiA, Nat.reduceAdd, Nat.reduceMul, Nat.reduceDiv, Nat.reduceSub, Nat.reduceLeDiff, Nat.reduceLT, Int.reduceLE, Int.reduceLT, foldA, maxA, minA, Int.reduceBEq, Int.reduceBNe, Int.reduceGT, Int.reduceGE, Int.reduceEq, Int.reduceNe, Int.reduceToNat, AOp.stops, ↓want_eq, ↓exec_lenX]; with_reducible rfl))))
    refine AW_cond rfl ?_ ?_ <;> intro ht
    · have ht : (i : Int) < n := of_decide_eq_true ht
      have hW := hx.dblN i
      have hr3 : readN H3 (p + 2) 0 16 = some (W32 (dblN x i)) := by
        have := readN_all (hcells_own hy3)
        rw [hW.len] at this; exact this
      have hl3 := hown_lt hy3
      (repeat (first | with_reducible refine thenQ_n ?_ | with_reducible refine blockQ_n ?_ | refine AW_skip ?_ | refine AW_seq ?_ | refine AW_ops ?_ | refine AW_blockS ?_ | refine AW_blockR ?_ | refine AW_blockD ?_ | refine AW_blockC ?_ | refine AO_nil ?_ | refine AW_draw ?_ | refine AW_draw3 ?_ | refine AW_blockD3 ?_ | refine AHd_nil ?_ | ((first | with_reducible apply AO_pre | with_reducible apply AHd_pre); focus (simp only [Sm, wantedA, execA, stepA, List.getElem?_cons_zero, List.getElem?_cons_succ, if_true, if_false, binA, binInt, unA, eqA, Option.map, eq_self, reduceCtorEq, ite_true, ite_false, cellsAV, fitsAll, CK.fits, fillA, AV.cells, writeN, readN, sliceCells, appendA, lenA, i64, loA, hiA, Nat.reduceAdd, Nat.reduceMul, Nat.reduceDiv, Nat.reduceSub, Nat.reduceLeDiff, Nat.reduceLT, Int.reduceLE, Int.reduceLT, foldA, maxA, minA, Int.reduceBEq, Int.reduceBNe, Int.reduceGT, Int.reduceGE, Int.reduceEq, Int.reduceNe, Int.reduceToNat, AOp.stops, ↓want_eq, ↓exec_lenX, ↓hr3]; with_reducible rfl))))
      refine AO_call rfl ((AC_Half12 H3 _ hW false).kept (by omega)) ?_
      rintro _ H4 ⟨rfl, k4⟩
      have c4 := Chg.of_kept k4
      have hl4 := c4.1
      (repeat (first | with_reducible refine thenQ_n ?_ | with_reducible refine blockQ_n ?_ | refine AW_skip ?_ | refine AW_seq ?_ | refine AW_ops ?_ | refine AW_blockS ?_ | refine AW_blockR ?_ | refine AW_blockD ?_ | refine AW_blockC ?_ | refine AO_nil ?_ | refine AW_draw ?_ | refine AW_draw3 ?_ | refine AW_blockD3 ?_ | refine AHd_nil ?_ | ((first | with_reducible apply AO_pre | with_reducible apply AHd_pre); focus (simp only [Sm, wantedA, execA, stepA, List.getElem?_cons_zero, List.getElem?_cons_succ, if_true, if_false, binA, binInt, unA, eqA, Option.map, eq_self, reduceCtorEq, ite_true, ite_false, cellsAV, fitsAll, CK.fits, fillA, AV.cells, writeN, readN, sliceCells, appendA, lenA, i64, loA, hiA, Nat.reduceAdd, Nat.reduceMul, Nat.reduceDiv, Nat.reduceSub, Nat.reduceLeDiff, Nat.reduceLT, Int.reduceLE, Int.reduceLT, foldA, maxA, minA, Int.reduceBEq, Int.reduceBNe, Int.reduceGT, Int.reduceGE, Int.reduceEq, Int.reduceNe, Int.reduceToNat, AOp.stops, ↓want_eq, ↓exec_lenX]; with_reducible rfl))))
      refine AO_call rfl ((AC_Half12 H4 _ (hW.halfK false 4) true).kept (by omega)) ?_
      rintro _ H5 ⟨rfl, k5⟩
      have c5 := Chg.of_kept k5
      have hy5 := c5.hown (fun h => h) (c4.hown (fun h => h) hy3)
      rw [← dbl_half]
      (repeat (first | with_reducible refine thenQ_n ?_ | with_reducible refine blockQ_n ?_ | refine AW_skip ?_ | refine AW_seq ?_ | refine AW_ops ?_ | refine AW_blockS ?_ | refine AW_blockR ?_ | refine AW_blockD ?_ | refine AW_blockC ?_ | refine AO_nil ?_ | refine AW_draw ?_ | refine AW_draw3 ?_ | refine AW_blockD3 ?_ | refine AHd_nil ?_ | ((first | with_reducible apply AO_pre | with_reducible apply AHd_pre); focus (simp only [Sm, wantedA, execA, stepA, List.getElem?_cons_zero, List.getElem?_cons_succ, if_true, if_false, binA, binInt, unA, eqA, Option.map, eq_self, reduceCtorEq, ite_true, ite_false, cellsAV, fitsAll, CK.fits, fillA, AV.cells, writeN, readN, sliceCells, appendA, lenA, i64, loA, hiA, Nat.reduceAdd, Nat.reduceMul, Nat.reduceDiv, Nat.reduceSub, Nat.reduceLeDiff, Nat.reduceLT, Int.reduceLE, Int.reduceLT, foldA, maxA, minA, Int.reduceBEq, Int.reduceBNe, Int.reduceGT, Int.reduceGE, Int.reduceEq, Int.reduceNe, Int.reduceToNat, AOp.stops, ↓want_eq, ↓exec_lenX, ↓exec_storeN, storeN_all hy5 (by omega : p ≤ p + 2) hW.len (show (W32 (dbl (dblN x i))).length = 16 from (hW.dblK 8).len), i64_succ (show i < 9223372036854775807 by omega)]; with_reducible rfl))))
      refine ⟨by omega, ((c3.trans c4 fun _ _ h => h.elim).trans c5 fun _ _ h => h.elim).trans (Chg.set (S := (· = p + 2)) rfl) fun _ _ h => h, hown_set (hown_lt hy5), stale _ _ rfl⟩
    · obtain rfl : i = n := by have : ¬ (i : Int) < n := of_decide_eq_false ht; omega
      exact AW_exit ⟨rfl, c3, hy3, stale _ _ rfl⟩
  rintro e fr H3 ⟨rfl, c3, hy3, st, rfl⟩
  have ho3 := c3.hown (by omega : ¬ p = p + 2) ho2
  have hz3 := c3.hown (by omega : ¬ p + 1 = p + 2) hz2
  have hW := hx.dblN n
  (repeat (first | with_reducible refine thenQ_n ?_ | with_reducible refine blockQ_n ?_ | refine AW_skip ?_ | refine AW_seq ?_ | refine AW_ops ?_ | refine AW_blockS ?_ | refine AW_blockR ?_ | refine AW_blockD ?_ | refine AW_blockC ?_ | refine AO_nil ?_ | refine AW_draw ?_ | refine AW_draw3 ?_ | refine AW_blockD3 ?_ | refine AHd_nil ?_ | ((first | with_reducible apply AO_pre | with_reducible apply AHd_pre); focus (simp only [Sm, wantedA, execA, stepA, List.getElem?_cons_zero, List.getElem?_cons_succ, if_true, if_false, binA, binInt, unA, eqA, Option.map, eq_self, reduceCtorEq, ite_true, ite_false, cellsAV, fitsAll, CK.fits, fillA, AV.cells, writeN, readN, sliceCells, appendA, lenA, i64, loA, hiA, Nat.reduceAdd, Nat.reduceMul, Nat.reduceDiv, Nat.reduceSub, Nat.reduceLeDiff, Nat.reduceLT, Int.reduceLE, Int.reduceLT, foldA, maxA, minA, Int.reduceBEq, Int.reduceBNe, Int.reduceGT, Int.reduceGE, Int.reduceEq, Int.reduceNe, Int.reduceToNat, AOp.stops, ↓want_eq, ↓exec_lenX]; with_reducible rfl))))
  refine AW_mid (fun e fr H' => e = .normal ∧ rc2 p n (dblN x n) x H3 16 fr H') ?_ ?_
  · refine AW_block (AW_up (rc2 p n (dblN x n) x H3) 16 ⟨Chg.refl _ _, hy3, stale _ _ rfl⟩ ?_)
    rintro i fr H4 hi ⟨c4, hy4, st, rfl⟩
    (repeat (first | with_reducible refine thenQ_n ?_ | with_reducible refine blockQ_n ?_ | refine AW_skip ?_ | refine AW_seq ?_ | refine AW_ops ?_ | refine AW_blockS ?_ | refine AW_blockR ?_ | refine AW_blockD ?_ | refine AW_blockC ?_ | refine AO_nil ?_ | refine AW_draw ?_ | refine AW_draw3 ?_ | refine AW_blockD3 ?_ | refine AHd_nil ?_ | ((first | with_reducible apply AO_pre | with_reducible apply AHd_pre); focus (simp only [Sm, wantedA, execA, stepA, List.getElem?_cons_zero, List.getElem?_cons_succ, if_true, if_false, binA, binInt, unA, eqA, Option.map, eq_self, reduceCtorEq, ite_true, ite_false, cellsAV, fitsAll, CK.fits, fillA, AV.cells, writeN, readN, sliceCells, appendA, lenA, i64, loA, hiA, Nat.reduceAdd, Nat.reduceMul, Nat.reduceDiv, Nat.reduceSub, Nat.reduceLeDiff, Nat.reduceLT, Int.reduceLE, Int.reduceLT, foldA, maxA, minA, Int.reduceBEq, Int.reduceBNe, Int.reduceGT, Int.reduceGE, Int.reduceEq, Int.reduceNe, Int.reduceToNat, AOp.stops, ↓want_eq, ↓exec_lenX]; with_reducible rfl))))
    refine AW_cond rfl ?_ ?_ <;> intro ht
    · have ht : (i : Int) < 16 := of_decide_eq_true ht
      have hi16 : i < 16 := by omega
      have ho4 := c4.hown (by omega : ¬ p = p + 2) ho3
      have hA := hW.addS x i
      have g1 := hA.get hi16
      rw [addS_self hW hi16] at g1
      have g2 := hx.get hi16
      (repeat (first | with_reducible refine thenQ_n ?_ | with_reducible refine blockQ_n ?_ | refine AW_skip ?_ | refine AW_seq ?_ | refine AW_ops ?_ | refine AW_blockS ?_ | refine AW_blockR ?_ | refine AW_blockD ?_ | refine AW_blockC ?_ | refine AO_nil ?_ | refine AW_draw ?_ | refine AW_draw3 ?_ | refine AW_blockD3 ?_ | refine AHd_nil ?_ | ((first | with_reducible apply AO_pre | with_reducible apply AHd_pre); focus (simp only [Sm, wantedA, execA, stepA, List.getElem?_cons_zero, List.getElem?_cons_succ, if_true, if_false, binA, binInt, unA, eqA, Option.map, eq_self, reduceCtorEq, ite_true, ite_false, cellsAV, fitsAll, CK.fits, fillA, AV.cells, writeN, readN, sliceCells, appendA, lenA, i64, loA, hiA, Nat.reduceAdd, Nat.reduceMul, Nat.reduceDiv, Nat.reduceSub, Nat.reduceLeDiff, Nat.reduceLT, Int.reduceLE, Int.reduceLT, foldA, maxA, minA, Int.reduceBEq, Int.reduceBNe, Int.reduceGT, Int.reduceGE, Int.reduceEq, Int.reduceNe, Int.reduceToNat, AOp.stops, ↓want_eq, ↓exec_lenX, hcells_own hy4, hcells_own ho4, ht, g1, g2, Nat.zero_add, u32_add, ↓exec_storeX, storeX_own hy4 (by omega : p ≤ p + 2) (by rw [hA.len]; exact hi16 : i < _), W32_setL, i64_succ (show i < 9223372036854775807 by omega)]; with_reducible rfl))))
      refine ⟨hi16, c4.trans (Chg.set (S := (· = p + 2)) rfl) fun _ _ h => h, hown_set (hown_lt hy4), stale _ _ rfl⟩
    · obtain rfl : i = 16 := by have : ¬ (i : Int) < 16 := of_decide_eq_false ht; omega
      exact AW_exit ⟨rfl, c4, hy4, stale _ _ rfl⟩
  rintro e fr H4 ⟨rfl, c4, hy4, st, rfl⟩
  have hz4' := c4.hown (by omega : ¬ p + 1 = p + 2) hz3
  have hA := hW.addS x 16
  have hr5 : readN H4 (p + 2) 0 16 = some (W32 (addS (dblN x n) x 16)) := by
    have := readN_all (hcells_own hy4)
    rw [hA.len] at this; exact this
  (repeat (first | with_reducible refine thenQ_n ?_ | with_reducible refine blockQ_n ?_ | refine AW_skip ?_ | refine AW_seq ?_ | refine AW_ops ?_ | refine AW_blockS ?_ | refine AW_blockR ?_ | refine AW_blockD ?_ | refine AW_blockC ?_ | refine AO_nil ?_ | refine AW_draw ?_ | refine AW_draw3 ?_ | refine AW_blockD3 ?_ | refine AHd_nil ?_ | ((first | with_reducible apply AO_pre | with_reducible apply AHd_pre); focus (simp only [Sm, wantedA, execA, stepA, List.getElem?_cons_zero, List.getElem?_cons_succ, if_true, if_false, binA, binInt, unA, eqA, Option.map, eq_self, reduceCtorEq, ite_true, ite_false, cellsAV, fitsAll, CK.fits, fillA, AV.cells, writeN, readN, sliceCells, appendA, lenA, i64, loA, hiA, Nat.reduceAdd, Nat.reduceMul, Nat.reduceDiv, Nat.reduceSub, Nat.reduceLeDiff, Nat.reduceLT, Int.reduceLE, Int.reduceLT, foldA, maxA, minA, Int.reduceBEq, Int.reduceBNe, Int.reduceGT, Int.reduceGE, Int.reduceEq, Int.reduceNe, Int.reduceToNat, AOp.stops, ↓want_eq, ↓exec_lenX, ↓hr5, ↓exec_storeN, storeN_all hz4' (by omega : p ≤ p + 1) rep_len hA.len]; with_reducible rfl))))
  have hr6 : readN (H4.set (p + 1) (.own (W32 (addS (dblN x n) x 16)))) (p + 1) 0 16 = some (W32 (addS (dblN x n) x 16)) := by
    have := readN_all (hcells_set (cs := W32 (addS (dblN x n) x 16)) (hown_lt hz4'))
    rw [hA.len] at this; exact this
  exact AW_ret ⟨_, by simp only [outA, resA, ressA, AV.tv, Option.map_some, List.take_succ_cons, List.take_zero, List.drop_succ_cons, List.drop_zero, bne_self_eq_false, List.map_cons, List.map_nil, Bool.true_beq, Bool.false_beq, run_nil, run_cons, run_gate, cont_some, gate_true, gate_false, hrun_nil, hrun_cons, hrun_gate, hcont_some, hgate_true, hgate_false, put_some, put_none, ev_t, ev_k, wantedA, execA, stepA, List.set_cons_succ, List.set_cons_zero, List.getD_cons_succ, List.getD_cons_zero, List.getElem?_cons_zero, List.getElem?_cons_succ, if_true, if_false, binA, binInt, unA, eqA, Option.map, eq_self, true_or, or_true, true_and, and_true, and_self, beq_self_eq_true, Bool.not_true, Bool.not_false, reduceCtorEq, Bool.false_eq_true, ite_true, ite_false, cellsAV, fitsAll, CK.fits, decide_true, Bool.and_true, Bool.true_and, fillA, AV.cells, writeN, readN, sliceCells, appendA, lenA, i64, loA, hiA, hcells_last, hown_last, List.take_zero, List.drop_zero, List.nil_append, List.cons_append, List.append_nil, List.take_nil, List.drop_nil, List.length_cons, List.length_nil, List.length_append, Nat.zero_add, Nat.add_zero, Nat.reduceAdd, Nat.reduceMul, Nat.reduceDiv, Nat.reduceSub, Nat.mul_one, Nat.one_mul, Nat.div_one, Nat.le_refl, Nat.reduceLeDiff, Nat.reduceLT, Int.toNat_natCast, Int.toNat_zero, Nat.zero_le, Int.natCast_nonneg, Int.reduceLE, Int.reduceLT, Option.some.injEq, foldA, maxA, minA, Cell.int.injEq, AV.c.injEq, pre_nil, pre_cons, pre_gate, pre1_cons, pre1_gate, qstop_true, qstop_false, qstopg_false, qgate_true, qgate_false, pcont_some, pstop_true, pstop_false, pstopg_false, pgate_true, pgate_false, hpre_nil, hpre_cons, hpre_gate, hpre1_cons, hpre1_gate, hqstop_true, hqstop_false, hqstopg_false, hqgate_true, hqgate_false, hpcont_some, hpstop_true, hpstop_false, hpstopg_false, hpgate_true, hpgate_false, Int.reduceBEq, Int.reduceBNe, Int.reduceGT, Int.reduceGE, Int.reduceEq, Int.reduceNe, decide_false, nat_0, nat_1, nat_2, nat_3, nat_4, nat_8, nat_16, nat_64, nat_128, Int.reduceToNat, AOp.stops, pre1_nil, hpre1_nil, ↓want_eq, wantV_bool, wantV_undef, ↓exec_lenX, lenX_snil, lenX_slc, ↓hr6] <;> with_reducible rfl, by rfl⟩
end PK

/- Package shuffle as code of the abstract machine. -/
namespace PK
open Go PAbs

noncomputable def c_shuffle_Mix : AFn := AFn.mk 68 [.tmp 4, .tmp 5]
  (.seq (.region
      [⟨some 4, .mv (.k (.c (.snil))), none⟩,
        ⟨some 5, .mv (.k (.c (.int .i64 0))), none⟩])
  (.seq (.seq (.region
        [⟨some 13, .mv (.t 0), none⟩,
          ⟨some 14, .mv (.t 1), none⟩,
          ⟨some 15, .call F_shuffle_Check [.t 13, .t 14], none⟩,
          ⟨some 6, .mv (.t 15), none⟩])
    (.seq (.region
        [⟨some 16, .mv (.t 6), none⟩,
          ⟨some 17, .bin .neq (.t 16) (.k (.c (.int .i64 0))), none⟩])
    (.cond (.t 17)
      (.seq (.region
          [⟨some 18, .mv (.t 6), none⟩,
            ⟨some 4, .mv (.k (.c (.snil))), none⟩,
            ⟨some 5, .mv (.t 18), none⟩])
      (.ret))
      (.skip))))
  (.seq (.region
      [⟨some 20, .mv (.t 0), none⟩,
        ⟨some 21, .call F_shuffle_Places [.t 20], none⟩,
        ⟨some 19, .mv (.t 21), none⟩,
        ⟨some 22, .extract (.t 19) 0, none⟩,
        ⟨some 23, .extract (.t 19) 1, none⟩,
        ⟨some 7, .mv (.t 22), none⟩,
        ⟨some 8, .mv (.t 23), none⟩])
  (.seq (.region
      [⟨some 24, .mv (.t 1), none⟩,
        ⟨some 25, .len false (.t 24), none⟩,
        ⟨some 26, .makeSlice ([.int .u32 0]) 4 (.t 25) (.t 25), none⟩,
        ⟨some 9, .mv (.t 26), none⟩])
  (.seq (.region
      [⟨some 27, .mv (.t 1), none⟩,
        ⟨some 28, .mv (.t 1), none⟩,
        ⟨some 29, .len false (.t 28), none⟩,
        ⟨some 30, .bin .sub (.t 29) (.k (.c (.int .i64 16))), none⟩,
        ⟨some 31, .sliceS 1 (.t 27) (some (.t 30)) none, none⟩,
        ⟨some 32, .arrPtr 16 (.t 31), none⟩,
        ⟨some 33, .loadN 16 (.t 32), none⟩,
        ⟨some 10, .alloc (rep 16 (.int .u32 0)), none⟩,
        ⟨none, .store 16 (.t 10) (.t 33), none⟩])
  (.seq (.seq (.region
        [⟨some 34, .mv (.t 0), none⟩,
          ⟨some 35, .bin .mul (.k (.c (.int .i64 2))) (.t 34), none⟩,
          ⟨some 36, .mv (.k (.c (.int .i64 0))), none⟩])
    (.block 0
      (.loop
        (.seq (.region
            [⟨some 37, .bin .lss (.t 36) (.t 35), none⟩])
        (.seq (.cond (.t 37)
            (.skip)
            (.exit 0))
        (.seq (.block 1
            (.seq (.region
                [⟨some 38, .mv (.t 36), none⟩,
                  ⟨some 11, .mv (.t 38), none⟩])
            (.seq (.seq (.region
                  [⟨some 39, .mv (.k (.c (.int .i64 0))), none⟩])
              (.block 2
                (.loop
                  (.seq (.region
                      [⟨some 40, .bin .lss (.t 39) (.k (.c (.int .i64 16))), none⟩])
                  (.seq (.cond (.t 40)
                      (.skip)
                      (.exit 2))
                  (.seq (.block 3
                      (.seq (.region
                          [⟨some 41, .mv (.t 39), none⟩,
                            ⟨some 12, .mv (.t 41), none⟩])
                      (.draw
                        [⟨some 42, .mv (.t 12), none⟩,
                          ⟨some 43, .idxArr 16 1 (.t 10) (.t 42), none⟩,
                          ⟨some 44, .load1 (.t 43), none⟩,
                          ⟨some 45, .mv (.t 1), none⟩,
                          ⟨some 46, .mv (.t 11), none⟩,
                          ⟨some 47, .bin .mul (.k (.c (.int .i64 16))) (.t 46), none⟩,
                          ⟨some 48, .mv (.t 12), none⟩,
                          ⟨some 49, .bin .add (.t 47) (.t 48), none⟩,
                          ⟨some 50, .idxSlc 1 (.t 45) (.t 49), none⟩,
                          ⟨some 51, .load1 (.t 50), none⟩]
                        [⟨some 52, .bin .xor (.t 44) (.t 51), none⟩,
                          ⟨some 53, .idxArr 16 1 (.t 10) (.t 42), none⟩,
                          ⟨none, .store 1 (.t 53) (.t 52), none⟩])))
                  (.region
                    [⟨some 54, .bin .add (.t 39) (.k (.c (.int .i64 1))), none⟩,
                      ⟨some 39, .mv (.t 54), none⟩])))))))
            (.seq (.region
                [⟨some 55, .loadN 16 (.t 10), none⟩,
                  ⟨some 56, .call F_salsa_Eight [.t 55], none⟩,
                  ⟨none, .store 16 (.t 10) (.t 56), none⟩])
            (.draw
              [⟨some 57, .mv (.t 9), none⟩,
                ⟨some 58, .mv (.t 7), none⟩,
                ⟨some 59, .mv (.t 11), none⟩,
                ⟨some 60, .idxSlc 1 (.t 58) (.t 59), none⟩,
                ⟨some 61, .load1 (.t 60), none⟩,
                ⟨some 62, .bin .mul (.k (.c (.int .i64 16))) (.t 61), none⟩,
                ⟨some 63, .sliceS 1 (.t 57) (some (.t 62)) none, none⟩,
                ⟨some 64, .sliceArr 16 1 (.t 10) none none, none⟩]
              [⟨some 65, .copy 1 (.t 63) (.t 64), none⟩])))))
        (.region
          [⟨some 66, .bin .add (.t 36) (.k (.c (.int .i64 1))), none⟩,
            ⟨some 36, .mv (.t 66), none⟩])))))))
  (.seq (.region
      [⟨some 67, .mv (.t 9), none⟩,
        ⟨some 4, .mv (.t 67), none⟩,
        ⟨some 5, .mv (.k (.c (.int .i64 0))), none⟩])
  (.ret))))))))
theorem t_shuffle_Mix : A F_shuffle_Mix = some c_shuffle_Mix := by kernel_rfl

noncomputable def c_shuffle_Integer : AFn := AFn.mk 31 [.tmp 4, .tmp 5]
  (.seq (.region
      [⟨some 4, .mv (.k (.c (.int .u64 0))), none⟩,
        ⟨some 5, .mv (.k (.c (.int .i64 0))), none⟩])
  (.seq (.seq (.region
        [⟨some 8, .mv (.t 0), none⟩,
          ⟨some 9, .mv (.t 1), none⟩,
          ⟨some 10, .call F_shuffle_Check [.t 8, .t 9], none⟩,
          ⟨some 6, .mv (.t 10), none⟩])
    (.seq (.region
        [⟨some 11, .mv (.t 6), none⟩,
          ⟨some 12, .bin .neq (.t 11) (.k (.c (.int .i64 0))), none⟩])
    (.cond (.t 12)
      (.seq (.region
          [⟨some 13, .mv (.t 6), none⟩,
            ⟨some 4, .mv (.k (.c (.int .u64 0))), none⟩,
            ⟨some 5, .mv (.t 13), none⟩])
      (.ret))
      (.skip))))
  (.seq (.region
      [⟨some 14, .mv (.t 0), none⟩,
        ⟨some 15, .bin .mul (.k (.c (.int .i64 2))) (.t 14), none⟩,
        ⟨some 16, .bin .sub (.t 15) (.k (.c (.int .i64 1))), none⟩,
        ⟨some 17, .bin .mul (.k (.c (.int .i64 16))) (.t 16), none⟩,
        ⟨some 7, .mv (.t 17), none⟩])
  (.seq (.draw
      [⟨some 18, .mv (.t 1), none⟩,
        ⟨some 19, .mv (.t 7), none⟩,
        ⟨some 20, .idxSlc 1 (.t 18) (.t 19), none⟩,
        ⟨some 21, .load1 (.t 20), none⟩,
        ⟨some 22, .convInt .u64 (.t 21), none⟩,
        ⟨some 23, .mv (.t 1), none⟩,
        ⟨some 24, .mv (.t 7), none⟩,
        ⟨some 25, .bin .add (.t 24) (.k (.c (.int .i64 1))), none⟩,
        ⟨some 26, .idxSlc 1 (.t 23) (.t 25), none⟩,
        ⟨some 27, .load1 (.t 26), none⟩,
        ⟨some 28, .convInt .u64 (.t 27), none⟩,
        ⟨some 29, .bin .shl (.t 28) (.k (.c (.int .u64 32))), none⟩]
      [⟨some 30, .bin .or (.t 22) (.t 29), none⟩,
        ⟨some 4, .mv (.t 30), none⟩,
        ⟨some 5, .mv (.k (.c (.int .i64 0))), none⟩])
  (.ret)))))
theorem t_shuffle_Integer : A F_shuffle_Integer = some c_shuffle_Integer := by kernel_rfl

noncomputable def c_shuffle_Check : AFn := AFn.mk 18 [.tmp 4]
  (.seq (.region
      [⟨some 4, .mv (.k (.c (.int .i64 0))), none⟩])
  (.seq (.block 0
      (.seq (.region
          [⟨some 6, .mv (.t 0), none⟩,
            ⟨some 7, .bin .lss (.t 6) (.k (.c (.int .i64 1))), none⟩,
            ⟨some 8, .mv (.t 7), none⟩,
            ⟨some 9, .mv (.t 0), some (8, false)⟩,
            ⟨some 10, .bin .gtr (.t 9) (.k (.c (.int .i64 512))), some (8, false)⟩,
            ⟨some 11, .pick (.t 8) (.k (.c (.bool true))) (.t 10), none⟩,
            ⟨some 5, .mv (.t 11), none⟩])
      (.cond (.t 5)
        (.seq (.region
            [⟨some 4, .mv (.k (.c (.int .i64 2))), none⟩])
        (.ret))
        (.seq (.region
            [⟨some 13, .mv (.t 1), none⟩,
              ⟨some 14, .len false (.t 13), none⟩,
              ⟨some 15, .mv (.t 0), none⟩,
              ⟨some 16, .bin .mul (.k (.c (.int .i64 32))) (.t 15), none⟩,
              ⟨some 17, .bin .neq (.t 14) (.t 16), none⟩,
              ⟨some 12, .mv (.t 17), none⟩])
        (.cond (.t 12)
          (.seq (.region
              [⟨some 4, .mv (.k (.c (.int .i64 9))), none⟩])
          (.ret))
          (.skip))))))
  (.seq (.region
      [⟨some 4, .mv (.k (.c (.int .i64 0))), none⟩])
  (.ret))))
theorem t_shuffle_Check : A F_shuffle_Check = some c_shuffle_Check := by kernel_rfl

noncomputable def c_shuffle_Places : AFn := AFn.mk 37 [.tmp 2, .tmp 3]
  (.seq (.region
      [⟨some 2, .mv (.k (.c (.snil))), none⟩,
        ⟨some 3, .mv (.k (.c (.int .i64 0))), none⟩])
  (.seq (.seq (.region
        [⟨some 6, .mv (.t 0), none⟩,
          ⟨some 7, .bin .lss (.t 6) (.k (.c (.int .i64 1))), none⟩,
          ⟨some 8, .mv (.t 7), none⟩,
          ⟨some 9, .mv (.t 0), some (8, false)⟩,
          ⟨some 10, .bin .gtr (.t 9) (.k (.c (.int .i64 512))), some (8, false)⟩,
          ⟨some 11, .pick (.t 8) (.k (.c (.bool true))) (.t 10), none⟩])
    (.cond (.t 11)
      (.seq (.region
          [⟨some 2, .mv (.k (.c (.snil))), none⟩,
            ⟨some 3, .mv (.k (.c (.int .i64 2))), none⟩])
      (.ret))
      (.skip)))
  (.seq (.region
      [⟨some 12, .mv (.t 0), none⟩,
        ⟨some 13, .bin .mul (.k (.c (.int .i64 2))) (.t 12), none⟩,
        ⟨some 14, .makeSlice ([.int .i64 0]) 8 (.t 13) (.t 13), none⟩,
        ⟨some 4, .mv (.t 14), none⟩])
  (.seq (.seq (.region
        [⟨some 15, .mv (.t 4), none⟩,
          ⟨some 16, .len false (.t 15), none⟩,
          ⟨some 17, .mv (.k (.c (.int .i64 0))), none⟩])
    (.block 0
      (.loop
        (.seq (.region
            [⟨some 18, .bin .lss (.t 17) (.t 16), none⟩])
        (.seq (.cond (.t 18)
            (.skip)
            (.exit 0))
        (.seq (.block 1
            (.seq (.region
                [⟨some 19, .mv (.t 17), none⟩,
                  ⟨some 5, .mv (.t 19), none⟩])
            (.seq (.region
                [⟨some 20, .mv (.t 4), none⟩,
                  ⟨some 21, .mv (.t 5), none⟩,
                  ⟨some 22, .mv (.t 5), none⟩,
                  ⟨some 23, .bin .quo (.t 22) (.k (.c (.int .i64 2))), none⟩,
                  ⟨some 24, .idxSlc 1 (.t 20) (.t 21), none⟩,
                  ⟨none, .store 1 (.t 24) (.t 23), none⟩])
            (.seq (.region
                [⟨some 25, .mv (.t 5), none⟩,
                  ⟨some 26, .bin .rem (.t 25) (.k (.c (.int .i64 2))), none⟩,
                  ⟨some 27, .bin .eql (.t 26) (.k (.c (.int .i64 1))), none⟩])
            (.cond (.t 27)
              (.region
                [⟨some 28, .mv (.t 4), none⟩,
                  ⟨some 29, .mv (.t 5), none⟩,
                  ⟨some 30, .idxSlc 1 (.t 28) (.t 29), none⟩,
                  ⟨some 31, .load1 (.t 30), none⟩,
                  ⟨some 32, .mv (.t 0), none⟩,
                  ⟨some 33, .bin .add (.t 31) (.t 32), none⟩,
                  ⟨some 34, .idxSlc 1 (.t 28) (.t 29), none⟩,
                  ⟨none, .store 1 (.t 34) (.t 33), none⟩])
              (.skip))))))
        (.region
          [⟨some 35, .bin .add (.t 17) (.k (.c (.int .i64 1))), none⟩,
            ⟨some 17, .mv (.t 35), none⟩])))))))
  (.seq (.region
      [⟨some 36, .mv (.t 4), none⟩,
        ⟨some 2, .mv (.t 36), none⟩,
        ⟨some 3, .mv (.k (.c (.int .i64 0))), none⟩])
  (.ret))))))
theorem t_shuffle_Places : A F_shuffle_Places = some c_shuffle_Places := by kernel_rfl
end PK

/- Where blocks go: shuffle.Places; ShufflePlaces, walked. -/

namespace PK
open Go PAbs
set_option linter.unusedSimpArgs false
set_option linter.unusedVariables false
set_option maxRecDepth 100000
set_option maxHeartbeats 2000000

def plc (r i : Nat) : Nat := i / 2 + (if i % 2 = 1 then r else 0)
theorem plc_lt {r i : Nat} (h : i < 2 * r) : plc r i < 2 * r := by simp only [plc]; split <;> omega
theorem zerosI (n : Nat) : (List.replicate n [Cell.int .i64 0]).flatten = I64 (List.replicate n 0) := by
  induction n with
  | zero => rfl
  | succ n ih => simp only [List.replicate_succ, List.flatten_cons, ih, I64, List.map_cons]; rfl
def plI (q r : Nat) (H0 : AHeap) (i : Nat) (fr : AFrame) (H : AHeap) : Prop := hown H q = some (I64 (upd (plc r) (List.replicate (2 * r) 0) i)) ∧ (∃ s : Nat → AV, fr = [.c (.int .i64 (r : Int)), s 1, s 2, s 3, .c (.slc q 0 (2 * r) 1), s 5, s 6, s 7, s 8, s 9, s 10, s 11, s 12, s 13, s 14, s 15, .c (.int .i64 ((2 * r : Nat) : Int)), .c (.int .i64 (i : Int)), s 18, s 19, s 20, s 21, s 22, s 23, s 24, s 25, s 26, s 27, s 28, s 29, s 30, s 31, s 32, s 33, s 34, s 35, s 36])

theorem AC_Places (H : AHeap) (z : Int) (hz : -9223372036854775808 ≤ z ∧ z ≤ 9223372036854775807) : AC A H.length F_shuffle_Places [.c (.int .i64 z)] H
    (fun v H' => ((z < 1 ∨ z > 512) ∧ v = .tup [.c .snil, .c (.int .i64 2)]) ∨ (1 ≤ z ∧ z ≤ 512 ∧ ∃ q, v = .tup [.c (.slc q 0 (2 * z.toNat) 1), .c (.int .i64 0)] ∧ H.length ≤ q ∧ hown H' q = some (I64 (upd (plc z.toNat) (List.replicate (2 * z.toNat) 0) (2 * z.toNat))))) := by
  refine AC_enter t_shuffle_Places ?_; simp only [c_shuffle_Places, enterA, List.replicate, List.length_cons, List.length_nil, Nat.reduceAdd, Nat.reduceSub, List.cons_append, List.nil_append]
  rcases Decidable.em (z < 1) with h1 | h1
  · (repeat (first | with_reducible refine thenQ_n ?_ | with_reducible refine blockQ_n ?_ | refine AW_skip ?_ | refine AW_seq ?_ | refine AW_ops ?_ | refine AW_blockS ?_ | refine AW_blockR ?_ | refine AW_blockD ?_ | refine AW_blockC ?_ | refine AO_nil ?_ | refine AW_draw ?_ | refine AW_draw3 ?_ | refine AW_blockD3 ?_ | refine AHd_nil ?_ | ((first | with_reducible apply AO_pre | with_reducible apply AHd_pre); focus (simp only [Sm, wantedA, execA, stepA, List.getElem?_cons_zero, List.getElem?_cons_succ, if_true, if_false, binA, binInt, unA, eqA, Option.map, eq_self, reduceCtorEq, ite_true, ite_false, cellsAV, fitsAll, CK.fits, fillA, AV.cells, writeN, readN, sliceCells, appendA, lenA, i64, loA, hiA, Nat.reduceAdd, Nat.reduceMul, Nat.reduceDiv, Nat.reduceSub, Nat.reduceLeDiff, Nat.reduceLT, Int.reduceLE, Int.reduceLT, foldA, maxA, minA, Int.reduceBEq, Int.reduceBNe, Int.reduceGT, Int.reduceGE, Int.reduceEq, Int.reduceNe, Int.reduceToNat, AOp.stops, ↓want_eq, ↓exec_lenX, decide_eq_true h1]; with_reducible rfl))))
    refine AW_cond (t := true) rfl (fun _ => ?_) (fun h => by cases h)
    (repeat (first | with_reducible refine thenQ_n ?_ | with_reducible refine blockQ_n ?_ | refine AW_skip ?_ | refine AW_seq ?_ | refine AW_ops ?_ | refine AW_blockS ?_ | refine AW_blockR ?_ | refine AW_blockD ?_ | refine AW_blockC ?_ | refine AO_nil ?_ | refine AW_draw ?_ | refine AW_draw3 ?_ | refine AW_blockD3 ?_ | refine AHd_nil ?_ | ((first | with_reducible apply AO_pre | with_reducible apply AHd_pre); focus (simp only [Sm, wantedA, execA, stepA, List.getElem?_cons_zero, List.getElem?_cons_succ, if_true, if_false, binA, binInt, unA, eqA, Option.map, eq_self, reduceCtorEq, ite_true, ite_false, cellsAV, fitsAll, CK.fits, fillA, AV.cells, writeN, readN, sliceCells, appendA, lenA, i64, loA, hiA, Nat.reduceAdd, Nat.reduceMul, Nat.reduceDiv, Nat.reduceSub, Nat.reduceLeDiff, Nat.reduceLT, Int.reduceLE, Int.reduceLT, foldA, maxA, minA, Int.reduceBEq, Int.reduceBNe, Int.reduceGT, Int.reduceGE, Int.reduceEq, Int.reduceNe, Int.reduceToNat, AOp.stops, ↓want_eq, ↓exec_lenX]; with_reducible rfl))))
    exact AW_ret ⟨_, rfl, .inl ⟨.inl h1, rfl⟩⟩
  rcases Decidable.em (z > 512) with h2 | h2
  · (repeat (first | with_reducible refine thenQ_n ?_ | with_reducible refine blockQ_n ?_ | refine AW_skip ?_ | refine AW_seq ?_ | refine AW_ops ?_ | refine AW_blockS ?_ | refine AW_blockR ?_ | refine AW_blockD ?_ | refine AW_blockC ?_ | refine AO_nil ?_ | refine AW_draw ?_ | refine AW_draw3 ?_ | refine AW_blockD3 ?_ | refine AHd_nil ?_ | ((first | with_reducible apply AO_pre | with_reducible apply AHd_pre); focus (simp only [Sm, wantedA, execA, stepA, List.getElem?_cons_zero, List.getElem?_cons_succ, if_true, if_false, binA, binInt, unA, eqA, Option.map, eq_self, reduceCtorEq, ite_true, ite_false, cellsAV, fitsAll, CK.fits, fillA, AV.cells, writeN, readN, sliceCells, appendA, lenA, i64, loA, hiA, Nat.reduceAdd, Nat.reduceMul, Nat.reduceDiv, Nat.reduceSub, Nat.reduceLeDiff, Nat.reduceLT, Int.reduceLE, Int.reduceLT, foldA, maxA, minA, Int.reduceBEq, Int.reduceBNe, Int.reduceGT, Int.reduceGE, Int.reduceEq, Int.reduceNe, Int.reduceToNat, AOp.stops, ↓want_eq, ↓exec_lenX, decide_eq_false h1, decide_eq_true h2]; with_reducible rfl))))
    refine AW_cond (t := true) rfl (fun _ => ?_) (fun h => by cases h)
    (repeat (first | with_reducible refine thenQ_n ?_ | with_reducible refine blockQ_n ?_ | refine AW_skip ?_ | refine AW_seq ?_ | refine AW_ops ?_ | refine AW_blockS ?_ | refine AW_blockR ?_ | refine AW_blockD ?_ | refine AW_blockC ?_ | refine AO_nil ?_ | refine AW_draw ?_ | refine AW_draw3 ?_ | refine AW_blockD3 ?_ | refine AHd_nil ?_ | ((first | with_reducible apply AO_pre | with_reducible apply AHd_pre); focus (simp only [Sm, wantedA, execA, stepA, List.getElem?_cons_zero, List.getElem?_cons_succ, if_true, if_false, binA, binInt, unA, eqA, Option.map, eq_self, reduceCtorEq, ite_true, ite_false, cellsAV, fitsAll, CK.fits, fillA, AV.cells, writeN, readN, sliceCells, appendA, lenA, i64, loA, hiA, Nat.reduceAdd, Nat.reduceMul, Nat.reduceDiv, Nat.reduceSub, Nat.reduceLeDiff, Nat.reduceLT, Int.reduceLE, Int.reduceLT, foldA, maxA, minA, Int.reduceBEq, Int.reduceBNe, Int.reduceGT, Int.reduceGE, Int.reduceEq, Int.reduceNe, Int.reduceToNat, AOp.stops, ↓want_eq, ↓exec_lenX]; with_reducible rfl))))
    exact AW_ret ⟨_, rfl, .inl ⟨.inr h2, rfl⟩⟩
  obtain ⟨r, rfl⟩ := Int.eq_ofNat_of_zero_le (show 0 ≤ z by omega)
  have hr : r ≤ 512 := by omega
  have hr1 : 1 ≤ r := by omega
  rw [Int.toNat_natCast]
  (repeat (first | with_reducible refine thenQ_n ?_ | with_reducible refine blockQ_n ?_ | refine AW_skip ?_ | refine AW_seq ?_ | refine AW_ops ?_ | refine AW_blockS ?_ | refine AW_blockR ?_ | refine AW_blockD ?_ | refine AW_blockC ?_ | refine AO_nil ?_ | refine AW_draw ?_ | refine AW_draw3 ?_ | refine AW_blockD3 ?_ | refine AHd_nil ?_ | ((first | with_reducible apply AO_pre | with_reducible apply AHd_pre); focus (simp only [Sm, wantedA, execA, stepA, List.getElem?_cons_zero, List.getElem?_cons_succ, if_true, if_false, binA, binInt, unA, eqA, Option.map, eq_self, reduceCtorEq, ite_true, ite_false, cellsAV, fitsAll, CK.fits, fillA, AV.cells, writeN, readN, sliceCells, appendA, lenA, i64, loA, hiA, Nat.reduceAdd, Nat.reduceMul, Nat.reduceDiv, Nat.reduceSub, Nat.reduceLeDiff, Nat.reduceLT, Int.reduceLE, Int.reduceLT, foldA, maxA, minA, Int.reduceBEq, Int.reduceBNe, Int.reduceGT, Int.reduceGE, Int.reduceEq, Int.reduceNe, Int.reduceToNat, AOp.stops, ↓want_eq, ↓exec_lenX, decide_eq_false h1, decide_eq_false h2]; with_reducible rfl))))
  refine AW_cond (t := false) rfl (fun h => by cases h) fun _ => ?_
  have e1 : IntKind.i64.wrap (2 * (r : Int)) = ((2 * r : Nat) : Int) := by rw [i64_of (by omega) (by omega)]; omega
  have e2 : ((2 * r : Nat) : Int) * 8 ≤ 140737488355328 := by omega
  (repeat (first | with_reducible refine thenQ_n ?_ | with_reducible refine blockQ_n ?_ | refine AW_skip ?_ | refine AW_seq ?_ | refine AW_ops ?_ | refine AW_blockS ?_ | refine AW_blockR ?_ | refine AW_blockD ?_ | refine AW_blockC ?_ | refine AO_nil ?_ | refine AW_draw ?_ | refine AW_draw3 ?_ | refine AW_blockD3 ?_ | refine AHd_nil ?_ | ((first | with_reducible apply AO_pre | with_reducible apply AHd_pre); focus (simp only [Sm, wantedA, execA, stepA, List.getElem?_cons_zero, List.getElem?_cons_succ, if_true, if_false, binA, binInt, unA, eqA, Option.map, eq_self, reduceCtorEq, ite_true, ite_false, cellsAV, fitsAll, CK.fits, fillA, AV.cells, writeN, readN, sliceCells, appendA, lenA, i64, loA, hiA, Nat.reduceAdd, Nat.reduceMul, Nat.reduceDiv, Nat.reduceSub, Nat.reduceLeDiff, Nat.reduceLT, Int.reduceLE, Int.reduceLT, foldA, maxA, minA, Int.reduceBEq, Int.reduceBNe, Int.reduceGT, Int.reduceGE, Int.reduceEq, Int.reduceNe, Int.reduceToNat, AOp.stops, ↓want_eq, ↓exec_lenX, e1, e2, Int.le_refl, zerosI]; with_reducible rfl))))
  have ho : hown (H ++ [Blk.own (I64 (List.replicate (2 * r) 0))]) H.length = some (I64 (List.replicate (2 * r) 0)) := hown_last
  generalize H ++ [Blk.own (I64 (List.replicate (2 * r) 0))] = H1 at *
  generalize H.length = q at *
  (repeat (first | with_reducible refine thenQ_n ?_ | with_reducible refine blockQ_n ?_ | refine AW_skip ?_ | refine AW_seq ?_ | refine AW_ops ?_ | refine AW_blockS ?_ | refine AW_blockR ?_ | refine AW_blockD ?_ | refine AW_blockC ?_ | refine AO_nil ?_ | refine AW_draw ?_ | refine AW_draw3 ?_ | refine AW_blockD3 ?_ | refine AHd_nil ?_ | ((first | with_reducible apply AO_pre | with_reducible apply AHd_pre); focus (simp only [Sm, wantedA, execA, stepA, List.getElem?_cons_zero, List.getElem?_cons_succ, if_true, if_false, binA, binInt, unA, eqA, Option.map, eq_self, reduceCtorEq, ite_true, ite_false, cellsAV, fitsAll, CK.fits, fillA, AV.cells, writeN, readN, sliceCells, appendA, lenA, i64, loA, hiA, Nat.reduceAdd, Nat.reduceMul, Nat.reduceDiv, Nat.reduceSub, Nat.reduceLeDiff, Nat.reduceLT, Int.reduceLE, Int.reduceLT, foldA, maxA, minA, Int.reduceBEq, Int.reduceBNe, Int.reduceGT, Int.reduceGE, Int.reduceEq, Int.reduceNe, Int.reduceToNat, AOp.stops, ↓want_eq, ↓exec_lenX, hcells_own ho]; with_reducible rfl))))
  refine AW_mid (fun e fr H' => e = .normal ∧ plI q r H1 (2 * r) fr H') ?_ ?_
  · refine AW_block (AW_up (plI q r H1) (2 * r) ⟨ho, stale _ _ rfl⟩ ?_)
    rintro i fr H2 hi ⟨ho2, st, rfl⟩
    (repeat (first | with_reducible refine thenQ_n ?_ | with_reducible refine blockQ_n ?_ | refine AW_skip ?_ | refine AW_seq ?_ | refine AW_ops ?_ | refine AW_blockS ?_ | refine AW_blockR ?_ | refine AW_blockD ?_ | refine AW_blockC ?_ | refine AO_nil ?_ | refine AW_draw ?_ | refine AW_draw3 ?_ | refine AW_blockD3 ?_ | refine AHd_nil ?_ | ((first | with_reducible apply AO_pre | with_reducible apply AHd_pre); focus (simp only [Sm, wantedA, execA, stepA, List.getElem?_cons_zero, List.getElem?_cons_succ, if_true, if_false, binA, binInt, unA, eqA, Option.map, eq_self, reduceCtorEq, ite_true, ite_false, cellsAV, fitsAll, CK.fits, fillA, AV.cells, writeN, readN, sliceCells, appendA, lenA, i64, loA, hiA, Nat.reduceAdd, Nat.reduceMul, Nat.reduceDiv, Nat.reduceSub, Nat.reduceLeDiff, Nat.reduceLT, Int.reduceLE, Int.reduceLT, foldA, maxA, minA, Int.reduceBEq, Int.reduceBNe, Int.reduceGT, Int.reduceGE, Int.reduceEq, Int.reduceNe, Int.reduceToNat, AOp.stops, ↓want_eq, ↓exec_lenX]; with_reducible rfl))))
    refine AW_cond rfl ?_ ?_ <;> intro ht
    · have ht : (i : Int) < ((2 * r : Nat) : Int) := of_decide_eq_true ht
      have hi2 : i < 2 * r := by omega
      have e3 : Int.tdiv (i : Int) 2 = ((i / 2 : Nat) : Int) := tdiv_nat
      have e4 : IntKind.i64.wrap ((i / 2 : Nat) : Int) = ((i / 2 : Nat) : Int) := i64_of (by omega) (by omega)
      have e5 : Int.tmod (i : Int) 2 = ((i % 2 : Nat) : Int) := tmod_nat
      have e6 : ¬ ((2 : Int) = 0) := by omega
      have ul : (I64 (upd (plc r) (List.replicate (2 * r) 0) i)).length = 2 * r := by rw [I64_length, upd_length]; simp
      have c0 : (((i % 2 : Nat) : Int) == 1) = decide (i % 2 = 1) := by rw [Bool.eq_iff_iff, beq_iff_eq, decide_eq_true_eq]; omega
      (repeat (first | with_reducible refine thenQ_n ?_ | with_reducible refine blockQ_n ?_ | refine AW_skip ?_ | refine AW_seq ?_ | refine AW_ops ?_ | refine AW_blockS ?_ | refine AW_blockR ?_ | refine AW_blockD ?_ | refine AW_blockC ?_ | refine AO_nil ?_ | refine AW_draw ?_ | refine AW_draw3 ?_ | refine AW_blockD3 ?_ | refine AHd_nil ?_ | ((first | with_reducible apply AO_pre | with_reducible apply AHd_pre); focus (simp only [Sm, wantedA, execA, stepA, List.getElem?_cons_zero, List.getElem?_cons_succ, if_true, if_false, binA, binInt, unA, eqA, Option.map, eq_self, reduceCtorEq, ite_true, ite_false, cellsAV, fitsAll, CK.fits, fillA, AV.cells, writeN, readN, sliceCells, appendA, lenA, i64, loA, hiA, Nat.reduceAdd, Nat.reduceMul, Nat.reduceDiv, Nat.reduceSub, Nat.reduceLeDiff, Nat.reduceLT, Int.reduceLE, Int.reduceLT, foldA, maxA, minA, Int.reduceBEq, Int.reduceBNe, Int.reduceGT, Int.reduceGE, Int.reduceEq, Int.reduceNe, Int.reduceToNat, AOp.stops, ↓want_eq, ↓exec_lenX, hcells_own ho2, ht, e3, e4, e6, ↓exec_storeX, storeX_own ho2 (Nat.le_refl _) (by rw [ul]; exact hi2 : i < _), Nat.zero_add]; with_reducible rfl))))
      have ho3 : hown (H2.set q (.own ((I64 (upd (plc r) (List.replicate (2 * r) 0) i)).set i (.int .i64 ((i / 2 : Nat) : Int))))) q = some (I64 ((upd (plc r) (List.replicate (2 * r) 0) i).set i (i / 2))) := by rw [hown_set (hown_lt ho2), I64_set]
      generalize H2.set q (.own ((I64 (upd (plc r) (List.replicate (2 * r) 0) i)).set i (.int .i64 ((i / 2 : Nat) : Int)))) = H3 at *
      have ul3 : (I64 ((upd (plc r) (List.replicate (2 * r) 0) i).set i (i / 2))).length = 2 * r := by rw [I64_length, List.length_set, upd_length]; simp
      have ho3c := hcells_own ho3
      refine AW_cond (t := decide (i % 2 = 1)) (?_ : _ = AV.c (.bool _)) ?_ ?_
      · simp only [ev_t, List.getD_cons_succ, List.getD_cons_zero, e5, c0]
      all_goals intro hd
      · have hodd : i % 2 = 1 := of_decide_eq_true hd
        have g1 : (I64 ((upd (plc r) (List.replicate (2 * r) 0) i).set i (i / 2)))[i]? = some (.int .i64 ((i / 2 : Nat) : Int)) := by
          rw [← I64_set, List.getElem?_set_self (by rw [ul]; exact hi2)]
        have e7 : IntKind.i64.wrap (((i / 2 : Nat) : Int) + (r : Int)) = ((i / 2 + r : Nat) : Int) := i64_add (by omega)
        (repeat (first | with_reducible refine thenQ_n ?_ | with_reducible refine blockQ_n ?_ | refine AW_skip ?_ | refine AW_seq ?_ | refine AW_ops ?_ | refine AW_blockS ?_ | refine AW_blockR ?_ | refine AW_blockD ?_ | refine AW_blockC ?_ | refine AO_nil ?_ | refine AW_draw ?_ | refine AW_draw3 ?_ | refine AW_blockD3 ?_ | refine AHd_nil ?_ | ((first | with_reducible apply AO_pre | with_reducible apply AHd_pre); focus (simp only [Sm, wantedA, execA, stepA, List.getElem?_cons_zero, List.getElem?_cons_succ, if_true, if_false, binA, binInt, unA, eqA, Option.map, eq_self, reduceCtorEq, ite_true, ite_false, cellsAV, fitsAll, CK.fits, fillA, AV.cells, writeN, readN, sliceCells, appendA, lenA, i64, loA, hiA, Nat.reduceAdd, Nat.reduceMul, Nat.reduceDiv, Nat.reduceSub, Nat.reduceLeDiff, Nat.reduceLT, Int.reduceLE, Int.reduceLT, foldA, maxA, minA, Int.reduceBEq, Int.reduceBNe, Int.reduceGT, Int.reduceGE, Int.reduceEq, Int.reduceNe, Int.reduceToNat, AOp.stops, ↓want_eq, ↓exec_lenX, ho3c, ht, g1, e7, ↓exec_storeX, storeX_own ho3 (Nat.le_refl _) (by rw [ul3]; exact hi2 : i < _), Nat.zero_add, i64_succ (show i < 9223372036854775807 by omega)]; with_reducible rfl))))
        refine ⟨hi2, ?_, stale _ _ rfl⟩
        rw [hown_set (hown_lt ho3), I64_set, List.set_set, show i / 2 + r = plc r i by simp only [plc, if_pos hodd]]; rfl
      · have hodd : ¬ i % 2 = 1 := of_decide_eq_false hd
        (repeat (first | with_reducible refine thenQ_n ?_ | with_reducible refine blockQ_n ?_ | refine AW_skip ?_ | refine AW_seq ?_ | refine AW_ops ?_ | refine AW_blockS ?_ | refine AW_blockR ?_ | refine AW_blockD ?_ | refine AW_blockC ?_ | refine AO_nil ?_ | refine AW_draw ?_ | refine AW_draw3 ?_ | refine AW_blockD3 ?_ | refine AHd_nil ?_ | ((first | with_reducible apply AO_pre | with_reducible apply AHd_pre); focus (simp only [Sm, wantedA, execA, stepA, List.getElem?_cons_zero, List.getElem?_cons_succ, if_true, if_false, binA, binInt, unA, eqA, Option.map, eq_self, reduceCtorEq, ite_true, ite_false, cellsAV, fitsAll, CK.fits, fillA, AV.cells, writeN, readN, sliceCells, appendA, lenA, i64, loA, hiA, Nat.reduceAdd, Nat.reduceMul, Nat.reduceDiv, Nat.reduceSub, Nat.reduceLeDiff, Nat.reduceLT, Int.reduceLE, Int.reduceLT, foldA, maxA, minA, Int.reduceBEq, Int.reduceBNe, Int.reduceGT, Int.reduceGE, Int.reduceEq, Int.reduceNe, Int.reduceToNat, AOp.stops, ↓want_eq, ↓exec_lenX, i64_succ (show i < 9223372036854775807 by omega)]; with_reducible rfl))))
        refine ⟨hi2, ?_, stale _ _ rfl⟩
        rw [ho3, show i / 2 = plc r i by simp only [plc, if_neg hodd, Nat.add_zero]]; rfl
    · obtain rfl : i = 2 * r := by have : ¬ (i : Int) < ((2 * r : Nat) : Int) := of_decide_eq_false ht; omega
      exact AW_exit ⟨rfl, ho2, stale _ _ rfl⟩
  rintro e fr H2 ⟨rfl, ho2, st, rfl⟩
  (repeat (first | with_reducible refine thenQ_n ?_ | with_reducible refine blockQ_n ?_ | refine AW_skip ?_ | refine AW_seq ?_ | refine AW_ops ?_ | refine AW_blockS ?_ | refine AW_blockR ?_ | refine AW_blockD ?_ | refine AW_blockC ?_ | refine AO_nil ?_ | refine AW_draw ?_ | refine AW_draw3 ?_ | refine AW_blockD3 ?_ | refine AHd_nil ?_ | ((first | with_reducible apply AO_pre | with_reducible apply AHd_pre); focus (simp only [Sm, wantedA, execA, stepA, List.getElem?_cons_zero, List.getElem?_cons_succ, if_true, if_false, binA, binInt, unA, eqA, Option.map, eq_self, reduceCtorEq, ite_true, ite_false, cellsAV, fitsAll, CK.fits, fillA, AV.cells, writeN, readN, sliceCells, appendA, lenA, i64, loA, hiA, Nat.reduceAdd, Nat.reduceMul, Nat.reduceDiv, Nat.reduceSub, Nat.reduceLeDiff, Nat.reduceLT, Int.reduceLE, Int.reduceLT, foldA, maxA, minA, Int.reduceBEq, Int.reduceBNe, Int.reduceGT, Int.reduceGE, Int.reduceEq, Int.reduceNe, Int.reduceToNat, AOp.stops, ↓want_eq, ↓exec_lenX]; with_reducible rfl))))
  exact AW_ret ⟨_, rfl, .inr ⟨by omega, by omega, q, rfl, Nat.le_refl _, ho2⟩⟩


end PK

/- Package pestleref23 as code of the abstract machine. -/
namespace PK
open Go PAbs

noncomputable def c_pestleref23_Mix : AFn := AFn.mk 82 [.tmp 4]
  (.seq (.region
      [⟨some 4, .mv (.k (.c (.snil))), none⟩])
  (.seq (.region
      [⟨some 5, .alloc (rep 16 (.int .u32 0)), none⟩])
  (.seq (.seq (.region
        [⟨some 6, .mv (.k (.c (.int .i64 0))), none⟩])
    (.block 0
      (.loop
        (.seq (.seq (.region
              [⟨some 14, .mv (.t 6), none⟩,
                ⟨some 15, .bin .lss (.t 14) (.k (.c (.int .i64 16))), none⟩])
          (.cond (.t 15)
            (.skip)
            (.exit 0)))
        (.seq (.block 1
            (.region
              [⟨some 18, .mv (.t 6), none⟩,
                ⟨some 19, .mv (.t 1), none⟩,
                ⟨some 20, .mv (.t 1), none⟩,
                ⟨some 21, .len false (.t 20), none⟩,
                ⟨some 22, .bin .sub (.t 21) (.k (.c (.int .i64 16))), none⟩,
                ⟨some 23, .mv (.t 6), none⟩,
                ⟨some 24, .bin .add (.t 22) (.t 23), none⟩,
                ⟨some 25, .idxSlc 1 (.t 19) (.t 24), none⟩,
                ⟨some 26, .load1 (.t 25), none⟩,
                ⟨some 27, .idxArr 16 1 (.t 5) (.t 18), none⟩,
                ⟨none, .store 1 (.t 27) (.t 26), none⟩]))
        (.region
          [⟨some 16, .mv (.t 6), none⟩,
            ⟨some 17, .bin .add (.t 16) (.k (.c (.int .i64 1))), none⟩,
            ⟨some 6, .mv (.t 17), none⟩]))))))
  (.seq (.region
      [⟨some 7, .mv (.k (.c (.snil))), none⟩])
  (.seq (.seq (.region
        [⟨some 8, .mv (.k (.c (.int .i64 0))), none⟩])
    (.block 2
      (.loop
        (.seq (.seq (.region
              [⟨some 28, .mv (.t 8), none⟩,
                ⟨some 29, .mv (.t 0), none⟩,
                ⟨some 30, .bin .mul (.k (.c (.int .i64 2))) (.t 29), none⟩,
                ⟨some 31, .bin .lss (.t 28) (.t 30), none⟩])
          (.cond (.t 31)
            (.skip)
            (.exit 2)))
        (.seq (.block 3
            (.seq (.seq (.region
                  [⟨some 9, .mv (.k (.c (.int .i64 0))), none⟩])
              (.block 4
                (.loop
                  (.seq (.seq (.region
                        [⟨some 34, .mv (.t 9), none⟩,
                          ⟨some 35, .bin .lss (.t 34) (.k (.c (.int .i64 16))), none⟩])
                    (.cond (.t 35)
                      (.skip)
                      (.exit 4)))
                  (.seq (.block 5
                      (.draw
                        [⟨some 38, .mv (.t 9), none⟩,
                          ⟨some 39, .mv (.t 9), none⟩,
                          ⟨some 40, .idxArr 16 1 (.t 5) (.t 39), none⟩,
                          ⟨some 41, .load1 (.t 40), none⟩,
                          ⟨some 42, .mv (.t 1), none⟩,
                          ⟨some 43, .mv (.t 8), none⟩,
                          ⟨some 44, .bin .mul (.k (.c (.int .i64 16))) (.t 43), none⟩,
                          ⟨some 45, .mv (.t 9), none⟩,
                          ⟨some 46, .bin .add (.t 44) (.t 45), none⟩,
                          ⟨some 47, .idxSlc 1 (.t 42) (.t 46), none⟩,
                          ⟨some 48, .load1 (.t 47), none⟩,
                          ⟨some 49, .bin .xor (.t 41) (.t 48), none⟩]
                        [⟨some 50, .idxArr 16 1 (.t 5) (.t 38), none⟩,
                          ⟨none, .store 1 (.t 50) (.t 49), none⟩]))
                  (.region
                    [⟨some 36, .mv (.t 9), none⟩,
                      ⟨some 37, .bin .add (.t 36) (.k (.c (.int .i64 1))), none⟩,
                      ⟨some 9, .mv (.t 37), none⟩]))))))
            (.seq (.region
                [⟨some 51, .loadN 16 (.t 5), none⟩,
                  ⟨some 52, .call F_pestleref12_Core [.t 51, .k (.c (.int .i64 4))], none⟩,
                  ⟨none, .store 16 (.t 5) (.t 52), none⟩])
            (.region
              [⟨some 53, .mv (.t 7), none⟩,
                ⟨some 54, .loadN 16 (.t 5), none⟩,
                ⟨some 55, .buildSlice (rep 16 (.int .u32 0)) 16 1 [(0, 16, .t 54)], none⟩,
                ⟨some 56, .append (rep 16 (.int .u32 0)) 64 (.t 53) (.t 55), none⟩,
                ⟨some 7, .mv (.t 56), none⟩]))))
        (.region
          [⟨some 32, .mv (.t 8), none⟩,
            ⟨some 33, .bin .add (.t 32) (.k (.c (.int .i64 1))), none⟩,
            ⟨some 8, .mv (.t 33), none⟩]))))))
  (.seq (.region
      [⟨some 10, .mv (.k (.c (.snil))), none⟩])
  (.seq (.seq (.region
        [⟨some 11, .mv (.k (.c (.int .i64 0))), none⟩])
    (.block 6
      (.loop
        (.seq (.seq (.region
              [⟨some 57, .mv (.t 11), none⟩,
                ⟨some 58, .bin .lss (.t 57) (.k (.c (.int .i64 2))), none⟩])
          (.cond (.t 58)
            (.skip)
            (.exit 6)))
        (.seq (.block 7
            (.seq (.region
                [⟨some 61, .mv (.t 11), none⟩,
                  ⟨some 12, .mv (.t 61), none⟩])
            (.block 8
              (.loop
                (.seq (.seq (.region
                      [⟨some 62, .mv (.t 12), none⟩,
                        ⟨some 63, .mv (.t 0), none⟩,
                        ⟨some 64, .bin .mul (.k (.c (.int .i64 2))) (.t 63), none⟩,
                        ⟨some 65, .bin .lss (.t 62) (.t 64), none⟩])
                  (.cond (.t 65)
                    (.skip)
                    (.exit 8)))
                (.seq (.block 9
                    (.seq (.region
                        [⟨some 13, .mv (.k (.c (.int .i64 0))), none⟩])
                    (.block 10
                      (.loop
                        (.seq (.seq (.region
                              [⟨some 68, .mv (.t 13), none⟩,
                                ⟨some 69, .bin .lss (.t 68) (.k (.c (.int .i64 16))), none⟩])
                          (.cond (.t 69)
                            (.skip)
                            (.exit 10)))
                        (.seq (.block 11
                            (.region
                              [⟨some 72, .mv (.t 10), none⟩,
                                ⟨some 73, .mv (.t 7), none⟩,
                                ⟨some 74, .mv (.t 12), none⟩,
                                ⟨some 75, .mv (.t 13), none⟩,
                                ⟨some 76, .idxSlc 16 (.t 73) (.t 74), none⟩,
                                ⟨some 77, .idxArr 16 1 (.t 76) (.t 75), none⟩,
                                ⟨some 78, .load1 (.t 77), none⟩,
                                ⟨some 79, .buildSlice ([.int .u32 0]) 1 1 [(0, 1, .t 78)], none⟩,
                                ⟨some 80, .append ([.int .u32 0]) 4 (.t 72) (.t 79), none⟩,
                                ⟨some 10, .mv (.t 80), none⟩]))
                        (.region
                          [⟨some 70, .mv (.t 13), none⟩,
                            ⟨some 71, .bin .add (.t 70) (.k (.c (.int .i64 1))), none⟩,
                            ⟨some 13, .mv (.t 71), none⟩])))))))
                (.region
                  [⟨some 66, .mv (.t 12), none⟩,
                    ⟨some 67, .bin .add (.t 66) (.k (.c (.int .i64 2))), none⟩,
                    ⟨some 12, .mv (.t 67), none⟩])))))))
        (.region
          [⟨some 59, .mv (.t 11), none⟩,
            ⟨some 60, .bin .add (.t 59) (.k (.c (.int .i64 1))), none⟩,
            ⟨some 11, .mv (.t 60), none⟩]))))))
  (.seq (.region
      [⟨some 81, .mv (.t 10), none⟩,
        ⟨some 4, .mv (.t 81), none⟩])
  (.ret)))))))))
theorem t_pestleref23_Mix : A F_pestleref23_Mix = some c_pestleref23_Mix := by kernel_rfl

noncomputable def c_pestleref23_Integer : AFn := AFn.mk 21 [.tmp 4]
  (.seq (.region
      [⟨some 4, .mv (.k (.c (.int .u64 0))), none⟩])
  (.seq (.draw
      [⟨some 5, .mv (.t 1), none⟩,
        ⟨some 6, .mv (.t 0), none⟩,
        ⟨some 7, .bin .mul (.k (.c (.int .i64 32))) (.t 6), none⟩,
        ⟨some 8, .bin .sub (.t 7) (.k (.c (.int .i64 16))), none⟩,
        ⟨some 9, .idxSlc 1 (.t 5) (.t 8), none⟩,
        ⟨some 10, .load1 (.t 9), none⟩,
        ⟨some 11, .convInt .u64 (.t 10), none⟩,
        ⟨some 12, .mv (.t 1), none⟩,
        ⟨some 13, .mv (.t 0), none⟩,
        ⟨some 14, .bin .mul (.k (.c (.int .i64 32))) (.t 13), none⟩,
        ⟨some 15, .bin .sub (.t 14) (.k (.c (.int .i64 15))), none⟩,
        ⟨some 16, .idxSlc 1 (.t 12) (.t 15), none⟩,
        ⟨some 17, .load1 (.t 16), none⟩,
        ⟨some 18, .convInt .u64 (.t 17), none⟩,
        ⟨some 19, .bin .mul (.k (.c (.int .u64 4294967296))) (.t 18), none⟩]
      [⟨some 20, .bin .add (.t 11) (.t 19), none⟩,
        ⟨some 4, .mv (.t 20), none⟩])
  (.ret)))
theorem t_pestleref23_Integer : A F_pestleref23_Integer = some c_pestleref23_Integer := by kernel_rfl
end PK

/- Package shuffle and the document's: Check, Why, Integer: walked. -/
namespace PK
open Go PAbs
set_option linter.unusedSimpArgs false
set_option linter.unusedVariables false
set_option maxRecDepth 100000
set_option maxHeartbeats 2000000

def whyE (z : Int) (n : Nat) : Int := if z < 1 ∨ z > 512 then 2 else if (n : Int) ≠ 32 * z then 9 else 0
section
variable (H : AHeap) (y : Cell) (ls : List Nat) (z : Int) (hy : Rd H y 1 (W32 ls))
include hy
theorem AC_shCheck : AC A H.length F_shuffle_Check [.c (.int .i64 z), .c y] H (fun v H' => v = .c (.int .i64 (whyE z ls.length)) ∧ H = H') := by
  have yl : (W32 ls).length = ls.length := W32_length
  refine AC_enter t_shuffle_Check ?_; simp only [c_shuffle_Check, enterA, List.replicate, List.length_cons, List.length_nil, Nat.reduceAdd, Nat.reduceSub, List.cons_append, List.nil_append]
  rcases Decidable.em (z < 1) with h1 | h1
  · (repeat (first | with_reducible refine thenQ_n ?_ | with_reducible refine blockQ_n ?_ | refine AW_skip ?_ | refine AW_seq ?_ | refine AW_ops ?_ | refine AW_blockS ?_ | refine AW_blockR ?_ | refine AW_blockD ?_ | refine AW_blockC ?_ | refine AO_nil ?_ | refine AW_draw ?_ | refine AW_draw3 ?_ | refine AW_blockD3 ?_ | refine AHd_nil ?_ | ((first | with_reducible apply AO_pre | with_reducible apply AHd_pre); focus (simp only [Sm, wantedA, execA, stepA, List.getElem?_cons_zero, List.getElem?_cons_succ, if_true, if_false, binA, binInt, unA, eqA, Option.map, eq_self, reduceCtorEq, ite_true, ite_false, cellsAV, fitsAll, CK.fits, fillA, AV.cells, writeN, readN, sliceCells, appendA, lenA, i64, loA, hiA, Nat.reduceAdd, Nat.reduceMul, Nat.reduceDiv, Nat.reduceSub, Nat.reduceLeDiff, Nat.reduceLT, Int.reduceLE, Int.reduceLT, foldA, maxA, minA, Int.reduceBEq, Int.reduceBNe, Int.reduceGT, Int.reduceGE, Int.reduceEq, Int.reduceNe, Int.reduceToNat, AOp.stops, ↓want_eq, ↓exec_lenX, decide_eq_true h1]; with_reducible rfl))))
    refine AW_cond (t := true) rfl (fun _ => ?_) (fun h => by cases h)
    (repeat (first | with_reducible refine thenQ_n ?_ | with_reducible refine blockQ_n ?_ | refine AW_skip ?_ | refine AW_seq ?_ | refine AW_ops ?_ | refine AW_blockS ?_ | refine AW_blockR ?_ | refine AW_blockD ?_ | refine AW_blockC ?_ | refine AO_nil ?_ | refine AW_draw ?_ | refine AW_draw3 ?_ | refine AW_blockD3 ?_ | refine AHd_nil ?_ | ((first | with_reducible apply AO_pre | with_reducible apply AHd_pre); focus (simp only [Sm, wantedA, execA, stepA, List.getElem?_cons_zero, List.getElem?_cons_succ, if_true, if_false, binA, binInt, unA, eqA, Option.map, eq_self, reduceCtorEq, ite_true, ite_false, cellsAV, fitsAll, CK.fits, fillA, AV.cells, writeN, readN, sliceCells, appendA, lenA, i64, loA, hiA, Nat.reduceAdd, Nat.reduceMul, Nat.reduceDiv, Nat.reduceSub, Nat.reduceLeDiff, Nat.reduceLT, Int.reduceLE, Int.reduceLT, foldA, maxA, minA, Int.reduceBEq, Int.reduceBNe, Int.reduceGT, Int.reduceGE, Int.reduceEq, Int.reduceNe, Int.reduceToNat, AOp.stops, ↓want_eq, ↓exec_lenX]; with_reducible rfl))))
    exact AW_ret ⟨_, rfl, by simp only [whyE, if_pos (Or.inl h1 : z < 1 ∨ z > 512)]; rfl, rfl⟩
  rcases Decidable.em (z > 512) with h2 | h2
  · (repeat (first | with_reducible refine thenQ_n ?_ | with_reducible refine blockQ_n ?_ | refine AW_skip ?_ | refine AW_seq ?_ | refine AW_ops ?_ | refine AW_blockS ?_ | refine AW_blockR ?_ | refine AW_blockD ?_ | refine AW_blockC ?_ | refine AO_nil ?_ | refine AW_draw ?_ | refine AW_draw3 ?_ | refine AW_blockD3 ?_ | refine AHd_nil ?_ | ((first | with_reducible apply AO_pre | with_reducible apply AHd_pre); focus (simp only [Sm, wantedA, execA, stepA, List.getElem?_cons_zero, List.getElem?_cons_succ, if_true, if_false, binA, binInt, unA, eqA, Option.map, eq_self, reduceCtorEq, ite_true, ite_false, cellsAV, fitsAll, CK.fits, fillA, AV.cells, writeN, readN, sliceCells, appendA, lenA, i64, loA, hiA, Nat.reduceAdd, Nat.reduceMul, Nat.reduceDiv, Nat.reduceSub, Nat.reduceLeDiff, Nat.reduceLT, Int.reduceLE, Int.reduceLT, foldA, maxA, minA, Int.reduceBEq, Int.reduceBNe, Int.reduceGT, Int.reduceGE, Int.reduceEq, Int.reduceNe, Int.reduceToNat, AOp.stops, ↓want_eq, ↓exec_lenX, decide_eq_false h1, decide_eq_true h2]; with_reducible rfl))))
    refine AW_cond (t := true) rfl (fun _ => ?_) (fun h => by cases h)
    (repeat (first | with_reducible refine thenQ_n ?_ | with_reducible refine blockQ_n ?_ | refine AW_skip ?_ | refine AW_seq ?_ | refine AW_ops ?_ | refine AW_blockS ?_ | refine AW_blockR ?_ | refine AW_blockD ?_ | refine AW_blockC ?_ | refine AO_nil ?_ | refine AW_draw ?_ | refine AW_draw3 ?_ | refine AW_blockD3 ?_ | refine AHd_nil ?_ | ((first | with_reducible apply AO_pre | with_reducible apply AHd_pre); focus (simp only [Sm, wantedA, execA, stepA, List.getElem?_cons_zero, List.getElem?_cons_succ, if_true, if_false, binA, binInt, unA, eqA, Option.map, eq_self, reduceCtorEq, ite_true, ite_false, cellsAV, fitsAll, CK.fits, fillA, AV.cells, writeN, readN, sliceCells, appendA, lenA, i64, loA, hiA, Nat.reduceAdd, Nat.reduceMul, Nat.reduceDiv, Nat.reduceSub, Nat.reduceLeDiff, Nat.reduceLT, Int.reduceLE, Int.reduceLT, foldA, maxA, minA, Int.reduceBEq, Int.reduceBNe, Int.reduceGT, Int.reduceGE, Int.reduceEq, Int.reduceNe, Int.reduceToNat, AOp.stops, ↓want_eq, ↓exec_lenX]; with_reducible rfl))))
    exact AW_ret ⟨_, rfl, by simp only [whyE, if_pos (Or.inr h2 : z < 1 ∨ z > 512)]; rfl, rfl⟩
  have hno : ¬ (z < 1 ∨ z > 512) := by omega
  have e : IntKind.i64.wrap (32 * z) = 32 * z := i64_of (by omega) (by omega)
  (repeat (first | with_reducible refine thenQ_n ?_ | with_reducible refine blockQ_n ?_ | refine AW_skip ?_ | refine AW_seq ?_ | refine AW_ops ?_ | refine AW_blockS ?_ | refine AW_blockR ?_ | refine AW_blockD ?_ | refine AW_blockC ?_ | refine AO_nil ?_ | refine AW_draw ?_ | refine AW_draw3 ?_ | refine AW_blockD3 ?_ | refine AHd_nil ?_ | ((first | with_reducible apply AO_pre | with_reducible apply AHd_pre); focus (simp only [Sm, wantedA, execA, stepA, List.getElem?_cons_zero, List.getElem?_cons_succ, if_true, if_false, binA, binInt, unA, eqA, Option.map, eq_self, reduceCtorEq, ite_true, ite_false, cellsAV, fitsAll, CK.fits, fillA, AV.cells, writeN, readN, sliceCells, appendA, lenA, i64, loA, hiA, Nat.reduceAdd, Nat.reduceMul, Nat.reduceDiv, Nat.reduceSub, Nat.reduceLeDiff, Nat.reduceLT, Int.reduceLE, Int.reduceLT, foldA, maxA, minA, Int.reduceBEq, Int.reduceBNe, Int.reduceGT, Int.reduceGE, Int.reduceEq, Int.reduceNe, Int.reduceToNat, AOp.stops, ↓want_eq, ↓exec_lenX, decide_eq_false h1, decide_eq_false h2]; with_reducible rfl))))
  refine AW_cond (t := false) rfl (fun h => by cases h) fun _ => ?_
  by_cases hn : (ls.length : Int) = 32 * z
  · have c : ((ls.length : Int) != 32 * z) = false := by rw [hn]; exact bne_self_eq_false _
    (repeat (first | with_reducible refine thenQ_n ?_ | with_reducible refine blockQ_n ?_ | refine AW_skip ?_ | refine AW_seq ?_ | refine AW_ops ?_ | refine AW_blockS ?_ | refine AW_blockR ?_ | refine AW_blockD ?_ | refine AW_blockC ?_ | refine AO_nil ?_ | refine AW_draw ?_ | refine AW_draw3 ?_ | refine AW_blockD3 ?_ | refine AHd_nil ?_ | ((first | with_reducible apply AO_pre | with_reducible apply AHd_pre); focus (simp only [Sm, wantedA, execA, stepA, List.getElem?_cons_zero, List.getElem?_cons_succ, if_true, if_false, binA, binInt, unA, eqA, Option.map, eq_self, reduceCtorEq, ite_true, ite_false, cellsAV, fitsAll, CK.fits, fillA, AV.cells, writeN, readN, sliceCells, appendA, lenA, i64, loA, hiA, Nat.reduceAdd, Nat.reduceMul, Nat.reduceDiv, Nat.reduceSub, Nat.reduceLeDiff, Nat.reduceLT, Int.reduceLE, Int.reduceLT, foldA, maxA, minA, Int.reduceBEq, Int.reduceBNe, Int.reduceGT, Int.reduceGE, Int.reduceEq, Int.reduceNe, Int.reduceToNat, AOp.stops, ↓want_eq, ↓exec_lenX, hy.len1 _ yl, e, c]; with_reducible rfl))))
    refine AW_cond (t := false) rfl (fun h => by cases h) fun _ => ?_
    (repeat (first | with_reducible refine thenQ_n ?_ | with_reducible refine blockQ_n ?_ | refine AW_skip ?_ | refine AW_seq ?_ | refine AW_ops ?_ | refine AW_blockS ?_ | refine AW_blockR ?_ | refine AW_blockD ?_ | refine AW_blockC ?_ | refine AO_nil ?_ | refine AW_draw ?_ | refine AW_draw3 ?_ | refine AW_blockD3 ?_ | refine AHd_nil ?_ | ((first | with_reducible apply AO_pre | with_reducible apply AHd_pre); focus (simp only [Sm, wantedA, execA, stepA, List.getElem?_cons_zero, List.getElem?_cons_succ, if_true, if_false, binA, binInt, unA, eqA, Option.map, eq_self, reduceCtorEq, ite_true, ite_false, cellsAV, fitsAll, CK.fits, fillA, AV.cells, writeN, readN, sliceCells, appendA, lenA, i64, loA, hiA, Nat.reduceAdd, Nat.reduceMul, Nat.reduceDiv, Nat.reduceSub, Nat.reduceLeDiff, Nat.reduceLT, Int.reduceLE, Int.reduceLT, foldA, maxA, minA, Int.reduceBEq, Int.reduceBNe, Int.reduceGT, Int.reduceGE, Int.reduceEq, Int.reduceNe, Int.reduceToNat, AOp.stops, ↓want_eq, ↓exec_lenX]; with_reducible rfl))))
    exact AW_ret ⟨_, rfl, by simp only [whyE, if_neg hno, ne_eq, hn, not_true_eq_false, if_false]; rfl, rfl⟩
  · have c : ((ls.length : Int) != 32 * z) = true := bne_iff_ne.mpr hn
    (repeat (first | with_reducible refine thenQ_n ?_ | with_reducible refine blockQ_n ?_ | refine AW_skip ?_ | refine AW_seq ?_ | refine AW_ops ?_ | refine AW_blockS ?_ | refine AW_blockR ?_ | refine AW_blockD ?_ | refine AW_blockC ?_ | refine AO_nil ?_ | refine AW_draw ?_ | refine AW_draw3 ?_ | refine AW_blockD3 ?_ | refine AHd_nil ?_ | ((first | with_reducible apply AO_pre | with_reducible apply AHd_pre); focus (simp only [Sm, wantedA, execA, stepA, List.getElem?_cons_zero, List.getElem?_cons_succ, if_true, if_false, binA, binInt, unA, eqA, Option.map, eq_self, reduceCtorEq, ite_true, ite_false, cellsAV, fitsAll, CK.fits, fillA, AV.cells, writeN, readN, sliceCells, appendA, lenA, i64, loA, hiA, Nat.reduceAdd, Nat.reduceMul, Nat.reduceDiv, Nat.reduceSub, Nat.reduceLeDiff, Nat.reduceLT, Int.reduceLE, Int.reduceLT, foldA, maxA, minA, Int.reduceBEq, Int.reduceBNe, Int.reduceGT, Int.reduceGE, Int.reduceEq, Int.reduceNe, Int.reduceToNat, AOp.stops, ↓want_eq, ↓exec_lenX, hy.len1 _ yl, e, c]; with_reducible rfl))))
    refine AW_cond (t := true) rfl (fun _ => ?_) (fun h => by cases h)
    (repeat (first | with_reducible refine thenQ_n ?_ | with_reducible refine blockQ_n ?_ | refine AW_skip ?_ | refine AW_seq ?_ | refine AW_ops ?_ | refine AW_blockS ?_ | refine AW_blockR ?_ | refine AW_blockD ?_ | refine AW_blockC ?_ | refine AO_nil ?_ | refine AW_draw ?_ | refine AW_draw3 ?_ | refine AW_blockD3 ?_ | refine AHd_nil ?_ | ((first | with_reducible apply AO_pre | with_reducible apply AHd_pre); focus (simp only [Sm, wantedA, execA, stepA, List.getElem?_cons_zero, List.getElem?_cons_succ, if_true, if_false, binA, binInt, unA, eqA, Option.map, eq_self, reduceCtorEq, ite_true, ite_false, cellsAV, fitsAll, CK.fits, fillA, AV.cells, writeN, readN, sliceCells, appendA, lenA, i64, loA, hiA, Nat.reduceAdd, Nat.reduceMul, Nat.reduceDiv, Nat.reduceSub, Nat.reduceLeDiff, Nat.reduceLT, Int.reduceLE, Int.reduceLT, foldA, maxA, minA, Int.reduceBEq, Int.reduceBNe, Int.reduceGT, Int.reduceGE, Int.reduceEq, Int.reduceNe, Int.reduceToNat, AOp.stops, ↓want_eq, ↓exec_lenX]; with_reducible rfl))))
    exact AW_ret ⟨_, rfl, by simp only [whyE, if_neg hno, ne_eq, hn, not_false_eq_true, if_true]; rfl, rfl⟩
end
end PK

/- Salsa's eight rounds; SalsaCores, walked. -/
namespace PK
open Go PAbs
set_option linter.unusedSimpArgs false
set_option linter.unusedVariables false
set_option maxRecDepth 100000
set_option maxHeartbeats 2000000

theorem fits_W32 : ∀ {n : Nat} {xs : List Nat}, xs.length = n → fitsAll (rep n (.int .u32)) (W32 xs) = true
  | 0, xs, h => by
    obtain rfl : xs = [] := List.length_eq_zero_iff.mp h
    rfl
  | n + 1, x :: xs, h => by
    have := fits_W32 (n := n) (xs := xs) (by simpa using h)
    simp only [rep, List.replicate_succ, W32, List.map_cons, fitsAll, CK.fits, decide_true, Bool.true_and] at this ⊢
    exact this
theorem Words.fits {x : List Nat} (h : Words x) : fitsAll (rep 16 (.int .u32)) (W32 x) = true := fits_W32 h.1
theorem Words.core {x : List Nat} (h : Words x) (n : Nat) : Words (core x n) := (h.dblN n).addS x 16

theorem AC_Eight (H : AHeap) (x : List Nat) (hx : Words x) : AC A H.length F_salsa_Eight [.agg (W32 x)] H (fun v H' => v = .agg (W32 (core x 4))) := by
  have hl := hx.len
  have hC := hx.core 4
  refine AC_enter t_salsa_Eight ?_; simp only [c_salsa_Eight, enterA, List.replicate, List.length_cons, List.length_nil, Nat.reduceAdd, Nat.reduceSub, List.cons_append, List.nil_append]
  refine AW_seq (AW_ops (AO_pre (by simp only [List.take_succ_cons, List.take_zero, List.drop_succ_cons, List.drop_zero, bne_self_eq_false, List.map_cons, List.map_nil, Bool.true_beq, Bool.false_beq, run_nil, run_cons, run_gate, cont_some, gate_true, gate_false, hrun_nil, hrun_cons, hrun_gate, hcont_some, hgate_true, hgate_false, put_some, put_none, ev_t, ev_k, wantedA, execA, stepA, List.set_cons_succ, List.set_cons_zero, List.getD_cons_succ, List.getD_cons_zero, List.getElem?_cons_zero, List.getElem?_cons_succ, if_true, if_false, binA, binInt, unA, eqA, Option.map, eq_self, true_or, or_true, true_and, and_true, and_self, beq_self_eq_true, Bool.not_true, Bool.not_false, reduceCtorEq, Bool.false_eq_true, ite_true, ite_false, cellsAV, fitsAll, CK.fits, decide_true, Bool.and_true, Bool.true_and, fillA, AV.cells, writeN, readN, sliceCells, appendA, lenA, i64, loA, hiA, hcells_last, hown_last, List.take_zero, List.drop_zero, List.nil_append, List.cons_append, List.append_nil, List.take_nil, List.drop_nil, List.length_cons, List.length_nil, List.length_append, Nat.zero_add, Nat.add_zero, Nat.reduceAdd, Nat.reduceMul, Nat.reduceDiv, Nat.reduceSub, Nat.mul_one, Nat.one_mul, Nat.div_one, Nat.le_refl, Nat.reduceLeDiff, Nat.reduceLT, Int.toNat_natCast, Int.toNat_zero, Nat.zero_le, Int.natCast_nonneg, Int.reduceLE, Int.reduceLT, Option.some.injEq, foldA, maxA, minA, Cell.int.injEq, AV.c.injEq, pre_nil, pre_cons, pre_gate, pre1_cons, pre1_gate, qstop_true, qstop_false, qstopg_false, qgate_true, qgate_false, pcont_some, pstop_true, pstop_false, pstopg_false, pgate_true, pgate_false, hpre_nil, hpre_cons, hpre_gate, hpre1_cons, hpre1_gate, hqstop_true, hqstop_false, hqstopg_false, hqgate_true, hqgate_false, hpcont_some, hpstop_true, hpstop_false, hpstopg_false, hpgate_true, hpgate_false, Int.reduceBEq, Int.reduceBNe, Int.reduceGT, Int.reduceGE, Int.reduceEq, Int.reduceNe, decide_false, nat_0, nat_1, nat_2, nat_3, nat_4, nat_8, nat_16, nat_64, nat_128, Int.reduceToNat, AOp.stops, pre1_nil, hpre1_nil, ↓want_eq, wantV_bool, wantV_undef, ↓exec_lenX, lenX_snil, lenX_slc]; with_reducible rfl) (AO_nil ?_)))
  have ho : hown (H ++ [Blk.own (W32 x)] ++ [Blk.own (rep 16 (.int .u32 0))]) H.length = some (W32 x) := hown_app hown_last
  have hz : hown (H ++ [Blk.own (W32 x)] ++ [Blk.own (rep 16 (.int .u32 0))]) (H ++ [Blk.own (W32 x)]).length = some (rep 16 (.int .u32 0)) := hown_last
  have hq1 : (H ++ [Blk.own (W32 x)]).length = H.length + 1 := by simp
  rw [hq1] at hz
  try simp only [List.length_append, List.length_cons, List.length_nil, Nat.zero_add]
  have hfl : (H ++ [Blk.own (W32 x)] ++ [Blk.own (rep 16 (.int .u32 0))]).length = H.length + 2 := by simp
  generalize H ++ [Blk.own (W32 x)] ++ [Blk.own (rep 16 (.int .u32 0))] = H1 at *
  generalize H.length = p at *
  have hr : readN H1 p 0 16 = some (W32 x) := by
    have := readN_all (hcells_own ho)
    rw [hl] at this; exact this
  (repeat (first | with_reducible refine thenQ_n ?_ | with_reducible refine blockQ_n ?_ | refine AW_skip ?_ | refine AW_seq ?_ | refine AW_ops ?_ | refine AW_blockS ?_ | refine AW_blockR ?_ | refine AW_blockD ?_ | refine AW_blockC ?_ | refine AO_nil ?_ | refine AW_draw ?_ | refine AW_draw3 ?_ | refine AW_blockD3 ?_ | refine AHd_nil ?_ | ((first | with_reducible apply AO_pre | with_reducible apply AHd_pre); focus (simp only [Sm, wantedA, execA, stepA, List.getElem?_cons_zero, List.getElem?_cons_succ, if_true, if_false, binA, binInt, unA, eqA, Option.map, eq_self, reduceCtorEq, ite_true, ite_false, cellsAV, fitsAll, CK.fits, fillA, AV.cells, writeN, readN, sliceCells, appendA, lenA, i64, loA, hiA, Nat.reduceAdd, Nat.reduceMul, Nat.reduceDiv, Nat.reduceSub, Nat.reduceLeDiff, Nat.reduceLT, Int.reduceLE, Int.reduceLT, foldA, maxA, minA, Int.reduceBEq, Int.reduceBNe, Int.reduceGT, Int.reduceGE, Int.reduceEq, Int.reduceNe, Int.reduceToNat, AOp.stops, ↓want_eq, ↓exec_lenX, ↓hr]; with_reducible rfl))))
  refine AO_call rfl ((AC_Core H1 x hx 4 (by omega)).kept (by omega)) ?_
  rintro v H2 ⟨h, k2⟩
  have c2 := Chg.of_kept k2
  have hl2 := c2.1
  rcases h with ⟨h, _⟩ | ⟨_, _, rfl⟩
  · omega
  have hz2 := c2.hown (fun h => h) hz
  rw [show (4 : Int).toNat = 4 from rfl]
  (repeat (first | with_reducible refine thenQ_n ?_ | with_reducible refine blockQ_n ?_ | refine AW_skip ?_ | refine AW_seq ?_ | refine AW_ops ?_ | refine AW_blockS ?_ | refine AW_blockR ?_ | refine AW_blockD ?_ | refine AW_blockC ?_ | refine AO_nil ?_ | refine AW_draw ?_ | refine AW_draw3 ?_ | refine AW_blockD3 ?_ | refine AHd_nil ?_ | ((first | with_reducible apply AO_pre | with_reducible apply AHd_pre); focus (simp only [Sm, wantedA, execA, stepA, List.getElem?_cons_zero, List.getElem?_cons_succ, if_true, if_false, binA, binInt, unA, eqA, Option.map, eq_self, reduceCtorEq, ite_true, ite_false, cellsAV, fitsAll, CK.fits, fillA, AV.cells, writeN, readN, sliceCells, appendA, lenA, i64, loA, hiA, Nat.reduceAdd, Nat.reduceMul, Nat.reduceDiv, Nat.reduceSub, Nat.reduceLeDiff, Nat.reduceLT, Int.reduceLE, Int.reduceLT, foldA, maxA, minA, Int.reduceBEq, Int.reduceBNe, Int.reduceGT, Int.reduceGE, Int.reduceEq, Int.reduceNe, Int.reduceToNat, AOp.stops, ↓want_eq, ↓exec_lenX, ↓exec_storeN, storeN_last (by omega : p ≤ H2.length), rep_len, hC.len]; with_reducible rfl))))
  have c3 : Chg none_ H2 (H2 ++ [Blk.own (W32 (core x 4))]) := Chg.push _ _ _
  have hz3 := c3.hown (fun h => h) hz2
  have hr3 : readN (H2 ++ [Blk.own (W32 (core x 4))]) H2.length 0 16 = some (W32 (core x 4)) := by
    have := readN_all (hcells_last (H := H2) (cs := W32 (core x 4)))
    rw [hC.len] at this; exact this
  generalize H2 ++ [Blk.own (W32 (core x 4))] = H3 at *
  (repeat (first | with_reducible refine thenQ_n ?_ | with_reducible refine blockQ_n ?_ | refine AW_skip ?_ | refine AW_seq ?_ | refine AW_ops ?_ | refine AW_blockS ?_ | refine AW_blockR ?_ | refine AW_blockD ?_ | refine AW_blockC ?_ | refine AO_nil ?_ | refine AW_draw ?_ | refine AW_draw3 ?_ | refine AW_blockD3 ?_ | refine AHd_nil ?_ | ((first | with_reducible apply AO_pre | with_reducible apply AHd_pre); focus (simp only [Sm, wantedA, execA, stepA, List.getElem?_cons_zero, List.getElem?_cons_succ, if_true, if_false, binA, binInt, unA, eqA, Option.map, eq_self, reduceCtorEq, ite_true, ite_false, cellsAV, fitsAll, CK.fits, fillA, AV.cells, writeN, readN, sliceCells, appendA, lenA, i64, loA, hiA, Nat.reduceAdd, Nat.reduceMul, Nat.reduceDiv, Nat.reduceSub, Nat.reduceLeDiff, Nat.reduceLT, Int.reduceLE, Int.reduceLT, foldA, maxA, minA, Int.reduceBEq, Int.reduceBNe, Int.reduceGT, Int.reduceGE, Int.reduceEq, Int.reduceNe, Int.reduceToNat, AOp.stops, ↓want_eq, ↓exec_lenX, ↓hr3, ↓exec_storeN, storeN_all hz3 (by omega : p ≤ p + 1) rep_len hC.len]; with_reducible rfl))))
  have hr6 : readN (H3.set (p + 1) (.own (W32 (core x 4)))) (p + 1) 0 16 = some (W32 (core x 4)) := by
    have := readN_all (hcells_set (cs := W32 (core x 4)) (hown_lt hz3))
    rw [hC.len] at this; exact this
  exact AW_ret ⟨_, by simp only [outA, resA, ressA, AV.tv, Option.map_some, List.take_succ_cons, List.take_zero, List.drop_succ_cons, List.drop_zero, bne_self_eq_false, List.map_cons, List.map_nil, Bool.true_beq, Bool.false_beq, run_nil, run_cons, run_gate, cont_some, gate_true, gate_false, hrun_nil, hrun_cons, hrun_gate, hcont_some, hgate_true, hgate_false, put_some, put_none, ev_t, ev_k, wantedA, execA, stepA, List.set_cons_succ, List.set_cons_zero, List.getD_cons_succ, List.getD_cons_zero, List.getElem?_cons_zero, List.getElem?_cons_succ, if_true, if_false, binA, binInt, unA, eqA, Option.map, eq_self, true_or, or_true, true_and, and_true, and_self, beq_self_eq_true, Bool.not_true, Bool.not_false, reduceCtorEq, Bool.false_eq_true, ite_true, ite_false, cellsAV, fitsAll, CK.fits, decide_true, Bool.and_true, Bool.true_and, fillA, AV.cells, writeN, readN, sliceCells, appendA, lenA, i64, loA, hiA, hcells_last, hown_last, List.take_zero, List.drop_zero, List.nil_append, List.cons_append, List.append_nil, List.take_nil, List.drop_nil, List.length_cons, List.length_nil, List.length_append, Nat.zero_add, Nat.add_zero, Nat.reduceAdd, Nat.reduceMul, Nat.reduceDiv, Nat.reduceSub, Nat.mul_one, Nat.one_mul, Nat.div_one, Nat.le_refl, Nat.reduceLeDiff, Nat.reduceLT, Int.toNat_natCast, Int.toNat_zero, Nat.zero_le, Int.natCast_nonneg, Int.reduceLE, Int.reduceLT, Option.some.injEq, foldA, maxA, minA, Cell.int.injEq, AV.c.injEq, pre_nil, pre_cons, pre_gate, pre1_cons, pre1_gate, qstop_true, qstop_false, qstopg_false, qgate_true, qgate_false, pcont_some, pstop_true, pstop_false, pstopg_false, pgate_true, pgate_false, hpre_nil, hpre_cons, hpre_gate, hpre1_cons, hpre1_gate, hqstop_true, hqstop_false, hqstopg_false, hqgate_true, hqgate_false, hpcont_some, hpstop_true, hpstop_false, hpstopg_false, hpgate_true, hpgate_false, Int.reduceBEq, Int.reduceBNe, Int.reduceGT, Int.reduceGE, Int.reduceEq, Int.reduceNe, decide_false, nat_0, nat_1, nat_2, nat_3, nat_4, nat_8, nat_16, nat_64, nat_128, Int.reduceToNat, AOp.stops, pre1_nil, hpre1_nil, ↓want_eq, wantV_bool, wantV_undef, ↓exec_lenX, lenX_snil, lenX_slc, ↓hr6] <;> with_reducible rfl, by rfl⟩

end PK

/- The document's bytes swapped: walked. -/
namespace PK
open Go PAbs
set_option linter.unusedSimpArgs false
set_option linter.unusedVariables false
set_option maxRecDepth 100000

end PK

/- Plain law: words taken byte by byte are the document's. -/
namespace PK
open Go PAbs
set_option linter.unusedSimpArgs false
set_option linter.unusedVariables false
set_option maxRecDepth 100000

end PK

/- Salsa of 64 bytes; SalsaBytes, walked. -/
namespace PK
open Go PAbs
set_option linter.unusedSimpArgs false
set_option linter.unusedVariables false
set_option maxRecDepth 100000
set_option maxHeartbeats 2000000

end PK
