/- Texts of this claim, put together: L03c KRoot KMath L03d. -/
import Derived.Test.YtdbpnkbboiplaaaG9
import Derived.Test.YtdbpnkbboiplaaaG8
/- Whether bits are those behind the point of a root, as the document tells it: walked. -/
namespace PK
open Go PAbs
set_option linter.unusedSimpArgs false
set_option linter.unusedVariables false
set_option maxRecDepth 100000
set_option maxHeartbeats 2000000

/-- a great number that may be read -/
def Num (H : AHeap) (x : Cell) (n len : Nat) : Prop := ∃ l, Rd H x 1 (N64 l) ∧ Dig l ∧ val l = n ∧ l.length ≤ len
theorem Num.kept {H H' : AHeap} {x : Cell} {n len : Nat} (h : Num H x n len) (k : Kept H.length H H') : Num H' x n len := by
  obtain ⟨l, h1, h2, h3, h4⟩ := h; exact ⟨l, h1.kept k, h2, h3, h4⟩
theorem Big.num {f : Nat} {H : AHeap} {x : Cell} {n len : Nat} (h : Big f H x n len) : Num H x n len := by
  obtain ⟨l, h1, h2, h3, h4⟩ := h; exact ⟨l, h1.rd, h2, h3, h4⟩

section
variable (H : AHeap)
theorem num_Of (n : Nat) (hn : n < 18446744073709551616) : AC A H.length F_pestleref03_Of [.c (.int .u64 (n : Int))] H (fun v H' => (∃ x, v = .c x ∧ Num H' x n 4) ∧ Kept H.length H H') :=
  ((AC_Of H n hn).kept (Nat.le_refl _)).mono fun v H' ⟨⟨x, e, h⟩, k⟩ => ⟨⟨x, e, h.num⟩, k⟩
theorem num_Up (y : Cell) (n len k : Nat) (hy : Num H y n len) (hk : k ≤ 100) (hl : len ≤ 1000) : AC A H.length F_pestleref03_Up [.c y, .c (.int .i64 (k : Int))] H (fun v H' => (∃ x, v = .c x ∧ Num H' x (65536 ^ k * n) (k + len)) ∧ Kept H.length H H') := by
  obtain ⟨l, h1, h2, rfl, h4⟩ := hy
  refine ((AC_Up H y l k h1 hk (by omega)).kept (Nat.le_refl _)).mono fun v H' ⟨⟨x, e, h⟩, kk⟩ => ⟨⟨x, e, _, h.rd, (Dig.zeros k).append h2, ?_, ?_⟩, kk⟩
  · rw [val_append, val_zeros, List.length_replicate]; omega
  · simp; omega
theorem num_Sum (ya yb : Cell) (n m la lb : Nat) (ha : Num H ya n la) (hb : Num H yb m lb) (hla : la ≤ 1000) (hlb : lb ≤ 1000) : AC A H.length F_pestleref03_Sum [.c ya, .c yb] H (fun v H' => (∃ x, v = .c x ∧ Num H' x (n + m) (max la lb + 1)) ∧ Kept H.length H H') := by
  obtain ⟨a, h1, h2, rfl, h4⟩ := ha
  obtain ⟨b, k1, k2, rfl, k4⟩ := hb
  refine ((AC_Sum H ya yb a b h1 k1 h2 k2 (by omega) (by omega)).kept (Nat.le_refl _)).mono fun v H' ⟨⟨x, e, h⟩, kk⟩ => ⟨⟨x, e, ?_⟩, kk⟩
  obtain ⟨l, q1, q2, q3, q4⟩ := h.num
  exact ⟨l, q1, q2, q3, by omega⟩
theorem num_power (y : Cell) (n len t : Nat) (hy : Num H y n len) (hl : len ≤ 100) (ht : t ≤ 8) : AC A H.length F_pestleref03_power [.c y, .c (.int .i64 (t : Int))] H (fun v H' => (∃ x, v = .c x ∧ Num H' x (n ^ t) 1000) ∧ Kept H.length H H') := by
  obtain ⟨l, h1, h2, rfl, h4⟩ := hy
  refine ((AC_power H y l t h1 h2 (by omega) ht).kept (Nat.le_refl _)).mono fun v H' ⟨⟨x, e, h⟩, kk⟩ => ⟨⟨x, e, ?_⟩, kk⟩
  obtain ⟨l', q1, q2, q3, q4⟩ := h.num
  refine ⟨l', q1, q2, q3, ?_⟩
  have : t * (l.length + 1) ≤ 8 * 101 := Nat.mul_le_mul ht (by omega)
  omega
theorem num_Above (ya yb : Cell) (n m la lb : Nat) (ha : Num H ya n la) (hb : Num H yb m lb) (hla : la ≤ 1000) (hlb : lb ≤ 1000) : AC A H.length F_pestleref03_Above [.c ya, .c yb] H (fun v H' => v = .c (.bool (decide (m < n))) ∧ H = H') := by
  obtain ⟨a, h1, h2, rfl, h4⟩ := ha
  obtain ⟨b, k1, k2, rfl, k4⟩ := hb
  exact AC_Above H ya yb a b h1 k1 h2 k2 (by omega) (by omega)

/-- the whole part of a root, and what stands behind the point -/
def IsP (n t d w bits : Nat) : Prop := (65536 ^ d * w + bits) ^ t ≤ 65536 ^ (d * t) * n ∧ 65536 ^ (d * t) * n < (65536 ^ d * w + bits + 1) ^ t
instance (n t d w bits : Nat) : Decidable (IsP n t d w bits) := by unfold IsP; exact inferInstance


def isI (g : Cell) (n t d bits : Nat) (H0 : AHeap) (i : Nat) (fr : AFrame) (H : AHeap) : Prop := Kept H0.length H0 H ∧ i ^ t ≤ n ∧ (∃ s : Nat → AV, fr = [.c (.int .i64 (n : Int)), .c (.int .i64 (t : Int)), .c (.int .i64 (d : Int)), .c (.int .u64 (bits : Int)), s 4, s 5, s 6, s 7, s 8, .c g, .c (.int .i64 (i : Int)), s 11, s 12, s 13, s 14, s 15, s 16, s 17, s 18, s 19, s 20, s 21, s 22, s 23, s 24, s 25, s 26, s 27, s 28, s 29, s 30, s 31, s 32, s 33, s 34, s 35, s 36, s 37, s 38, s 39, s 40, s 41, s 42, s 43, s 44, s 45, s 46, s 47, s 48, s 49, s 50, s 51, s 52, s 53, s 54])
theorem AC_Is (n t d bits : Nat) (hn : n ≤ 1048576) (ht1 : 1 ≤ t) (ht : t ≤ 3) (hd : d ≤ 4) (hb : bits < 18446744073709551616) :
    AC A H.length F_pestleref03_Is [.c (.int .i64 (n : Int)), .c (.int .i64 (t : Int)), .c (.int .i64 (d : Int)), .c (.int .u64 (bits : Int))] H (fun v H' => ∃ w, w ^ t ≤ n ∧ n < (w + 1) ^ t ∧ v = .c (.bool (decide (IsP n t d w bits)))) := by
  have en : IntKind.u64.wrap (n : Int) = (n : Int) := u64_nat (by omega)
  have hdt : d * t ≤ 4 * 3 := Nat.mul_le_mul hd ht
  have edt : IntKind.i64.wrap ((d : Int) * (t : Int)) = ((d * t : Nat) : Int) := by rw [← Int.natCast_mul]; exact i64_of (by omega) (by omega)
  refine AC_enter t_pestleref03_Is ?_; simp only [c_pestleref03_Is, enterA, List.replicate, List.length_cons, List.length_nil, Nat.reduceAdd, Nat.reduceSub, List.cons_append, List.nil_append]
  (repeat (first | with_reducible refine thenQ_n ?_ | with_reducible refine blockQ_n ?_ | with_reducible refine thenQ_e ?_ | with_reducible refine thenQ_r ?_ | with_reducible refine blockQ_r ?_ | with_reducible refine blockQ_s ?_ | with_reducible refine blockQ_o rfl ?_ | refine AW_skip ?_ | refine AW_seq ?_ | refine AW_ops ?_ | refine AW_blockS ?_ | refine AW_blockR ?_ | refine AW_blockD ?_ | refine AW_blockC ?_ | refine AO_nil ?_ | refine AW_draw ?_ | (refine AW_drawA ?_; simp only [atBlk, List.set_cons_succ, List.set_cons_zero, List.take_succ_cons, List.take_zero, List.drop_succ_cons, List.drop_zero]) | refine AHd_nil ?_ | with_reducible refine AP_at ?_ | with_reducible refine AHP_at ?_ | ((first | with_reducible apply AO_any | with_reducible apply AHd_any | with_reducible apply AP_go | with_reducible apply AHP_go); focus (simp only [List.take_succ_cons, List.take_zero, List.drop_succ_cons, List.drop_zero, bne_self_eq_false, List.map_cons, List.map_nil, Bool.true_beq, Bool.false_beq, run_nil, run_cons, run_gate, cont_some, gate_true, gate_false, hrun_nil, hrun_cons, hrun_gate, hcont_some, hgate_true, hgate_false, put_some, put_none, ev_t, ev_k, wantedA, execA, stepA, List.set_cons_succ, List.set_cons_zero, List.getD_cons_succ, List.getD_cons_zero, List.getElem?_cons_zero, List.getElem?_cons_succ, if_true, if_false, binA, binInt, unA, eqA, Option.map, eq_self, true_or, or_true, true_and, and_true, and_self, beq_self_eq_true, Bool.not_true, Bool.not_false, reduceCtorEq, Bool.false_eq_true, ite_true, ite_false, fitsAll, CK.fits, decide_true, Bool.and_true, Bool.true_and, fillA, AV.cells, writeN, sliceCells, appendA, lenA, i64, loA, hiA, hcells_last, hown_last, List.take_zero, List.drop_zero, List.nil_append, List.cons_append, List.append_nil, List.take_nil, List.drop_nil, List.length_cons, List.length_nil, List.length_append, Nat.zero_add, Nat.add_zero, Nat.reduceAdd, Nat.reduceMul, Nat.reduceDiv, Nat.reduceSub, Nat.mul_one, Nat.one_mul, Nat.div_one, Nat.le_refl, Nat.reduceLeDiff, Nat.reduceLT, Int.toNat_natCast, Int.toNat_zero, Nat.zero_le, Int.natCast_nonneg, Int.reduceLE, Int.reduceLT, Option.some.injEq, foldA, maxA, minA, Cell.int.injEq, AV.c.injEq, pre_nil, pre_cons, pre_gate, pre1_cons, pre1_gate, qstop_true, qstop_false, qstopg_false, qgate_true, qgate_false, pcont_some, pstop_true, pstop_false, pstopg_false, pgate_true, pgate_false, hpre_nil, hpre_cons, hpre_gate, hpre1_cons, hpre1_gate, hqstop_true, hqstop_false, hqstopg_false, hqgate_true, hqgate_false, hpcont_some, hpstop_true, hpstop_false, hpstopg_false, hpgate_true, hpgate_false, Int.reduceBEq, Int.reduceBNe, Int.reduceGT, Int.reduceGE, Int.reduceEq, Int.reduceNe, decide_false, nat_0, nat_1, nat_2, nat_3, nat_4, nat_8, nat_16, nat_64, nat_128, Int.reduceToNat, AOp.stops, pre1_nil, hpre1_nil, ↓want_eq, wantV_bool, wantV_undef, ↓exec_lenX, lenX_snil, lenX_slc, ↓exec_storeX, ↓exec_storeN, storeN_one, ↓exec_bsX, ↓exec_sliceX, ↓exec_copyX, ↓exec_appNil, ↓exec_carryX, Nat.sub_zero, Nat.reduceLT, rep_len, en]; with_reducible first | exact EqP.at_ | exact EqP.cont | exact EqP.hcont | exact EqP.gate | exact EqP.hgate)) | ((first | refine AW_ift ?_ ?_ | fail); focus (simp only [ev_t, put_some, put_none, List.set_cons_succ, List.set_cons_zero, List.getD_cons_succ, List.getD_cons_zero]; done)) | ((first | refine AW_iff ?_ ?_ | fail); focus (simp only [ev_t, put_some, put_none, List.set_cons_succ, List.set_cons_zero, List.getD_cons_succ, List.getD_cons_zero]; done))))
  refine AO_call rfl (num_Of H n (by omega)) ?_
  rintro _ H1 ⟨⟨x14, rfl, h14⟩, k1⟩
  have l1 := k1.1
  (repeat (first | with_reducible refine thenQ_n ?_ | with_reducible refine blockQ_n ?_ | with_reducible refine thenQ_e ?_ | with_reducible refine thenQ_r ?_ | with_reducible refine blockQ_r ?_ | with_reducible refine blockQ_s ?_ | with_reducible refine blockQ_o rfl ?_ | refine AW_skip ?_ | refine AW_seq ?_ | refine AW_ops ?_ | refine AW_blockS ?_ | refine AW_blockR ?_ | refine AW_blockD ?_ | refine AW_blockC ?_ | refine AO_nil ?_ | refine AW_draw ?_ | (refine AW_drawA ?_; simp only [atBlk, List.set_cons_succ, List.set_cons_zero, List.take_succ_cons, List.take_zero, List.drop_succ_cons, List.drop_zero]) | refine AHd_nil ?_ | with_reducible refine AP_at ?_ | with_reducible refine AHP_at ?_ | ((first | with_reducible apply AO_any | with_reducible apply AHd_any | with_reducible apply AP_go | with_reducible apply AHP_go); focus (simp only [List.take_succ_cons, List.take_zero, List.drop_succ_cons, List.drop_zero, bne_self_eq_false, List.map_cons, List.map_nil, Bool.true_beq, Bool.false_beq, run_nil, run_cons, run_gate, cont_some, gate_true, gate_false, hrun_nil, hrun_cons, hrun_gate, hcont_some, hgate_true, hgate_false, put_some, put_none, ev_t, ev_k, wantedA, execA, stepA, List.set_cons_succ, List.set_cons_zero, List.getD_cons_succ, List.getD_cons_zero, List.getElem?_cons_zero, List.getElem?_cons_succ, if_true, if_false, binA, binInt, unA, eqA, Option.map, eq_self, true_or, or_true, true_and, and_true, and_self, beq_self_eq_true, Bool.not_true, Bool.not_false, reduceCtorEq, Bool.false_eq_true, ite_true, ite_false, fitsAll, CK.fits, decide_true, Bool.and_true, Bool.true_and, fillA, AV.cells, writeN, sliceCells, appendA, lenA, i64, loA, hiA, hcells_last, hown_last, List.take_zero, List.drop_zero, List.nil_append, List.cons_append, List.append_nil, List.take_nil, List.drop_nil, List.length_cons, List.length_nil, List.length_append, Nat.zero_add, Nat.add_zero, Nat.reduceAdd, Nat.reduceMul, Nat.reduceDiv, Nat.reduceSub, Nat.mul_one, Nat.one_mul, Nat.div_one, Nat.le_refl, Nat.reduceLeDiff, Nat.reduceLT, Int.toNat_natCast, Int.toNat_zero, Nat.zero_le, Int.natCast_nonneg, Int.reduceLE, Int.reduceLT, Option.some.injEq, foldA, maxA, minA, Cell.int.injEq, AV.c.injEq, pre_nil, pre_cons, pre_gate, pre1_cons, pre1_gate, qstop_true, qstop_false, qstopg_false, qgate_true, qgate_false, pcont_some, pstop_true, pstop_false, pstopg_false, pgate_true, pgate_false, hpre_nil, hpre_cons, hpre_gate, hpre1_cons, hpre1_gate, hqstop_true, hqstop_false, hqstopg_false, hqgate_true, hqgate_false, hpcont_some, hpstop_true, hpstop_false, hpstopg_false, hpgate_true, hpgate_false, Int.reduceBEq, Int.reduceBNe, Int.reduceGT, Int.reduceGE, Int.reduceEq, Int.reduceNe, decide_false, nat_0, nat_1, nat_2, nat_3, nat_4, nat_8, nat_16, nat_64, nat_128, Int.reduceToNat, AOp.stops, pre1_nil, hpre1_nil, ↓want_eq, wantV_bool, wantV_undef, ↓exec_lenX, lenX_snil, lenX_slc, ↓exec_storeX, ↓exec_storeN, storeN_one, ↓exec_bsX, ↓exec_sliceX, ↓exec_copyX, ↓exec_appNil, ↓exec_carryX, Nat.sub_zero, Nat.reduceLT, rep_len, edt]; with_reducible first | exact EqP.at_ | exact EqP.cont | exact EqP.hcont | exact EqP.gate | exact EqP.hgate)) | ((first | refine AW_ift ?_ ?_ | fail); focus (simp only [ev_t, put_some, put_none, List.set_cons_succ, List.set_cons_zero, List.getD_cons_succ, List.getD_cons_zero]; done)) | ((first | refine AW_iff ?_ ?_ | fail); focus (simp only [ev_t, put_some, put_none, List.set_cons_succ, List.set_cons_zero, List.getD_cons_succ, List.getD_cons_zero]; done))))
  refine AO_call rfl ((num_Up H1 x14 n 4 (d * t) h14 (by omega) (by omega)).floor l1) ?_
  rintro _ H2 ⟨⟨g, rfl, hg⟩, k2⟩
  have k02 := k1.trans (k2.mono l1)
  have l2 := k2.1
  have hg : Num H2 g (65536 ^ (d * t) * n) 100 := by obtain ⟨l, q1, q2, q3, q4⟩ := hg; exact ⟨l, q1, q2, q3, by omega⟩
  clear k1 k2 h14
  (repeat (first | with_reducible refine thenQ_n ?_ | with_reducible refine blockQ_n ?_ | with_reducible refine thenQ_e ?_ | with_reducible refine thenQ_r ?_ | with_reducible refine blockQ_r ?_ | with_reducible refine blockQ_s ?_ | with_reducible refine blockQ_o rfl ?_ | refine AW_skip ?_ | refine AW_seq ?_ | refine AW_ops ?_ | refine AW_blockS ?_ | refine AW_blockR ?_ | refine AW_blockD ?_ | refine AW_blockC ?_ | refine AO_nil ?_ | refine AW_draw ?_ | (refine AW_drawA ?_; simp only [atBlk, List.set_cons_succ, List.set_cons_zero, List.take_succ_cons, List.take_zero, List.drop_succ_cons, List.drop_zero]) | refine AHd_nil ?_ | with_reducible refine AP_at ?_ | with_reducible refine AHP_at ?_ | ((first | with_reducible apply AO_any | with_reducible apply AHd_any | with_reducible apply AP_go | with_reducible apply AHP_go); focus (simp only [List.take_succ_cons, List.take_zero, List.drop_succ_cons, List.drop_zero, bne_self_eq_false, List.map_cons, List.map_nil, Bool.true_beq, Bool.false_beq, run_nil, run_cons, run_gate, cont_some, gate_true, gate_false, hrun_nil, hrun_cons, hrun_gate, hcont_some, hgate_true, hgate_false, put_some, put_none, ev_t, ev_k, wantedA, execA, stepA, List.set_cons_succ, List.set_cons_zero, List.getD_cons_succ, List.getD_cons_zero, List.getElem?_cons_zero, List.getElem?_cons_succ, if_true, if_false, binA, binInt, unA, eqA, Option.map, eq_self, true_or, or_true, true_and, and_true, and_self, beq_self_eq_true, Bool.not_true, Bool.not_false, reduceCtorEq, Bool.false_eq_true, ite_true, ite_false, fitsAll, CK.fits, decide_true, Bool.and_true, Bool.true_and, fillA, AV.cells, writeN, sliceCells, appendA, lenA, i64, loA, hiA, hcells_last, hown_last, List.take_zero, List.drop_zero, List.nil_append, List.cons_append, List.append_nil, List.take_nil, List.drop_nil, List.length_cons, List.length_nil, List.length_append, Nat.zero_add, Nat.add_zero, Nat.reduceAdd, Nat.reduceMul, Nat.reduceDiv, Nat.reduceSub, Nat.mul_one, Nat.one_mul, Nat.div_one, Nat.le_refl, Nat.reduceLeDiff, Nat.reduceLT, Int.toNat_natCast, Int.toNat_zero, Nat.zero_le, Int.natCast_nonneg, Int.reduceLE, Int.reduceLT, Option.some.injEq, foldA, maxA, minA, Cell.int.injEq, AV.c.injEq, pre_nil, pre_cons, pre_gate, pre1_cons, pre1_gate, qstop_true, qstop_false, qstopg_false, qgate_true, qgate_false, pcont_some, pstop_true, pstop_false, pstopg_false, pgate_true, pgate_false, hpre_nil, hpre_cons, hpre_gate, hpre1_cons, hpre1_gate, hqstop_true, hqstop_false, hqstopg_false, hqgate_true, hqgate_false, hpcont_some, hpstop_true, hpstop_false, hpstopg_false, hpgate_true, hpgate_false, Int.reduceBEq, Int.reduceBNe, Int.reduceGT, Int.reduceGE, Int.reduceEq, Int.reduceNe, decide_false, nat_0, nat_1, nat_2, nat_3, nat_4, nat_8, nat_16, nat_64, nat_128, Int.reduceToNat, AOp.stops, pre1_nil, hpre1_nil, ↓want_eq, wantV_bool, wantV_undef, ↓exec_lenX, lenX_snil, lenX_slc, ↓exec_storeX, ↓exec_storeN, storeN_one, ↓exec_bsX, ↓exec_sliceX, ↓exec_copyX, ↓exec_appNil, ↓exec_carryX, Nat.sub_zero, Nat.reduceLT, rep_len]; with_reducible first | exact EqP.at_ | exact EqP.cont | exact EqP.hcont | exact EqP.gate | exact EqP.hgate)) | ((first | refine AW_ift ?_ ?_ | fail); focus (simp only [ev_t, put_some, put_none, List.set_cons_succ, List.set_cons_zero, List.getD_cons_succ, List.getD_cons_zero]; done)) | ((first | refine AW_iff ?_ ?_ | fail); focus (simp only [ev_t, put_some, put_none, List.set_cons_succ, List.set_cons_zero, List.getD_cons_succ, List.getD_cons_zero]; done))))
  refine AW_mid (fun e fr H' => e = .normal ∧ ∃ i, i ≤ n ∧ n < (i + 1) ^ t ∧ isI g n t d bits H2 i fr H') ?_ ?_
  · refine AW_block (AW_up (isI g n t d bits H2) (n + 1) ⟨Kept.refl _ _, by rw [Nat.zero_pow (by omega)]; omega, stale _ _ rfl⟩ ?_)
    rintro i fr H3 hi ⟨k3, hw, st, rfl⟩
    have l3 := k3.1
    have e1 : IntKind.i64.wrap ((i : Int) + 1) = ((i + 1 : Nat) : Int) := i64_succ (by omega)
    have e2 : IntKind.u64.wrap ((i + 1 : Nat) : Int) = ((i + 1 : Nat) : Int) := u64_nat (by omega)
    (repeat (first | with_reducible refine thenQ_n ?_ | with_reducible refine blockQ_n ?_ | with_reducible refine thenQ_e ?_ | with_reducible refine thenQ_r ?_ | with_reducible refine blockQ_r ?_ | with_reducible refine blockQ_s ?_ | with_reducible refine blockQ_o rfl ?_ | refine AW_skip ?_ | refine AW_seq ?_ | refine AW_ops ?_ | refine AW_blockS ?_ | refine AW_blockR ?_ | refine AW_blockD ?_ | refine AW_blockC ?_ | refine AO_nil ?_ | refine AW_draw ?_ | (refine AW_drawA ?_; simp only [atBlk, List.set_cons_succ, List.set_cons_zero, List.take_succ_cons, List.take_zero, List.drop_succ_cons, List.drop_zero]) | refine AHd_nil ?_ | with_reducible refine AP_at ?_ | with_reducible refine AHP_at ?_ | ((first | with_reducible apply AO_any | with_reducible apply AHd_any | with_reducible apply AP_go | with_reducible apply AHP_go); focus (simp only [List.take_succ_cons, List.take_zero, List.drop_succ_cons, List.drop_zero, bne_self_eq_false, List.map_cons, List.map_nil, Bool.true_beq, Bool.false_beq, run_nil, run_cons, run_gate, cont_some, gate_true, gate_false, hrun_nil, hrun_cons, hrun_gate, hcont_some, hgate_true, hgate_false, put_some, put_none, ev_t, ev_k, wantedA, execA, stepA, List.set_cons_succ, List.set_cons_zero, List.getD_cons_succ, List.getD_cons_zero, List.getElem?_cons_zero, List.getElem?_cons_succ, if_true, if_false, binA, binInt, unA, eqA, Option.map, eq_self, true_or, or_true, true_and, and_true, and_self, beq_self_eq_true, Bool.not_true, Bool.not_false, reduceCtorEq, Bool.false_eq_true, ite_true, ite_false, fitsAll, CK.fits, decide_true, Bool.and_true, Bool.true_and, fillA, AV.cells, writeN, sliceCells, appendA, lenA, i64, loA, hiA, hcells_last, hown_last, List.take_zero, List.drop_zero, List.nil_append, List.cons_append, List.append_nil, List.take_nil, List.drop_nil, List.length_cons, List.length_nil, List.length_append, Nat.zero_add, Nat.add_zero, Nat.reduceAdd, Nat.reduceMul, Nat.reduceDiv, Nat.reduceSub, Nat.mul_one, Nat.one_mul, Nat.div_one, Nat.le_refl, Nat.reduceLeDiff, Nat.reduceLT, Int.toNat_natCast, Int.toNat_zero, Nat.zero_le, Int.natCast_nonneg, Int.reduceLE, Int.reduceLT, Option.some.injEq, foldA, maxA, minA, Cell.int.injEq, AV.c.injEq, pre_nil, pre_cons, pre_gate, pre1_cons, pre1_gate, qstop_true, qstop_false, qstopg_false, qgate_true, qgate_false, pcont_some, pstop_true, pstop_false, pstopg_false, pgate_true, pgate_false, hpre_nil, hpre_cons, hpre_gate, hpre1_cons, hpre1_gate, hqstop_true, hqstop_false, hqstopg_false, hqgate_true, hqgate_false, hpcont_some, hpstop_true, hpstop_false, hpstopg_false, hpgate_true, hpgate_false, Int.reduceBEq, Int.reduceBNe, Int.reduceGT, Int.reduceGE, Int.reduceEq, Int.reduceNe, decide_false, nat_0, nat_1, nat_2, nat_3, nat_4, nat_8, nat_16, nat_64, nat_128, Int.reduceToNat, AOp.stops, pre1_nil, hpre1_nil, ↓want_eq, wantV_bool, wantV_undef, ↓exec_lenX, lenX_snil, lenX_slc, ↓exec_storeX, ↓exec_storeN, storeN_one, ↓exec_bsX, ↓exec_sliceX, ↓exec_copyX, ↓exec_appNil, ↓exec_carryX, Nat.sub_zero, Nat.reduceLT, rep_len, e1, e2]; with_reducible first | exact EqP.at_ | exact EqP.cont | exact EqP.hcont | exact EqP.gate | exact EqP.hgate)) | ((first | refine AW_ift ?_ ?_ | fail); focus (simp only [ev_t, put_some, put_none, List.set_cons_succ, List.set_cons_zero, List.getD_cons_succ, List.getD_cons_zero]; done)) | ((first | refine AW_iff ?_ ?_ | fail); focus (simp only [ev_t, put_some, put_none, List.set_cons_succ, List.set_cons_zero, List.getD_cons_succ, List.getD_cons_zero]; done))))
    refine AO_call rfl ((num_Of H3 (i + 1) (by omega)).floor (by omega)) ?_
    rintro _ H4 ⟨⟨x22, rfl, h22⟩, k4⟩
    have l4 := k4.1
    (repeat (first | with_reducible refine thenQ_n ?_ | with_reducible refine blockQ_n ?_ | with_reducible refine thenQ_e ?_ | with_reducible refine thenQ_r ?_ | with_reducible refine blockQ_r ?_ | with_reducible refine blockQ_s ?_ | with_reducible refine blockQ_o rfl ?_ | refine AW_skip ?_ | refine AW_seq ?_ | refine AW_ops ?_ | refine AW_blockS ?_ | refine AW_blockR ?_ | refine AW_blockD ?_ | refine AW_blockC ?_ | refine AO_nil ?_ | refine AW_draw ?_ | (refine AW_drawA ?_; simp only [atBlk, List.set_cons_succ, List.set_cons_zero, List.take_succ_cons, List.take_zero, List.drop_succ_cons, List.drop_zero]) | refine AHd_nil ?_ | with_reducible refine AP_at ?_ | with_reducible refine AHP_at ?_ | ((first | with_reducible apply AO_any | with_reducible apply AHd_any | with_reducible apply AP_go | with_reducible apply AHP_go); focus (simp only [List.take_succ_cons, List.take_zero, List.drop_succ_cons, List.drop_zero, bne_self_eq_false, List.map_cons, List.map_nil, Bool.true_beq, Bool.false_beq, run_nil, run_cons, run_gate, cont_some, gate_true, gate_false, hrun_nil, hrun_cons, hrun_gate, hcont_some, hgate_true, hgate_false, put_some, put_none, ev_t, ev_k, wantedA, execA, stepA, List.set_cons_succ, List.set_cons_zero, List.getD_cons_succ, List.getD_cons_zero, List.getElem?_cons_zero, List.getElem?_cons_succ, if_true, if_false, binA, binInt, unA, eqA, Option.map, eq_self, true_or, or_true, true_and, and_true, and_self, beq_self_eq_true, Bool.not_true, Bool.not_false, reduceCtorEq, Bool.false_eq_true, ite_true, ite_false, fitsAll, CK.fits, decide_true, Bool.and_true, Bool.true_and, fillA, AV.cells, writeN, sliceCells, appendA, lenA, i64, loA, hiA, hcells_last, hown_last, List.take_zero, List.drop_zero, List.nil_append, List.cons_append, List.append_nil, List.take_nil, List.drop_nil, List.length_cons, List.length_nil, List.length_append, Nat.zero_add, Nat.add_zero, Nat.reduceAdd, Nat.reduceMul, Nat.reduceDiv, Nat.reduceSub, Nat.mul_one, Nat.one_mul, Nat.div_one, Nat.le_refl, Nat.reduceLeDiff, Nat.reduceLT, Int.toNat_natCast, Int.toNat_zero, Nat.zero_le, Int.natCast_nonneg, Int.reduceLE, Int.reduceLT, Option.some.injEq, foldA, maxA, minA, Cell.int.injEq, AV.c.injEq, pre_nil, pre_cons, pre_gate, pre1_cons, pre1_gate, qstop_true, qstop_false, qstopg_false, qgate_true, qgate_false, pcont_some, pstop_true, pstop_false, pstopg_false, pgate_true, pgate_false, hpre_nil, hpre_cons, hpre_gate, hpre1_cons, hpre1_gate, hqstop_true, hqstop_false, hqstopg_false, hqgate_true, hqgate_false, hpcont_some, hpstop_true, hpstop_false, hpstopg_false, hpgate_true, hpgate_false, Int.reduceBEq, Int.reduceBNe, Int.reduceGT, Int.reduceGE, Int.reduceEq, Int.reduceNe, decide_false, nat_0, nat_1, nat_2, nat_3, nat_4, nat_8, nat_16, nat_64, nat_128, Int.reduceToNat, AOp.stops, pre1_nil, hpre1_nil, ↓want_eq, wantV_bool, wantV_undef, ↓exec_lenX, lenX_snil, lenX_slc, ↓exec_storeX, ↓exec_storeN, storeN_one, ↓exec_bsX, ↓exec_sliceX, ↓exec_copyX, ↓exec_appNil, ↓exec_carryX, Nat.sub_zero, Nat.reduceLT, rep_len]; with_reducible first | exact EqP.at_ | exact EqP.cont | exact EqP.hcont | exact EqP.gate | exact EqP.hgate)) | ((first | refine AW_ift ?_ ?_ | fail); focus (simp only [ev_t, put_some, put_none, List.set_cons_succ, List.set_cons_zero, List.getD_cons_succ, List.getD_cons_zero]; done)) | ((first | refine AW_iff ?_ ?_ | fail); focus (simp only [ev_t, put_some, put_none, List.set_cons_succ, List.set_cons_zero, List.getD_cons_succ, List.getD_cons_zero]; done))))
    refine AO_call rfl ((num_power H4 x22 (i + 1) 4 t h22 (by omega) (by omega)).floor (by omega)) ?_
    rintro _ H5 ⟨⟨x24, rfl, h24⟩, k5⟩
    have l5 := k5.1
    (repeat (first | with_reducible refine thenQ_n ?_ | with_reducible refine blockQ_n ?_ | with_reducible refine thenQ_e ?_ | with_reducible refine thenQ_r ?_ | with_reducible refine blockQ_r ?_ | with_reducible refine blockQ_s ?_ | with_reducible refine blockQ_o rfl ?_ | refine AW_skip ?_ | refine AW_seq ?_ | refine AW_ops ?_ | refine AW_blockS ?_ | refine AW_blockR ?_ | refine AW_blockD ?_ | refine AW_blockC ?_ | refine AO_nil ?_ | refine AW_draw ?_ | (refine AW_drawA ?_; simp only [atBlk, List.set_cons_succ, List.set_cons_zero, List.take_succ_cons, List.take_zero, List.drop_succ_cons, List.drop_zero]) | refine AHd_nil ?_ | with_reducible refine AP_at ?_ | with_reducible refine AHP_at ?_ | ((first | with_reducible apply AO_any | with_reducible apply AHd_any | with_reducible apply AP_go | with_reducible apply AHP_go); focus (simp only [List.take_succ_cons, List.take_zero, List.drop_succ_cons, List.drop_zero, bne_self_eq_false, List.map_cons, List.map_nil, Bool.true_beq, Bool.false_beq, run_nil, run_cons, run_gate, cont_some, gate_true, gate_false, hrun_nil, hrun_cons, hrun_gate, hcont_some, hgate_true, hgate_false, put_some, put_none, ev_t, ev_k, wantedA, execA, stepA, List.set_cons_succ, List.set_cons_zero, List.getD_cons_succ, List.getD_cons_zero, List.getElem?_cons_zero, List.getElem?_cons_succ, if_true, if_false, binA, binInt, unA, eqA, Option.map, eq_self, true_or, or_true, true_and, and_true, and_self, beq_self_eq_true, Bool.not_true, Bool.not_false, reduceCtorEq, Bool.false_eq_true, ite_true, ite_false, fitsAll, CK.fits, decide_true, Bool.and_true, Bool.true_and, fillA, AV.cells, writeN, sliceCells, appendA, lenA, i64, loA, hiA, hcells_last, hown_last, List.take_zero, List.drop_zero, List.nil_append, List.cons_append, List.append_nil, List.take_nil, List.drop_nil, List.length_cons, List.length_nil, List.length_append, Nat.zero_add, Nat.add_zero, Nat.reduceAdd, Nat.reduceMul, Nat.reduceDiv, Nat.reduceSub, Nat.mul_one, Nat.one_mul, Nat.div_one, Nat.le_refl, Nat.reduceLeDiff, Nat.reduceLT, Int.toNat_natCast, Int.toNat_zero, Nat.zero_le, Int.natCast_nonneg, Int.reduceLE, Int.reduceLT, Option.some.injEq, foldA, maxA, minA, Cell.int.injEq, AV.c.injEq, pre_nil, pre_cons, pre_gate, pre1_cons, pre1_gate, qstop_true, qstop_false, qstopg_false, qgate_true, qgate_false, pcont_some, pstop_true, pstop_false, pstopg_false, pgate_true, pgate_false, hpre_nil, hpre_cons, hpre_gate, hpre1_cons, hpre1_gate, hqstop_true, hqstop_false, hqstopg_false, hqgate_true, hqgate_false, hpcont_some, hpstop_true, hpstop_false, hpstopg_false, hpgate_true, hpgate_false, Int.reduceBEq, Int.reduceBNe, Int.reduceGT, Int.reduceGE, Int.reduceEq, Int.reduceNe, decide_false, nat_0, nat_1, nat_2, nat_3, nat_4, nat_8, nat_16, nat_64, nat_128, Int.reduceToNat, AOp.stops, pre1_nil, hpre1_nil, ↓want_eq, wantV_bool, wantV_undef, ↓exec_lenX, lenX_snil, lenX_slc, ↓exec_storeX, ↓exec_storeN, storeN_one, ↓exec_bsX, ↓exec_sliceX, ↓exec_copyX, ↓exec_appNil, ↓exec_carryX, Nat.sub_zero, Nat.reduceLT, rep_len, en]; with_reducible first | exact EqP.at_ | exact EqP.cont | exact EqP.hcont | exact EqP.gate | exact EqP.hgate)) | ((first | refine AW_ift ?_ ?_ | fail); focus (simp only [ev_t, put_some, put_none, List.set_cons_succ, List.set_cons_zero, List.getD_cons_succ, List.getD_cons_zero]; done)) | ((first | refine AW_iff ?_ ?_ | fail); focus (simp only [ev_t, put_some, put_none, List.set_cons_succ, List.set_cons_zero, List.getD_cons_succ, List.getD_cons_zero]; done))))
    refine AO_call rfl ((num_Of H5 n (by omega)).floor (by omega)) ?_
    rintro _ H6 ⟨⟨x27, rfl, h27⟩, k6⟩
    have l6 := k6.1
    have k36 : Kept H2.length H2 H6 := ((k3.trans (k4.mono l3)).trans (k5.mono (by omega))).trans (k6.mono (by omega))
    (repeat (first | with_reducible refine thenQ_n ?_ | with_reducible refine blockQ_n ?_ | with_reducible refine thenQ_e ?_ | with_reducible refine thenQ_r ?_ | with_reducible refine blockQ_r ?_ | with_reducible refine blockQ_s ?_ | with_reducible refine blockQ_o rfl ?_ | refine AW_skip ?_ | refine AW_seq ?_ | refine AW_ops ?_ | refine AW_blockS ?_ | refine AW_blockR ?_ | refine AW_blockD ?_ | refine AW_blockC ?_ | refine AO_nil ?_ | refine AW_draw ?_ | (refine AW_drawA ?_; simp only [atBlk, List.set_cons_succ, List.set_cons_zero, List.take_succ_cons, List.take_zero, List.drop_succ_cons, List.drop_zero]) | refine AHd_nil ?_ | with_reducible refine AP_at ?_ | with_reducible refine AHP_at ?_ | ((first | with_reducible apply AO_any | with_reducible apply AHd_any | with_reducible apply AP_go | with_reducible apply AHP_go); focus (simp only [List.take_succ_cons, List.take_zero, List.drop_succ_cons, List.drop_zero, bne_self_eq_false, List.map_cons, List.map_nil, Bool.true_beq, Bool.false_beq, run_nil, run_cons, run_gate, cont_some, gate_true, gate_false, hrun_nil, hrun_cons, hrun_gate, hcont_some, hgate_true, hgate_false, put_some, put_none, ev_t, ev_k, wantedA, execA, stepA, List.set_cons_succ, List.set_cons_zero, List.getD_cons_succ, List.getD_cons_zero, List.getElem?_cons_zero, List.getElem?_cons_succ, if_true, if_false, binA, binInt, unA, eqA, Option.map, eq_self, true_or, or_true, true_and, and_true, and_self, beq_self_eq_true, Bool.not_true, Bool.not_false, reduceCtorEq, Bool.false_eq_true, ite_true, ite_false, fitsAll, CK.fits, decide_true, Bool.and_true, Bool.true_and, fillA, AV.cells, writeN, sliceCells, appendA, lenA, i64, loA, hiA, hcells_last, hown_last, List.take_zero, List.drop_zero, List.nil_append, List.cons_append, List.append_nil, List.take_nil, List.drop_nil, List.length_cons, List.length_nil, List.length_append, Nat.zero_add, Nat.add_zero, Nat.reduceAdd, Nat.reduceMul, Nat.reduceDiv, Nat.reduceSub, Nat.mul_one, Nat.one_mul, Nat.div_one, Nat.le_refl, Nat.reduceLeDiff, Nat.reduceLT, Int.toNat_natCast, Int.toNat_zero, Nat.zero_le, Int.natCast_nonneg, Int.reduceLE, Int.reduceLT, Option.some.injEq, foldA, maxA, minA, Cell.int.injEq, AV.c.injEq, pre_nil, pre_cons, pre_gate, pre1_cons, pre1_gate, qstop_true, qstop_false, qstopg_false, qgate_true, qgate_false, pcont_some, pstop_true, pstop_false, pstopg_false, pgate_true, pgate_false, hpre_nil, hpre_cons, hpre_gate, hpre1_cons, hpre1_gate, hqstop_true, hqstop_false, hqstopg_false, hqgate_true, hqgate_false, hpcont_some, hpstop_true, hpstop_false, hpstopg_false, hpgate_true, hpgate_false, Int.reduceBEq, Int.reduceBNe, Int.reduceGT, Int.reduceGE, Int.reduceEq, Int.reduceNe, decide_false, nat_0, nat_1, nat_2, nat_3, nat_4, nat_8, nat_16, nat_64, nat_128, Int.reduceToNat, AOp.stops, pre1_nil, hpre1_nil, ↓want_eq, wantV_bool, wantV_undef, ↓exec_lenX, lenX_snil, lenX_slc, ↓exec_storeX, ↓exec_storeN, storeN_one, ↓exec_bsX, ↓exec_sliceX, ↓exec_copyX, ↓exec_appNil, ↓exec_carryX, Nat.sub_zero, Nat.reduceLT, rep_len]; with_reducible first | exact EqP.at_ | exact EqP.cont | exact EqP.hcont | exact EqP.gate | exact EqP.hgate)) | ((first | refine AW_ift ?_ ?_ | fail); focus (simp only [ev_t, put_some, put_none, List.set_cons_succ, List.set_cons_zero, List.getD_cons_succ, List.getD_cons_zero]; done)) | ((first | refine AW_iff ?_ ?_ | fail); focus (simp only [ev_t, put_some, put_none, List.set_cons_succ, List.set_cons_zero, List.getD_cons_succ, List.getD_cons_zero]; done))))
    refine AO_call rfl ((num_Above H6 x24 x27 _ _ 1000 4 (h24.kept k6) h27 (by omega) (by omega)).floor (by omega)) ?_
    rintro _ _ ⟨rfl, rfl⟩
    by_cases hc : n < (i + 1) ^ t
    · (repeat (first | with_reducible refine thenQ_n ?_ | with_reducible refine blockQ_n ?_ | with_reducible refine thenQ_e ?_ | with_reducible refine thenQ_r ?_ | with_reducible refine blockQ_r ?_ | with_reducible refine blockQ_s ?_ | with_reducible refine blockQ_o rfl ?_ | refine AW_skip ?_ | refine AW_seq ?_ | refine AW_ops ?_ | refine AW_blockS ?_ | refine AW_blockR ?_ | refine AW_blockD ?_ | refine AW_blockC ?_ | refine AO_nil ?_ | refine AW_draw ?_ | (refine AW_drawA ?_; simp only [atBlk, List.set_cons_succ, List.set_cons_zero, List.take_succ_cons, List.take_zero, List.drop_succ_cons, List.drop_zero]) | refine AHd_nil ?_ | with_reducible refine AP_at ?_ | with_reducible refine AHP_at ?_ | ((first | with_reducible apply AO_any | with_reducible apply AHd_any | with_reducible apply AP_go | with_reducible apply AHP_go); focus (simp only [List.take_succ_cons, List.take_zero, List.drop_succ_cons, List.drop_zero, bne_self_eq_false, List.map_cons, List.map_nil, Bool.true_beq, Bool.false_beq, run_nil, run_cons, run_gate, cont_some, gate_true, gate_false, hrun_nil, hrun_cons, hrun_gate, hcont_some, hgate_true, hgate_false, put_some, put_none, ev_t, ev_k, wantedA, execA, stepA, List.set_cons_succ, List.set_cons_zero, List.getD_cons_succ, List.getD_cons_zero, List.getElem?_cons_zero, List.getElem?_cons_succ, if_true, if_false, binA, binInt, unA, eqA, Option.map, eq_self, true_or, or_true, true_and, and_true, and_self, beq_self_eq_true, Bool.not_true, Bool.not_false, reduceCtorEq, Bool.false_eq_true, ite_true, ite_false, fitsAll, CK.fits, decide_true, Bool.and_true, Bool.true_and, fillA, AV.cells, writeN, sliceCells, appendA, lenA, i64, loA, hiA, hcells_last, hown_last, List.take_zero, List.drop_zero, List.nil_append, List.cons_append, List.append_nil, List.take_nil, List.drop_nil, List.length_cons, List.length_nil, List.length_append, Nat.zero_add, Nat.add_zero, Nat.reduceAdd, Nat.reduceMul, Nat.reduceDiv, Nat.reduceSub, Nat.mul_one, Nat.one_mul, Nat.div_one, Nat.le_refl, Nat.reduceLeDiff, Nat.reduceLT, Int.toNat_natCast, Int.toNat_zero, Nat.zero_le, Int.natCast_nonneg, Int.reduceLE, Int.reduceLT, Option.some.injEq, foldA, maxA, minA, Cell.int.injEq, AV.c.injEq, pre_nil, pre_cons, pre_gate, pre1_cons, pre1_gate, qstop_true, qstop_false, qstopg_false, qgate_true, qgate_false, pcont_some, pstop_true, pstop_false, pstopg_false, pgate_true, pgate_false, hpre_nil, hpre_cons, hpre_gate, hpre1_cons, hpre1_gate, hqstop_true, hqstop_false, hqstopg_false, hqgate_true, hqgate_false, hpcont_some, hpstop_true, hpstop_false, hpstopg_false, hpgate_true, hpgate_false, Int.reduceBEq, Int.reduceBNe, Int.reduceGT, Int.reduceGE, Int.reduceEq, Int.reduceNe, decide_false, nat_0, nat_1, nat_2, nat_3, nat_4, nat_8, nat_16, nat_64, nat_128, Int.reduceToNat, AOp.stops, pre1_nil, hpre1_nil, ↓want_eq, wantV_bool, wantV_undef, ↓exec_lenX, lenX_snil, lenX_slc, ↓exec_storeX, ↓exec_storeN, storeN_one, ↓exec_bsX, ↓exec_sliceX, ↓exec_copyX, ↓exec_appNil, ↓exec_carryX, Nat.sub_zero, Nat.reduceLT, rep_len, decide_eq_true hc]; with_reducible first | exact EqP.at_ | exact EqP.cont | exact EqP.hcont | exact EqP.gate | exact EqP.hgate)) | ((first | refine AW_ift ?_ ?_ | fail); focus (simp only [ev_t, put_some, put_none, List.set_cons_succ, List.set_cons_zero, List.getD_cons_succ, List.getD_cons_zero]; done)) | ((first | refine AW_iff ?_ ?_ | fail); focus (simp only [ev_t, put_some, put_none, List.set_cons_succ, List.set_cons_zero, List.getD_cons_succ, List.getD_cons_zero]; done))))
      have hin : i ≤ n := by
        rcases Nat.eq_zero_or_pos i with h | h
        · omega
        · exact Nat.le_trans (by have := Nat.pow_le_pow_right h ht1; rwa [Nat.pow_one] at this) hw
      exact AW_exit ⟨rfl, i, hin, hc, k36, hw, stale _ _ rfl⟩
    · (repeat (first | with_reducible refine thenQ_n ?_ | with_reducible refine blockQ_n ?_ | with_reducible refine thenQ_e ?_ | with_reducible refine thenQ_r ?_ | with_reducible refine blockQ_r ?_ | with_reducible refine blockQ_s ?_ | with_reducible refine blockQ_o rfl ?_ | refine AW_skip ?_ | refine AW_seq ?_ | refine AW_ops ?_ | refine AW_blockS ?_ | refine AW_blockR ?_ | refine AW_blockD ?_ | refine AW_blockC ?_ | refine AO_nil ?_ | refine AW_draw ?_ | (refine AW_drawA ?_; simp only [atBlk, List.set_cons_succ, List.set_cons_zero, List.take_succ_cons, List.take_zero, List.drop_succ_cons, List.drop_zero]) | refine AHd_nil ?_ | with_reducible refine AP_at ?_ | with_reducible refine AHP_at ?_ | ((first | with_reducible apply AO_any | with_reducible apply AHd_any | with_reducible apply AP_go | with_reducible apply AHP_go); focus (simp only [List.take_succ_cons, List.take_zero, List.drop_succ_cons, List.drop_zero, bne_self_eq_false, List.map_cons, List.map_nil, Bool.true_beq, Bool.false_beq, run_nil, run_cons, run_gate, cont_some, gate_true, gate_false, hrun_nil, hrun_cons, hrun_gate, hcont_some, hgate_true, hgate_false, put_some, put_none, ev_t, ev_k, wantedA, execA, stepA, List.set_cons_succ, List.set_cons_zero, List.getD_cons_succ, List.getD_cons_zero, List.getElem?_cons_zero, List.getElem?_cons_succ, if_true, if_false, binA, binInt, unA, eqA, Option.map, eq_self, true_or, or_true, true_and, and_true, and_self, beq_self_eq_true, Bool.not_true, Bool.not_false, reduceCtorEq, Bool.false_eq_true, ite_true, ite_false, fitsAll, CK.fits, decide_true, Bool.and_true, Bool.true_and, fillA, AV.cells, writeN, sliceCells, appendA, lenA, i64, loA, hiA, hcells_last, hown_last, List.take_zero, List.drop_zero, List.nil_append, List.cons_append, List.append_nil, List.take_nil, List.drop_nil, List.length_cons, List.length_nil, List.length_append, Nat.zero_add, Nat.add_zero, Nat.reduceAdd, Nat.reduceMul, Nat.reduceDiv, Nat.reduceSub, Nat.mul_one, Nat.one_mul, Nat.div_one, Nat.le_refl, Nat.reduceLeDiff, Nat.reduceLT, Int.toNat_natCast, Int.toNat_zero, Nat.zero_le, Int.natCast_nonneg, Int.reduceLE, Int.reduceLT, Option.some.injEq, foldA, maxA, minA, Cell.int.injEq, AV.c.injEq, pre_nil, pre_cons, pre_gate, pre1_cons, pre1_gate, qstop_true, qstop_false, qstopg_false, qgate_true, qgate_false, pcont_some, pstop_true, pstop_false, pstopg_false, pgate_true, pgate_false, hpre_nil, hpre_cons, hpre_gate, hpre1_cons, hpre1_gate, hqstop_true, hqstop_false, hqstopg_false, hqgate_true, hqgate_false, hpcont_some, hpstop_true, hpstop_false, hpstopg_false, hpgate_true, hpgate_false, Int.reduceBEq, Int.reduceBNe, Int.reduceGT, Int.reduceGE, Int.reduceEq, Int.reduceNe, decide_false, nat_0, nat_1, nat_2, nat_3, nat_4, nat_8, nat_16, nat_64, nat_128, Int.reduceToNat, AOp.stops, pre1_nil, hpre1_nil, ↓want_eq, wantV_bool, wantV_undef, ↓exec_lenX, lenX_snil, lenX_slc, ↓exec_storeX, ↓exec_storeN, storeN_one, ↓exec_bsX, ↓exec_sliceX, ↓exec_copyX, ↓exec_appNil, ↓exec_carryX, Nat.sub_zero, Nat.reduceLT, rep_len, decide_eq_false hc, e1]; with_reducible first | exact EqP.at_ | exact EqP.cont | exact EqP.hcont | exact EqP.gate | exact EqP.hgate)) | ((first | refine AW_ift ?_ ?_ | fail); focus (simp only [ev_t, put_some, put_none, List.set_cons_succ, List.set_cons_zero, List.getD_cons_succ, List.getD_cons_zero]; done)) | ((first | refine AW_iff ?_ ?_ | fail); focus (simp only [ev_t, put_some, put_none, List.set_cons_succ, List.set_cons_zero, List.getD_cons_succ, List.getD_cons_zero]; done))))
      have hin : i + 1 ≤ n := by
        have h1 : i + 1 ≤ (i + 1) ^ t := by have := Nat.pow_le_pow_right (n := i + 1) (by omega) ht1; rwa [Nat.pow_one] at this
        omega
      exact ⟨by omega, k36, by omega, stale _ _ rfl⟩
  rintro e fr H3 ⟨rfl, w, hwn, hw2, k3, hw, st, rfl⟩
  have l3 := k3.1
  have k03 := k02.trans (k3.mono (by omega))
  have hg3 := hg.kept k3
  have e2 : IntKind.u64.wrap (w : Int) = (w : Int) := u64_nat (by omega)
  (repeat (first | with_reducible refine thenQ_n ?_ | with_reducible refine blockQ_n ?_ | with_reducible refine thenQ_e ?_ | with_reducible refine thenQ_r ?_ | with_reducible refine blockQ_r ?_ | with_reducible refine blockQ_s ?_ | with_reducible refine blockQ_o rfl ?_ | refine AW_skip ?_ | refine AW_seq ?_ | refine AW_ops ?_ | refine AW_blockS ?_ | refine AW_blockR ?_ | refine AW_blockD ?_ | refine AW_blockC ?_ | refine AO_nil ?_ | refine AW_draw ?_ | (refine AW_drawA ?_; simp only [atBlk, List.set_cons_succ, List.set_cons_zero, List.take_succ_cons, List.take_zero, List.drop_succ_cons, List.drop_zero]) | refine AHd_nil ?_ | with_reducible refine AP_at ?_ | with_reducible refine AHP_at ?_ | ((first | with_reducible apply AO_any | with_reducible apply AHd_any | with_reducible apply AP_go | with_reducible apply AHP_go); focus (simp only [List.take_succ_cons, List.take_zero, List.drop_succ_cons, List.drop_zero, bne_self_eq_false, List.map_cons, List.map_nil, Bool.true_beq, Bool.false_beq, run_nil, run_cons, run_gate, cont_some, gate_true, gate_false, hrun_nil, hrun_cons, hrun_gate, hcont_some, hgate_true, hgate_false, put_some, put_none, ev_t, ev_k, wantedA, execA, stepA, List.set_cons_succ, List.set_cons_zero, List.getD_cons_succ, List.getD_cons_zero, List.getElem?_cons_zero, List.getElem?_cons_succ, if_true, if_false, binA, binInt, unA, eqA, Option.map, eq_self, true_or, or_true, true_and, and_true, and_self, beq_self_eq_true, Bool.not_true, Bool.not_false, reduceCtorEq, Bool.false_eq_true, ite_true, ite_false, fitsAll, CK.fits, decide_true, Bool.and_true, Bool.true_and, fillA, AV.cells, writeN, sliceCells, appendA, lenA, i64, loA, hiA, hcells_last, hown_last, List.take_zero, List.drop_zero, List.nil_append, List.cons_append, List.append_nil, List.take_nil, List.drop_nil, List.length_cons, List.length_nil, List.length_append, Nat.zero_add, Nat.add_zero, Nat.reduceAdd, Nat.reduceMul, Nat.reduceDiv, Nat.reduceSub, Nat.mul_one, Nat.one_mul, Nat.div_one, Nat.le_refl, Nat.reduceLeDiff, Nat.reduceLT, Int.toNat_natCast, Int.toNat_zero, Nat.zero_le, Int.natCast_nonneg, Int.reduceLE, Int.reduceLT, Option.some.injEq, foldA, maxA, minA, Cell.int.injEq, AV.c.injEq, pre_nil, pre_cons, pre_gate, pre1_cons, pre1_gate, qstop_true, qstop_false, qstopg_false, qgate_true, qgate_false, pcont_some, pstop_true, pstop_false, pstopg_false, pgate_true, pgate_false, hpre_nil, hpre_cons, hpre_gate, hpre1_cons, hpre1_gate, hqstop_true, hqstop_false, hqstopg_false, hqgate_true, hqgate_false, hpcont_some, hpstop_true, hpstop_false, hpstopg_false, hpgate_true, hpgate_false, Int.reduceBEq, Int.reduceBNe, Int.reduceGT, Int.reduceGE, Int.reduceEq, Int.reduceNe, decide_false, nat_0, nat_1, nat_2, nat_3, nat_4, nat_8, nat_16, nat_64, nat_128, Int.reduceToNat, AOp.stops, pre1_nil, hpre1_nil, ↓want_eq, wantV_bool, wantV_undef, ↓exec_lenX, lenX_snil, lenX_slc, ↓exec_storeX, ↓exec_storeN, storeN_one, ↓exec_bsX, ↓exec_sliceX, ↓exec_copyX, ↓exec_appNil, ↓exec_carryX, Nat.sub_zero, Nat.reduceLT, rep_len, e2]; with_reducible first | exact EqP.at_ | exact EqP.cont | exact EqP.hcont | exact EqP.gate | exact EqP.hgate)) | ((first | refine AW_ift ?_ ?_ | fail); focus (simp only [ev_t, put_some, put_none, List.set_cons_succ, List.set_cons_zero, List.getD_cons_succ, List.getD_cons_zero]; done)) | ((first | refine AW_iff ?_ ?_ | fail); focus (simp only [ev_t, put_some, put_none, List.set_cons_succ, List.set_cons_zero, List.getD_cons_succ, List.getD_cons_zero]; done))))
  refine AO_call rfl ((num_Of H3 w (by omega)).floor (by omega)) ?_
  rintro _ H4 ⟨⟨x34, rfl, h34⟩, k4⟩
  have l4 := k4.1
  (repeat (first | with_reducible refine thenQ_n ?_ | with_reducible refine blockQ_n ?_ | with_reducible refine thenQ_e ?_ | with_reducible refine thenQ_r ?_ | with_reducible refine blockQ_r ?_ | with_reducible refine blockQ_s ?_ | with_reducible refine blockQ_o rfl ?_ | refine AW_skip ?_ | refine AW_seq ?_ | refine AW_ops ?_ | refine AW_blockS ?_ | refine AW_blockR ?_ | refine AW_blockD ?_ | refine AW_blockC ?_ | refine AO_nil ?_ | refine AW_draw ?_ | (refine AW_drawA ?_; simp only [atBlk, List.set_cons_succ, List.set_cons_zero, List.take_succ_cons, List.take_zero, List.drop_succ_cons, List.drop_zero]) | refine AHd_nil ?_ | with_reducible refine AP_at ?_ | with_reducible refine AHP_at ?_ | ((first | with_reducible apply AO_any | with_reducible apply AHd_any | with_reducible apply AP_go | with_reducible apply AHP_go); focus (simp only [List.take_succ_cons, List.take_zero, List.drop_succ_cons, List.drop_zero, bne_self_eq_false, List.map_cons, List.map_nil, Bool.true_beq, Bool.false_beq, run_nil, run_cons, run_gate, cont_some, gate_true, gate_false, hrun_nil, hrun_cons, hrun_gate, hcont_some, hgate_true, hgate_false, put_some, put_none, ev_t, ev_k, wantedA, execA, stepA, List.set_cons_succ, List.set_cons_zero, List.getD_cons_succ, List.getD_cons_zero, List.getElem?_cons_zero, List.getElem?_cons_succ, if_true, if_false, binA, binInt, unA, eqA, Option.map, eq_self, true_or, or_true, true_and, and_true, and_self, beq_self_eq_true, Bool.not_true, Bool.not_false, reduceCtorEq, Bool.false_eq_true, ite_true, ite_false, fitsAll, CK.fits, decide_true, Bool.and_true, Bool.true_and, fillA, AV.cells, writeN, sliceCells, appendA, lenA, i64, loA, hiA, hcells_last, hown_last, List.take_zero, List.drop_zero, List.nil_append, List.cons_append, List.append_nil, List.take_nil, List.drop_nil, List.length_cons, List.length_nil, List.length_append, Nat.zero_add, Nat.add_zero, Nat.reduceAdd, Nat.reduceMul, Nat.reduceDiv, Nat.reduceSub, Nat.mul_one, Nat.one_mul, Nat.div_one, Nat.le_refl, Nat.reduceLeDiff, Nat.reduceLT, Int.toNat_natCast, Int.toNat_zero, Nat.zero_le, Int.natCast_nonneg, Int.reduceLE, Int.reduceLT, Option.some.injEq, foldA, maxA, minA, Cell.int.injEq, AV.c.injEq, pre_nil, pre_cons, pre_gate, pre1_cons, pre1_gate, qstop_true, qstop_false, qstopg_false, qgate_true, qgate_false, pcont_some, pstop_true, pstop_false, pstopg_false, pgate_true, pgate_false, hpre_nil, hpre_cons, hpre_gate, hpre1_cons, hpre1_gate, hqstop_true, hqstop_false, hqstopg_false, hqgate_true, hqgate_false, hpcont_some, hpstop_true, hpstop_false, hpstopg_false, hpgate_true, hpgate_false, Int.reduceBEq, Int.reduceBNe, Int.reduceGT, Int.reduceGE, Int.reduceEq, Int.reduceNe, decide_false, nat_0, nat_1, nat_2, nat_3, nat_4, nat_8, nat_16, nat_64, nat_128, Int.reduceToNat, AOp.stops, pre1_nil, hpre1_nil, ↓want_eq, wantV_bool, wantV_undef, ↓exec_lenX, lenX_snil, lenX_slc, ↓exec_storeX, ↓exec_storeN, storeN_one, ↓exec_bsX, ↓exec_sliceX, ↓exec_copyX, ↓exec_appNil, ↓exec_carryX, Nat.sub_zero, Nat.reduceLT, rep_len]; with_reducible first | exact EqP.at_ | exact EqP.cont | exact EqP.hcont | exact EqP.gate | exact EqP.hgate)) | ((first | refine AW_ift ?_ ?_ | fail); focus (simp only [ev_t, put_some, put_none, List.set_cons_succ, List.set_cons_zero, List.getD_cons_succ, List.getD_cons_zero]; done)) | ((first | refine AW_iff ?_ ?_ | fail); focus (simp only [ev_t, put_some, put_none, List.set_cons_succ, List.set_cons_zero, List.getD_cons_succ, List.getD_cons_zero]; done))))
  refine AO_call rfl ((num_Up H4 x34 w 4 d h34 (by omega) (by omega)).floor (by omega)) ?_
  rintro _ H5 ⟨⟨x36, rfl, h36⟩, k5⟩
  have l5 := k5.1
  (repeat (first | with_reducible refine thenQ_n ?_ | with_reducible refine blockQ_n ?_ | with_reducible refine thenQ_e ?_ | with_reducible refine thenQ_r ?_ | with_reducible refine blockQ_r ?_ | with_reducible refine blockQ_s ?_ | with_reducible refine blockQ_o rfl ?_ | refine AW_skip ?_ | refine AW_seq ?_ | refine AW_ops ?_ | refine AW_blockS ?_ | refine AW_blockR ?_ | refine AW_blockD ?_ | refine AW_blockC ?_ | refine AO_nil ?_ | refine AW_draw ?_ | (refine AW_drawA ?_; simp only [atBlk, List.set_cons_succ, List.set_cons_zero, List.take_succ_cons, List.take_zero, List.drop_succ_cons, List.drop_zero]) | refine AHd_nil ?_ | with_reducible refine AP_at ?_ | with_reducible refine AHP_at ?_ | ((first | with_reducible apply AO_any | with_reducible apply AHd_any | with_reducible apply AP_go | with_reducible apply AHP_go); focus (simp only [List.take_succ_cons, List.take_zero, List.drop_succ_cons, List.drop_zero, bne_self_eq_false, List.map_cons, List.map_nil, Bool.true_beq, Bool.false_beq, run_nil, run_cons, run_gate, cont_some, gate_true, gate_false, hrun_nil, hrun_cons, hrun_gate, hcont_some, hgate_true, hgate_false, put_some, put_none, ev_t, ev_k, wantedA, execA, stepA, List.set_cons_succ, List.set_cons_zero, List.getD_cons_succ, List.getD_cons_zero, List.getElem?_cons_zero, List.getElem?_cons_succ, if_true, if_false, binA, binInt, unA, eqA, Option.map, eq_self, true_or, or_true, true_and, and_true, and_self, beq_self_eq_true, Bool.not_true, Bool.not_false, reduceCtorEq, Bool.false_eq_true, ite_true, ite_false, fitsAll, CK.fits, decide_true, Bool.and_true, Bool.true_and, fillA, AV.cells, writeN, sliceCells, appendA, lenA, i64, loA, hiA, hcells_last, hown_last, List.take_zero, List.drop_zero, List.nil_append, List.cons_append, List.append_nil, List.take_nil, List.drop_nil, List.length_cons, List.length_nil, List.length_append, Nat.zero_add, Nat.add_zero, Nat.reduceAdd, Nat.reduceMul, Nat.reduceDiv, Nat.reduceSub, Nat.mul_one, Nat.one_mul, Nat.div_one, Nat.le_refl, Nat.reduceLeDiff, Nat.reduceLT, Int.toNat_natCast, Int.toNat_zero, Nat.zero_le, Int.natCast_nonneg, Int.reduceLE, Int.reduceLT, Option.some.injEq, foldA, maxA, minA, Cell.int.injEq, AV.c.injEq, pre_nil, pre_cons, pre_gate, pre1_cons, pre1_gate, qstop_true, qstop_false, qstopg_false, qgate_true, qgate_false, pcont_some, pstop_true, pstop_false, pstopg_false, pgate_true, pgate_false, hpre_nil, hpre_cons, hpre_gate, hpre1_cons, hpre1_gate, hqstop_true, hqstop_false, hqstopg_false, hqgate_true, hqgate_false, hpcont_some, hpstop_true, hpstop_false, hpstopg_false, hpgate_true, hpgate_false, Int.reduceBEq, Int.reduceBNe, Int.reduceGT, Int.reduceGE, Int.reduceEq, Int.reduceNe, decide_false, nat_0, nat_1, nat_2, nat_3, nat_4, nat_8, nat_16, nat_64, nat_128, Int.reduceToNat, AOp.stops, pre1_nil, hpre1_nil, ↓want_eq, wantV_bool, wantV_undef, ↓exec_lenX, lenX_snil, lenX_slc, ↓exec_storeX, ↓exec_storeN, storeN_one, ↓exec_bsX, ↓exec_sliceX, ↓exec_copyX, ↓exec_appNil, ↓exec_carryX, Nat.sub_zero, Nat.reduceLT, rep_len]; with_reducible first | exact EqP.at_ | exact EqP.cont | exact EqP.hcont | exact EqP.gate | exact EqP.hgate)) | ((first | refine AW_ift ?_ ?_ | fail); focus (simp only [ev_t, put_some, put_none, List.set_cons_succ, List.set_cons_zero, List.getD_cons_succ, List.getD_cons_zero]; done)) | ((first | refine AW_iff ?_ ?_ | fail); focus (simp only [ev_t, put_some, put_none, List.set_cons_succ, List.set_cons_zero, List.getD_cons_succ, List.getD_cons_zero]; done))))
  refine AO_call rfl ((num_Of H5 bits hb).floor (by omega)) ?_
  rintro _ H6 ⟨⟨x38, rfl, h38⟩, k6⟩
  have l6 := k6.1
  (repeat (first | with_reducible refine thenQ_n ?_ | with_reducible refine blockQ_n ?_ | with_reducible refine thenQ_e ?_ | with_reducible refine thenQ_r ?_ | with_reducible refine blockQ_r ?_ | with_reducible refine blockQ_s ?_ | with_reducible refine blockQ_o rfl ?_ | refine AW_skip ?_ | refine AW_seq ?_ | refine AW_ops ?_ | refine AW_blockS ?_ | refine AW_blockR ?_ | refine AW_blockD ?_ | refine AW_blockC ?_ | refine AO_nil ?_ | refine AW_draw ?_ | (refine AW_drawA ?_; simp only [atBlk, List.set_cons_succ, List.set_cons_zero, List.take_succ_cons, List.take_zero, List.drop_succ_cons, List.drop_zero]) | refine AHd_nil ?_ | with_reducible refine AP_at ?_ | with_reducible refine AHP_at ?_ | ((first | with_reducible apply AO_any | with_reducible apply AHd_any | with_reducible apply AP_go | with_reducible apply AHP_go); focus (simp only [List.take_succ_cons, List.take_zero, List.drop_succ_cons, List.drop_zero, bne_self_eq_false, List.map_cons, List.map_nil, Bool.true_beq, Bool.false_beq, run_nil, run_cons, run_gate, cont_some, gate_true, gate_false, hrun_nil, hrun_cons, hrun_gate, hcont_some, hgate_true, hgate_false, put_some, put_none, ev_t, ev_k, wantedA, execA, stepA, List.set_cons_succ, List.set_cons_zero, List.getD_cons_succ, List.getD_cons_zero, List.getElem?_cons_zero, List.getElem?_cons_succ, if_true, if_false, binA, binInt, unA, eqA, Option.map, eq_self, true_or, or_true, true_and, and_true, and_self, beq_self_eq_true, Bool.not_true, Bool.not_false, reduceCtorEq, Bool.false_eq_true, ite_true, ite_false, fitsAll, CK.fits, decide_true, Bool.and_true, Bool.true_and, fillA, AV.cells, writeN, sliceCells, appendA, lenA, i64, loA, hiA, hcells_last, hown_last, List.take_zero, List.drop_zero, List.nil_append, List.cons_append, List.append_nil, List.take_nil, List.drop_nil, List.length_cons, List.length_nil, List.length_append, Nat.zero_add, Nat.add_zero, Nat.reduceAdd, Nat.reduceMul, Nat.reduceDiv, Nat.reduceSub, Nat.mul_one, Nat.one_mul, Nat.div_one, Nat.le_refl, Nat.reduceLeDiff, Nat.reduceLT, Int.toNat_natCast, Int.toNat_zero, Nat.zero_le, Int.natCast_nonneg, Int.reduceLE, Int.reduceLT, Option.some.injEq, foldA, maxA, minA, Cell.int.injEq, AV.c.injEq, pre_nil, pre_cons, pre_gate, pre1_cons, pre1_gate, qstop_true, qstop_false, qstopg_false, qgate_true, qgate_false, pcont_some, pstop_true, pstop_false, pstopg_false, pgate_true, pgate_false, hpre_nil, hpre_cons, hpre_gate, hpre1_cons, hpre1_gate, hqstop_true, hqstop_false, hqstopg_false, hqgate_true, hqgate_false, hpcont_some, hpstop_true, hpstop_false, hpstopg_false, hpgate_true, hpgate_false, Int.reduceBEq, Int.reduceBNe, Int.reduceGT, Int.reduceGE, Int.reduceEq, Int.reduceNe, decide_false, nat_0, nat_1, nat_2, nat_3, nat_4, nat_8, nat_16, nat_64, nat_128, Int.reduceToNat, AOp.stops, pre1_nil, hpre1_nil, ↓want_eq, wantV_bool, wantV_undef, ↓exec_lenX, lenX_snil, lenX_slc, ↓exec_storeX, ↓exec_storeN, storeN_one, ↓exec_bsX, ↓exec_sliceX, ↓exec_copyX, ↓exec_appNil, ↓exec_carryX, Nat.sub_zero, Nat.reduceLT, rep_len]; with_reducible first | exact EqP.at_ | exact EqP.cont | exact EqP.hcont | exact EqP.gate | exact EqP.hgate)) | ((first | refine AW_ift ?_ ?_ | fail); focus (simp only [ev_t, put_some, put_none, List.set_cons_succ, List.set_cons_zero, List.getD_cons_succ, List.getD_cons_zero]; done)) | ((first | refine AW_iff ?_ ?_ | fail); focus (simp only [ev_t, put_some, put_none, List.set_cons_succ, List.set_cons_zero, List.getD_cons_succ, List.getD_cons_zero]; done))))
  refine AO_call rfl ((num_Sum H6 x36 x38 _ _ (d + 4) 4 (h36.kept k6) h38 (by omega) (by omega)).floor (by omega)) ?_
  rintro _ H7 ⟨⟨r, rfl, hr⟩, k7⟩
  have l7 := k7.1
  have hg7 := ((((hg3.kept k4).kept k5).kept k6).kept k7)
  (repeat (first | with_reducible refine thenQ_n ?_ | with_reducible refine blockQ_n ?_ | with_reducible refine thenQ_e ?_ | with_reducible refine thenQ_r ?_ | with_reducible refine blockQ_r ?_ | with_reducible refine blockQ_s ?_ | with_reducible refine blockQ_o rfl ?_ | refine AW_skip ?_ | refine AW_seq ?_ | refine AW_ops ?_ | refine AW_blockS ?_ | refine AW_blockR ?_ | refine AW_blockD ?_ | refine AW_blockC ?_ | refine AO_nil ?_ | refine AW_draw ?_ | (refine AW_drawA ?_; simp only [atBlk, List.set_cons_succ, List.set_cons_zero, List.take_succ_cons, List.take_zero, List.drop_succ_cons, List.drop_zero]) | refine AHd_nil ?_ | with_reducible refine AP_at ?_ | with_reducible refine AHP_at ?_ | ((first | with_reducible apply AO_any | with_reducible apply AHd_any | with_reducible apply AP_go | with_reducible apply AHP_go); focus (simp only [List.take_succ_cons, List.take_zero, List.drop_succ_cons, List.drop_zero, bne_self_eq_false, List.map_cons, List.map_nil, Bool.true_beq, Bool.false_beq, run_nil, run_cons, run_gate, cont_some, gate_true, gate_false, hrun_nil, hrun_cons, hrun_gate, hcont_some, hgate_true, hgate_false, put_some, put_none, ev_t, ev_k, wantedA, execA, stepA, List.set_cons_succ, List.set_cons_zero, List.getD_cons_succ, List.getD_cons_zero, List.getElem?_cons_zero, List.getElem?_cons_succ, if_true, if_false, binA, binInt, unA, eqA, Option.map, eq_self, true_or, or_true, true_and, and_true, and_self, beq_self_eq_true, Bool.not_true, Bool.not_false, reduceCtorEq, Bool.false_eq_true, ite_true, ite_false, fitsAll, CK.fits, decide_true, Bool.and_true, Bool.true_and, fillA, AV.cells, writeN, sliceCells, appendA, lenA, i64, loA, hiA, hcells_last, hown_last, List.take_zero, List.drop_zero, List.nil_append, List.cons_append, List.append_nil, List.take_nil, List.drop_nil, List.length_cons, List.length_nil, List.length_append, Nat.zero_add, Nat.add_zero, Nat.reduceAdd, Nat.reduceMul, Nat.reduceDiv, Nat.reduceSub, Nat.mul_one, Nat.one_mul, Nat.div_one, Nat.le_refl, Nat.reduceLeDiff, Nat.reduceLT, Int.toNat_natCast, Int.toNat_zero, Nat.zero_le, Int.natCast_nonneg, Int.reduceLE, Int.reduceLT, Option.some.injEq, foldA, maxA, minA, Cell.int.injEq, AV.c.injEq, pre_nil, pre_cons, pre_gate, pre1_cons, pre1_gate, qstop_true, qstop_false, qstopg_false, qgate_true, qgate_false, pcont_some, pstop_true, pstop_false, pstopg_false, pgate_true, pgate_false, hpre_nil, hpre_cons, hpre_gate, hpre1_cons, hpre1_gate, hqstop_true, hqstop_false, hqstopg_false, hqgate_true, hqgate_false, hpcont_some, hpstop_true, hpstop_false, hpstopg_false, hpgate_true, hpgate_false, Int.reduceBEq, Int.reduceBNe, Int.reduceGT, Int.reduceGE, Int.reduceEq, Int.reduceNe, decide_false, nat_0, nat_1, nat_2, nat_3, nat_4, nat_8, nat_16, nat_64, nat_128, Int.reduceToNat, AOp.stops, pre1_nil, hpre1_nil, ↓want_eq, wantV_bool, wantV_undef, ↓exec_lenX, lenX_snil, lenX_slc, ↓exec_storeX, ↓exec_storeN, storeN_one, ↓exec_bsX, ↓exec_sliceX, ↓exec_copyX, ↓exec_appNil, ↓exec_carryX, Nat.sub_zero, Nat.reduceLT, rep_len]; with_reducible first | exact EqP.at_ | exact EqP.cont | exact EqP.hcont | exact EqP.gate | exact EqP.hgate)) | ((first | refine AW_ift ?_ ?_ | fail); focus (simp only [ev_t, put_some, put_none, List.set_cons_succ, List.set_cons_zero, List.getD_cons_succ, List.getD_cons_zero]; done)) | ((first | refine AW_iff ?_ ?_ | fail); focus (simp only [ev_t, put_some, put_none, List.set_cons_succ, List.set_cons_zero, List.getD_cons_succ, List.getD_cons_zero]; done))))
  refine AO_call rfl ((num_power H7 r _ _ t hr (by omega) (by omega)).floor (by omega)) ?_
  rintro _ H8 ⟨⟨x42, rfl, h42⟩, k8⟩
  have l8 := k8.1
  have hg8 := hg7.kept k8
  (repeat (first | with_reducible refine thenQ_n ?_ | with_reducible refine blockQ_n ?_ | with_reducible refine thenQ_e ?_ | with_reducible refine thenQ_r ?_ | with_reducible refine blockQ_r ?_ | with_reducible refine blockQ_s ?_ | with_reducible refine blockQ_o rfl ?_ | refine AW_skip ?_ | refine AW_seq ?_ | refine AW_ops ?_ | refine AW_blockS ?_ | refine AW_blockR ?_ | refine AW_blockD ?_ | refine AW_blockC ?_ | refine AO_nil ?_ | refine AW_draw ?_ | (refine AW_drawA ?_; simp only [atBlk, List.set_cons_succ, List.set_cons_zero, List.take_succ_cons, List.take_zero, List.drop_succ_cons, List.drop_zero]) | refine AHd_nil ?_ | with_reducible refine AP_at ?_ | with_reducible refine AHP_at ?_ | ((first | with_reducible apply AO_any | with_reducible apply AHd_any | with_reducible apply AP_go | with_reducible apply AHP_go); focus (simp only [List.take_succ_cons, List.take_zero, List.drop_succ_cons, List.drop_zero, bne_self_eq_false, List.map_cons, List.map_nil, Bool.true_beq, Bool.false_beq, run_nil, run_cons, run_gate, cont_some, gate_true, gate_false, hrun_nil, hrun_cons, hrun_gate, hcont_some, hgate_true, hgate_false, put_some, put_none, ev_t, ev_k, wantedA, execA, stepA, List.set_cons_succ, List.set_cons_zero, List.getD_cons_succ, List.getD_cons_zero, List.getElem?_cons_zero, List.getElem?_cons_succ, if_true, if_false, binA, binInt, unA, eqA, Option.map, eq_self, true_or, or_true, true_and, and_true, and_self, beq_self_eq_true, Bool.not_true, Bool.not_false, reduceCtorEq, Bool.false_eq_true, ite_true, ite_false, fitsAll, CK.fits, decide_true, Bool.and_true, Bool.true_and, fillA, AV.cells, writeN, sliceCells, appendA, lenA, i64, loA, hiA, hcells_last, hown_last, List.take_zero, List.drop_zero, List.nil_append, List.cons_append, List.append_nil, List.take_nil, List.drop_nil, List.length_cons, List.length_nil, List.length_append, Nat.zero_add, Nat.add_zero, Nat.reduceAdd, Nat.reduceMul, Nat.reduceDiv, Nat.reduceSub, Nat.mul_one, Nat.one_mul, Nat.div_one, Nat.le_refl, Nat.reduceLeDiff, Nat.reduceLT, Int.toNat_natCast, Int.toNat_zero, Nat.zero_le, Int.natCast_nonneg, Int.reduceLE, Int.reduceLT, Option.some.injEq, foldA, maxA, minA, Cell.int.injEq, AV.c.injEq, pre_nil, pre_cons, pre_gate, pre1_cons, pre1_gate, qstop_true, qstop_false, qstopg_false, qgate_true, qgate_false, pcont_some, pstop_true, pstop_false, pstopg_false, pgate_true, pgate_false, hpre_nil, hpre_cons, hpre_gate, hpre1_cons, hpre1_gate, hqstop_true, hqstop_false, hqstopg_false, hqgate_true, hqgate_false, hpcont_some, hpstop_true, hpstop_false, hpstopg_false, hpgate_true, hpgate_false, Int.reduceBEq, Int.reduceBNe, Int.reduceGT, Int.reduceGE, Int.reduceEq, Int.reduceNe, decide_false, nat_0, nat_1, nat_2, nat_3, nat_4, nat_8, nat_16, nat_64, nat_128, Int.reduceToNat, AOp.stops, pre1_nil, hpre1_nil, ↓want_eq, wantV_bool, wantV_undef, ↓exec_lenX, lenX_snil, lenX_slc, ↓exec_storeX, ↓exec_storeN, storeN_one, ↓exec_bsX, ↓exec_sliceX, ↓exec_copyX, ↓exec_appNil, ↓exec_carryX, Nat.sub_zero, Nat.reduceLT, rep_len]; with_reducible first | exact EqP.at_ | exact EqP.cont | exact EqP.hcont | exact EqP.gate | exact EqP.hgate)) | ((first | refine AW_ift ?_ ?_ | fail); focus (simp only [ev_t, put_some, put_none, List.set_cons_succ, List.set_cons_zero, List.getD_cons_succ, List.getD_cons_zero]; done)) | ((first | refine AW_iff ?_ ?_ | fail); focus (simp only [ev_t, put_some, put_none, List.set_cons_succ, List.set_cons_zero, List.getD_cons_succ, List.getD_cons_zero]; done))))
  refine AO_call rfl ((num_Above H8 x42 g _ _ 1000 100 h42 hg8 (by omega) (by omega)).floor (by omega)) ?_
  rintro _ _ ⟨rfl, rfl⟩
  by_cases h1 : 65536 ^ (d * t) * n < (65536 ^ d * w + bits) ^ t
  · (repeat (first | with_reducible refine thenQ_n ?_ | with_reducible refine blockQ_n ?_ | with_reducible refine thenQ_e ?_ | with_reducible refine thenQ_r ?_ | with_reducible refine blockQ_r ?_ | with_reducible refine blockQ_s ?_ | with_reducible refine blockQ_o rfl ?_ | refine AW_skip ?_ | refine AW_seq ?_ | refine AW_ops ?_ | refine AW_blockS ?_ | refine AW_blockR ?_ | refine AW_blockD ?_ | refine AW_blockC ?_ | refine AO_nil ?_ | refine AW_draw ?_ | (refine AW_drawA ?_; simp only [atBlk, List.set_cons_succ, List.set_cons_zero, List.take_succ_cons, List.take_zero, List.drop_succ_cons, List.drop_zero]) | refine AHd_nil ?_ | with_reducible refine AP_at ?_ | with_reducible refine AHP_at ?_ | ((first | with_reducible apply AO_any | with_reducible apply AHd_any | with_reducible apply AP_go | with_reducible apply AHP_go); focus (simp only [List.take_succ_cons, List.take_zero, List.drop_succ_cons, List.drop_zero, bne_self_eq_false, List.map_cons, List.map_nil, Bool.true_beq, Bool.false_beq, run_nil, run_cons, run_gate, cont_some, gate_true, gate_false, hrun_nil, hrun_cons, hrun_gate, hcont_some, hgate_true, hgate_false, put_some, put_none, ev_t, ev_k, wantedA, execA, stepA, List.set_cons_succ, List.set_cons_zero, List.getD_cons_succ, List.getD_cons_zero, List.getElem?_cons_zero, List.getElem?_cons_succ, if_true, if_false, binA, binInt, unA, eqA, Option.map, eq_self, true_or, or_true, true_and, and_true, and_self, beq_self_eq_true, Bool.not_true, Bool.not_false, reduceCtorEq, Bool.false_eq_true, ite_true, ite_false, fitsAll, CK.fits, decide_true, Bool.and_true, Bool.true_and, fillA, AV.cells, writeN, sliceCells, appendA, lenA, i64, loA, hiA, hcells_last, hown_last, List.take_zero, List.drop_zero, List.nil_append, List.cons_append, List.append_nil, List.take_nil, List.drop_nil, List.length_cons, List.length_nil, List.length_append, Nat.zero_add, Nat.add_zero, Nat.reduceAdd, Nat.reduceMul, Nat.reduceDiv, Nat.reduceSub, Nat.mul_one, Nat.one_mul, Nat.div_one, Nat.le_refl, Nat.reduceLeDiff, Nat.reduceLT, Int.toNat_natCast, Int.toNat_zero, Nat.zero_le, Int.natCast_nonneg, Int.reduceLE, Int.reduceLT, Option.some.injEq, foldA, maxA, minA, Cell.int.injEq, AV.c.injEq, pre_nil, pre_cons, pre_gate, pre1_cons, pre1_gate, qstop_true, qstop_false, qstopg_false, qgate_true, qgate_false, pcont_some, pstop_true, pstop_false, pstopg_false, pgate_true, pgate_false, hpre_nil, hpre_cons, hpre_gate, hpre1_cons, hpre1_gate, hqstop_true, hqstop_false, hqstopg_false, hqgate_true, hqgate_false, hpcont_some, hpstop_true, hpstop_false, hpstopg_false, hpgate_true, hpgate_false, Int.reduceBEq, Int.reduceBNe, Int.reduceGT, Int.reduceGE, Int.reduceEq, Int.reduceNe, decide_false, nat_0, nat_1, nat_2, nat_3, nat_4, nat_8, nat_16, nat_64, nat_128, Int.reduceToNat, AOp.stops, pre1_nil, hpre1_nil, ↓want_eq, wantV_bool, wantV_undef, ↓exec_lenX, lenX_snil, lenX_slc, ↓exec_storeX, ↓exec_storeN, storeN_one, ↓exec_bsX, ↓exec_sliceX, ↓exec_copyX, ↓exec_appNil, ↓exec_carryX, Nat.sub_zero, Nat.reduceLT, rep_len, decide_eq_true h1]; with_reducible first | exact EqP.at_ | exact EqP.cont | exact EqP.hcont | exact EqP.gate | exact EqP.hgate)) | ((first | refine AW_ift ?_ ?_ | fail); focus (simp only [ev_t, put_some, put_none, List.set_cons_succ, List.set_cons_zero, List.getD_cons_succ, List.getD_cons_zero]; done)) | ((first | refine AW_iff ?_ ?_ | fail); focus (simp only [ev_t, put_some, put_none, List.set_cons_succ, List.set_cons_zero, List.getD_cons_succ, List.getD_cons_zero]; done))))
    refine AW_ret ⟨_, rfl, w, hw, hw2, ?_⟩
    rw [decide_eq_false (show ¬ IsP n t d w bits from fun h => by have := h.1; omega)]; rfl
  · (repeat (first | with_reducible refine thenQ_n ?_ | with_reducible refine blockQ_n ?_ | with_reducible refine thenQ_e ?_ | with_reducible refine thenQ_r ?_ | with_reducible refine blockQ_r ?_ | with_reducible refine blockQ_s ?_ | with_reducible refine blockQ_o rfl ?_ | refine AW_skip ?_ | refine AW_seq ?_ | refine AW_ops ?_ | refine AW_blockS ?_ | refine AW_blockR ?_ | refine AW_blockD ?_ | refine AW_blockC ?_ | refine AO_nil ?_ | refine AW_draw ?_ | (refine AW_drawA ?_; simp only [atBlk, List.set_cons_succ, List.set_cons_zero, List.take_succ_cons, List.take_zero, List.drop_succ_cons, List.drop_zero]) | refine AHd_nil ?_ | with_reducible refine AP_at ?_ | with_reducible refine AHP_at ?_ | ((first | with_reducible apply AO_any | with_reducible apply AHd_any | with_reducible apply AP_go | with_reducible apply AHP_go); focus (simp only [List.take_succ_cons, List.take_zero, List.drop_succ_cons, List.drop_zero, bne_self_eq_false, List.map_cons, List.map_nil, Bool.true_beq, Bool.false_beq, run_nil, run_cons, run_gate, cont_some, gate_true, gate_false, hrun_nil, hrun_cons, hrun_gate, hcont_some, hgate_true, hgate_false, put_some, put_none, ev_t, ev_k, wantedA, execA, stepA, List.set_cons_succ, List.set_cons_zero, List.getD_cons_succ, List.getD_cons_zero, List.getElem?_cons_zero, List.getElem?_cons_succ, if_true, if_false, binA, binInt, unA, eqA, Option.map, eq_self, true_or, or_true, true_and, and_true, and_self, beq_self_eq_true, Bool.not_true, Bool.not_false, reduceCtorEq, Bool.false_eq_true, ite_true, ite_false, fitsAll, CK.fits, decide_true, Bool.and_true, Bool.true_and, fillA, AV.cells, writeN, sliceCells, appendA, lenA, i64, loA, hiA, hcells_last, hown_last, List.take_zero, List.drop_zero, List.nil_append, List.cons_append, List.append_nil, List.take_nil, List.drop_nil, List.length_cons, List.length_nil, List.length_append, Nat.zero_add, Nat.add_zero, Nat.reduceAdd, Nat.reduceMul, Nat.reduceDiv, Nat.reduceSub, Nat.mul_one, Nat.one_mul, Nat.div_one, Nat.le_refl, Nat.reduceLeDiff, Nat.reduceLT, Int.toNat_natCast, Int.toNat_zero, Nat.zero_le, Int.natCast_nonneg, Int.reduceLE, Int.reduceLT, Option.some.injEq, foldA, maxA, minA, Cell.int.injEq, AV.c.injEq, pre_nil, pre_cons, pre_gate, pre1_cons, pre1_gate, qstop_true, qstop_false, qstopg_false, qgate_true, qgate_false, pcont_some, pstop_true, pstop_false, pstopg_false, pgate_true, pgate_false, hpre_nil, hpre_cons, hpre_gate, hpre1_cons, hpre1_gate, hqstop_true, hqstop_false, hqstopg_false, hqgate_true, hqgate_false, hpcont_some, hpstop_true, hpstop_false, hpstopg_false, hpgate_true, hpgate_false, Int.reduceBEq, Int.reduceBNe, Int.reduceGT, Int.reduceGE, Int.reduceEq, Int.reduceNe, decide_false, nat_0, nat_1, nat_2, nat_3, nat_4, nat_8, nat_16, nat_64, nat_128, Int.reduceToNat, AOp.stops, pre1_nil, hpre1_nil, ↓want_eq, wantV_bool, wantV_undef, ↓exec_lenX, lenX_snil, lenX_slc, ↓exec_storeX, ↓exec_storeN, storeN_one, ↓exec_bsX, ↓exec_sliceX, ↓exec_copyX, ↓exec_appNil, ↓exec_carryX, Nat.sub_zero, Nat.reduceLT, rep_len, decide_eq_false h1]; with_reducible first | exact EqP.at_ | exact EqP.cont | exact EqP.hcont | exact EqP.gate | exact EqP.hgate)) | ((first | refine AW_ift ?_ ?_ | fail); focus (simp only [ev_t, put_some, put_none, List.set_cons_succ, List.set_cons_zero, List.getD_cons_succ, List.getD_cons_zero]; done)) | ((first | refine AW_iff ?_ ?_ | fail); focus (simp only [ev_t, put_some, put_none, List.set_cons_succ, List.set_cons_zero, List.getD_cons_succ, List.getD_cons_zero]; done))))
    refine AO_call rfl ((num_Of H8 1 (by omega)).floor (by omega)) ?_
    rintro _ H9 ⟨⟨x48, rfl, h48⟩, k9⟩
    have l9 := k9.1
    (repeat (first | with_reducible refine thenQ_n ?_ | with_reducible refine blockQ_n ?_ | with_reducible refine thenQ_e ?_ | with_reducible refine thenQ_r ?_ | with_reducible refine blockQ_r ?_ | with_reducible refine blockQ_s ?_ | with_reducible refine blockQ_o rfl ?_ | refine AW_skip ?_ | refine AW_seq ?_ | refine AW_ops ?_ | refine AW_blockS ?_ | refine AW_blockR ?_ | refine AW_blockD ?_ | refine AW_blockC ?_ | refine AO_nil ?_ | refine AW_draw ?_ | (refine AW_drawA ?_; simp only [atBlk, List.set_cons_succ, List.set_cons_zero, List.take_succ_cons, List.take_zero, List.drop_succ_cons, List.drop_zero]) | refine AHd_nil ?_ | with_reducible refine AP_at ?_ | with_reducible refine AHP_at ?_ | ((first | with_reducible apply AO_any | with_reducible apply AHd_any | with_reducible apply AP_go | with_reducible apply AHP_go); focus (simp only [List.take_succ_cons, List.take_zero, List.drop_succ_cons, List.drop_zero, bne_self_eq_false, List.map_cons, List.map_nil, Bool.true_beq, Bool.false_beq, run_nil, run_cons, run_gate, cont_some, gate_true, gate_false, hrun_nil, hrun_cons, hrun_gate, hcont_some, hgate_true, hgate_false, put_some, put_none, ev_t, ev_k, wantedA, execA, stepA, List.set_cons_succ, List.set_cons_zero, List.getD_cons_succ, List.getD_cons_zero, List.getElem?_cons_zero, List.getElem?_cons_succ, if_true, if_false, binA, binInt, unA, eqA, Option.map, eq_self, true_or, or_true, true_and, and_true, and_self, beq_self_eq_true, Bool.not_true, Bool.not_false, reduceCtorEq, Bool.false_eq_true, ite_true, ite_false, fitsAll, CK.fits, decide_true, Bool.and_true, Bool.true_and, fillA, AV.cells, writeN, sliceCells, appendA, lenA, i64, loA, hiA, hcells_last, hown_last, List.take_zero, List.drop_zero, List.nil_append, List.cons_append, List.append_nil, List.take_nil, List.drop_nil, List.length_cons, List.length_nil, List.length_append, Nat.zero_add, Nat.add_zero, Nat.reduceAdd, Nat.reduceMul, Nat.reduceDiv, Nat.reduceSub, Nat.mul_one, Nat.one_mul, Nat.div_one, Nat.le_refl, Nat.reduceLeDiff, Nat.reduceLT, Int.toNat_natCast, Int.toNat_zero, Nat.zero_le, Int.natCast_nonneg, Int.reduceLE, Int.reduceLT, Option.some.injEq, foldA, maxA, minA, Cell.int.injEq, AV.c.injEq, pre_nil, pre_cons, pre_gate, pre1_cons, pre1_gate, qstop_true, qstop_false, qstopg_false, qgate_true, qgate_false, pcont_some, pstop_true, pstop_false, pstopg_false, pgate_true, pgate_false, hpre_nil, hpre_cons, hpre_gate, hpre1_cons, hpre1_gate, hqstop_true, hqstop_false, hqstopg_false, hqgate_true, hqgate_false, hpcont_some, hpstop_true, hpstop_false, hpstopg_false, hpgate_true, hpgate_false, Int.reduceBEq, Int.reduceBNe, Int.reduceGT, Int.reduceGE, Int.reduceEq, Int.reduceNe, decide_false, nat_0, nat_1, nat_2, nat_3, nat_4, nat_8, nat_16, nat_64, nat_128, Int.reduceToNat, AOp.stops, pre1_nil, hpre1_nil, ↓want_eq, wantV_bool, wantV_undef, ↓exec_lenX, lenX_snil, lenX_slc, ↓exec_storeX, ↓exec_storeN, storeN_one, ↓exec_bsX, ↓exec_sliceX, ↓exec_copyX, ↓exec_appNil, ↓exec_carryX, Nat.sub_zero, Nat.reduceLT, rep_len]; with_reducible first | exact EqP.at_ | exact EqP.cont | exact EqP.hcont | exact EqP.gate | exact EqP.hgate)) | ((first | refine AW_ift ?_ ?_ | fail); focus (simp only [ev_t, put_some, put_none, List.set_cons_succ, List.set_cons_zero, List.getD_cons_succ, List.getD_cons_zero]; done)) | ((first | refine AW_iff ?_ ?_ | fail); focus (simp only [ev_t, put_some, put_none, List.set_cons_succ, List.set_cons_zero, List.getD_cons_succ, List.getD_cons_zero]; done))))
    refine AO_call rfl ((num_Sum H9 r x48 _ _ _ 4 ((hr.kept k8).kept k9) h48 (by omega) (by omega)).floor (by omega)) ?_
    rintro _ H10 ⟨⟨x49, rfl, h49⟩, k10⟩
    have l10 := k10.1
    (repeat (first | with_reducible refine thenQ_n ?_ | with_reducible refine blockQ_n ?_ | with_reducible refine thenQ_e ?_ | with_reducible refine thenQ_r ?_ | with_reducible refine blockQ_r ?_ | with_reducible refine blockQ_s ?_ | with_reducible refine blockQ_o rfl ?_ | refine AW_skip ?_ | refine AW_seq ?_ | refine AW_ops ?_ | refine AW_blockS ?_ | refine AW_blockR ?_ | refine AW_blockD ?_ | refine AW_blockC ?_ | refine AO_nil ?_ | refine AW_draw ?_ | (refine AW_drawA ?_; simp only [atBlk, List.set_cons_succ, List.set_cons_zero, List.take_succ_cons, List.take_zero, List.drop_succ_cons, List.drop_zero]) | refine AHd_nil ?_ | with_reducible refine AP_at ?_ | with_reducible refine AHP_at ?_ | ((first | with_reducible apply AO_any | with_reducible apply AHd_any | with_reducible apply AP_go | with_reducible apply AHP_go); focus (simp only [List.take_succ_cons, List.take_zero, List.drop_succ_cons, List.drop_zero, bne_self_eq_false, List.map_cons, List.map_nil, Bool.true_beq, Bool.false_beq, run_nil, run_cons, run_gate, cont_some, gate_true, gate_false, hrun_nil, hrun_cons, hrun_gate, hcont_some, hgate_true, hgate_false, put_some, put_none, ev_t, ev_k, wantedA, execA, stepA, List.set_cons_succ, List.set_cons_zero, List.getD_cons_succ, List.getD_cons_zero, List.getElem?_cons_zero, List.getElem?_cons_succ, if_true, if_false, binA, binInt, unA, eqA, Option.map, eq_self, true_or, or_true, true_and, and_true, and_self, beq_self_eq_true, Bool.not_true, Bool.not_false, reduceCtorEq, Bool.false_eq_true, ite_true, ite_false, fitsAll, CK.fits, decide_true, Bool.and_true, Bool.true_and, fillA, AV.cells, writeN, sliceCells, appendA, lenA, i64, loA, hiA, hcells_last, hown_last, List.take_zero, List.drop_zero, List.nil_append, List.cons_append, List.append_nil, List.take_nil, List.drop_nil, List.length_cons, List.length_nil, List.length_append, Nat.zero_add, Nat.add_zero, Nat.reduceAdd, Nat.reduceMul, Nat.reduceDiv, Nat.reduceSub, Nat.mul_one, Nat.one_mul, Nat.div_one, Nat.le_refl, Nat.reduceLeDiff, Nat.reduceLT, Int.toNat_natCast, Int.toNat_zero, Nat.zero_le, Int.natCast_nonneg, Int.reduceLE, Int.reduceLT, Option.some.injEq, foldA, maxA, minA, Cell.int.injEq, AV.c.injEq, pre_nil, pre_cons, pre_gate, pre1_cons, pre1_gate, qstop_true, qstop_false, qstopg_false, qgate_true, qgate_false, pcont_some, pstop_true, pstop_false, pstopg_false, pgate_true, pgate_false, hpre_nil, hpre_cons, hpre_gate, hpre1_cons, hpre1_gate, hqstop_true, hqstop_false, hqstopg_false, hqgate_true, hqgate_false, hpcont_some, hpstop_true, hpstop_false, hpstopg_false, hpgate_true, hpgate_false, Int.reduceBEq, Int.reduceBNe, Int.reduceGT, Int.reduceGE, Int.reduceEq, Int.reduceNe, decide_false, nat_0, nat_1, nat_2, nat_3, nat_4, nat_8, nat_16, nat_64, nat_128, Int.reduceToNat, AOp.stops, pre1_nil, hpre1_nil, ↓want_eq, wantV_bool, wantV_undef, ↓exec_lenX, lenX_snil, lenX_slc, ↓exec_storeX, ↓exec_storeN, storeN_one, ↓exec_bsX, ↓exec_sliceX, ↓exec_copyX, ↓exec_appNil, ↓exec_carryX, Nat.sub_zero, Nat.reduceLT, rep_len]; with_reducible first | exact EqP.at_ | exact EqP.cont | exact EqP.hcont | exact EqP.gate | exact EqP.hgate)) | ((first | refine AW_ift ?_ ?_ | fail); focus (simp only [ev_t, put_some, put_none, List.set_cons_succ, List.set_cons_zero, List.getD_cons_succ, List.getD_cons_zero]; done)) | ((first | refine AW_iff ?_ ?_ | fail); focus (simp only [ev_t, put_some, put_none, List.set_cons_succ, List.set_cons_zero, List.getD_cons_succ, List.getD_cons_zero]; done))))
    refine AO_call rfl ((num_power H10 x49 _ _ t h49 (by omega) (by omega)).floor (by omega)) ?_
    rintro _ H11 ⟨⟨x51, rfl, h51⟩, k11⟩
    have l11 := k11.1
    (repeat (first | with_reducible refine thenQ_n ?_ | with_reducible refine blockQ_n ?_ | with_reducible refine thenQ_e ?_ | with_reducible refine thenQ_r ?_ | with_reducible refine blockQ_r ?_ | with_reducible refine blockQ_s ?_ | with_reducible refine blockQ_o rfl ?_ | refine AW_skip ?_ | refine AW_seq ?_ | refine AW_ops ?_ | refine AW_blockS ?_ | refine AW_blockR ?_ | refine AW_blockD ?_ | refine AW_blockC ?_ | refine AO_nil ?_ | refine AW_draw ?_ | (refine AW_drawA ?_; simp only [atBlk, List.set_cons_succ, List.set_cons_zero, List.take_succ_cons, List.take_zero, List.drop_succ_cons, List.drop_zero]) | refine AHd_nil ?_ | with_reducible refine AP_at ?_ | with_reducible refine AHP_at ?_ | ((first | with_reducible apply AO_any | with_reducible apply AHd_any | with_reducible apply AP_go | with_reducible apply AHP_go); focus (simp only [List.take_succ_cons, List.take_zero, List.drop_succ_cons, List.drop_zero, bne_self_eq_false, List.map_cons, List.map_nil, Bool.true_beq, Bool.false_beq, run_nil, run_cons, run_gate, cont_some, gate_true, gate_false, hrun_nil, hrun_cons, hrun_gate, hcont_some, hgate_true, hgate_false, put_some, put_none, ev_t, ev_k, wantedA, execA, stepA, List.set_cons_succ, List.set_cons_zero, List.getD_cons_succ, List.getD_cons_zero, List.getElem?_cons_zero, List.getElem?_cons_succ, if_true, if_false, binA, binInt, unA, eqA, Option.map, eq_self, true_or, or_true, true_and, and_true, and_self, beq_self_eq_true, Bool.not_true, Bool.not_false, reduceCtorEq, Bool.false_eq_true, ite_true, ite_false, fitsAll, CK.fits, decide_true, Bool.and_true, Bool.true_and, fillA, AV.cells, writeN, sliceCells, appendA, lenA, i64, loA, hiA, hcells_last, hown_last, List.take_zero, List.drop_zero, List.nil_append, List.cons_append, List.append_nil, List.take_nil, List.drop_nil, List.length_cons, List.length_nil, List.length_append, Nat.zero_add, Nat.add_zero, Nat.reduceAdd, Nat.reduceMul, Nat.reduceDiv, Nat.reduceSub, Nat.mul_one, Nat.one_mul, Nat.div_one, Nat.le_refl, Nat.reduceLeDiff, Nat.reduceLT, Int.toNat_natCast, Int.toNat_zero, Nat.zero_le, Int.natCast_nonneg, Int.reduceLE, Int.reduceLT, Option.some.injEq, foldA, maxA, minA, Cell.int.injEq, AV.c.injEq, pre_nil, pre_cons, pre_gate, pre1_cons, pre1_gate, qstop_true, qstop_false, qstopg_false, qgate_true, qgate_false, pcont_some, pstop_true, pstop_false, pstopg_false, pgate_true, pgate_false, hpre_nil, hpre_cons, hpre_gate, hpre1_cons, hpre1_gate, hqstop_true, hqstop_false, hqstopg_false, hqgate_true, hqgate_false, hpcont_some, hpstop_true, hpstop_false, hpstopg_false, hpgate_true, hpgate_false, Int.reduceBEq, Int.reduceBNe, Int.reduceGT, Int.reduceGE, Int.reduceEq, Int.reduceNe, decide_false, nat_0, nat_1, nat_2, nat_3, nat_4, nat_8, nat_16, nat_64, nat_128, Int.reduceToNat, AOp.stops, pre1_nil, hpre1_nil, ↓want_eq, wantV_bool, wantV_undef, ↓exec_lenX, lenX_snil, lenX_slc, ↓exec_storeX, ↓exec_storeN, storeN_one, ↓exec_bsX, ↓exec_sliceX, ↓exec_copyX, ↓exec_appNil, ↓exec_carryX, Nat.sub_zero, Nat.reduceLT, rep_len]; with_reducible first | exact EqP.at_ | exact EqP.cont | exact EqP.hcont | exact EqP.gate | exact EqP.hgate)) | ((first | refine AW_ift ?_ ?_ | fail); focus (simp only [ev_t, put_some, put_none, List.set_cons_succ, List.set_cons_zero, List.getD_cons_succ, List.getD_cons_zero]; done)) | ((first | refine AW_iff ?_ ?_ | fail); focus (simp only [ev_t, put_some, put_none, List.set_cons_succ, List.set_cons_zero, List.getD_cons_succ, List.getD_cons_zero]; done))))
    refine AO_call rfl ((num_Above H11 x51 g _ _ 1000 100 h51 (((hg8.kept k9).kept k10).kept k11) (by omega) (by omega)).floor (by omega)) ?_
    rintro _ _ ⟨rfl, rfl⟩
    have e : decide (65536 ^ (d * t) * n < (65536 ^ d * w + bits + 1) ^ t) = decide (IsP n t d w bits) := by
      rw [Bool.eq_iff_iff, decide_eq_true_eq, decide_eq_true_eq]
      exact ⟨fun h => ⟨by omega, h⟩, fun h => h.2⟩
    rw [e]
    (repeat (first | with_reducible refine thenQ_n ?_ | with_reducible refine blockQ_n ?_ | with_reducible refine thenQ_e ?_ | with_reducible refine thenQ_r ?_ | with_reducible refine blockQ_r ?_ | with_reducible refine blockQ_s ?_ | with_reducible refine blockQ_o rfl ?_ | refine AW_skip ?_ | refine AW_seq ?_ | refine AW_ops ?_ | refine AW_blockS ?_ | refine AW_blockR ?_ | refine AW_blockD ?_ | refine AW_blockC ?_ | refine AO_nil ?_ | refine AW_draw ?_ | (refine AW_drawA ?_; simp only [atBlk, List.set_cons_succ, List.set_cons_zero, List.take_succ_cons, List.take_zero, List.drop_succ_cons, List.drop_zero]) | refine AHd_nil ?_ | with_reducible refine AP_at ?_ | with_reducible refine AHP_at ?_ | ((first | with_reducible apply AO_any | with_reducible apply AHd_any | with_reducible apply AP_go | with_reducible apply AHP_go); focus (simp only [List.take_succ_cons, List.take_zero, List.drop_succ_cons, List.drop_zero, bne_self_eq_false, List.map_cons, List.map_nil, Bool.true_beq, Bool.false_beq, run_nil, run_cons, run_gate, cont_some, gate_true, gate_false, hrun_nil, hrun_cons, hrun_gate, hcont_some, hgate_true, hgate_false, put_some, put_none, ev_t, ev_k, wantedA, execA, stepA, List.set_cons_succ, List.set_cons_zero, List.getD_cons_succ, List.getD_cons_zero, List.getElem?_cons_zero, List.getElem?_cons_succ, if_true, if_false, binA, binInt, unA, eqA, Option.map, eq_self, true_or, or_true, true_and, and_true, and_self, beq_self_eq_true, Bool.not_true, Bool.not_false, reduceCtorEq, Bool.false_eq_true, ite_true, ite_false, fitsAll, CK.fits, decide_true, Bool.and_true, Bool.true_and, fillA, AV.cells, writeN, sliceCells, appendA, lenA, i64, loA, hiA, hcells_last, hown_last, List.take_zero, List.drop_zero, List.nil_append, List.cons_append, List.append_nil, List.take_nil, List.drop_nil, List.length_cons, List.length_nil, List.length_append, Nat.zero_add, Nat.add_zero, Nat.reduceAdd, Nat.reduceMul, Nat.reduceDiv, Nat.reduceSub, Nat.mul_one, Nat.one_mul, Nat.div_one, Nat.le_refl, Nat.reduceLeDiff, Nat.reduceLT, Int.toNat_natCast, Int.toNat_zero, Nat.zero_le, Int.natCast_nonneg, Int.reduceLE, Int.reduceLT, Option.some.injEq, foldA, maxA, minA, Cell.int.injEq, AV.c.injEq, pre_nil, pre_cons, pre_gate, pre1_cons, pre1_gate, qstop_true, qstop_false, qstopg_false, qgate_true, qgate_false, pcont_some, pstop_true, pstop_false, pstopg_false, pgate_true, pgate_false, hpre_nil, hpre_cons, hpre_gate, hpre1_cons, hpre1_gate, hqstop_true, hqstop_false, hqstopg_false, hqgate_true, hqgate_false, hpcont_some, hpstop_true, hpstop_false, hpstopg_false, hpgate_true, hpgate_false, Int.reduceBEq, Int.reduceBNe, Int.reduceGT, Int.reduceGE, Int.reduceEq, Int.reduceNe, decide_false, nat_0, nat_1, nat_2, nat_3, nat_4, nat_8, nat_16, nat_64, nat_128, Int.reduceToNat, AOp.stops, pre1_nil, hpre1_nil, ↓want_eq, wantV_bool, wantV_undef, ↓exec_lenX, lenX_snil, lenX_slc, ↓exec_storeX, ↓exec_storeN, storeN_one, ↓exec_bsX, ↓exec_sliceX, ↓exec_copyX, ↓exec_appNil, ↓exec_carryX, Nat.sub_zero, Nat.reduceLT, rep_len]; with_reducible first | exact EqP.at_ | exact EqP.cont | exact EqP.hcont | exact EqP.gate | exact EqP.hgate)) | ((first | refine AW_ift ?_ ?_ | fail); focus (simp only [ev_t, put_some, put_none, List.set_cons_succ, List.set_cons_zero, List.getD_cons_succ, List.getD_cons_zero]; done)) | ((first | refine AW_iff ?_ ?_ | fail); focus (simp only [ev_t, put_some, put_none, List.set_cons_succ, List.set_cons_zero, List.getD_cons_succ, List.getD_cons_zero]; done))))
    exact AW_ret ⟨_, rfl, w, hw, hw2, rfl⟩
end
end PK

/- Package root as code of the abstract machine. -/
namespace PK
open Go PAbs

noncomputable def c_root_Primes : AFn := AFn.mk 41 [.tmp 2, .tmp 3]
  (.seq (.region
      [⟨some 2, .mv (.k (.c (.snil))), none⟩,
        ⟨some 3, .mv (.k (.c (.int .i64 0))), none⟩])
  (.seq (.seq (.region
        [⟨some 8, .mv (.t 0), none⟩,
          ⟨some 9, .bin .lss (.t 8) (.k (.c (.int .i64 0))), none⟩,
          ⟨some 10, .mv (.t 9), none⟩,
          ⟨some 11, .mv (.t 0), some (10, false)⟩,
          ⟨some 12, .bin .gtr (.t 11) (.k (.c (.int .i64 1000))), some (10, false)⟩,
          ⟨some 13, .pick (.t 10) (.k (.c (.bool true))) (.t 12), none⟩])
    (.cond (.t 13)
      (.seq (.region
          [⟨some 2, .mv (.k (.c (.snil))), none⟩,
            ⟨some 3, .mv (.k (.c (.int .i64 1))), none⟩])
      (.ret))
      (.skip)))
  (.seq (.region
      [⟨some 4, .mv (.k (.c (.snil))), none⟩])
  (.seq (.skip)
  (.seq (.seq (.region
        [⟨some 5, .mv (.k (.c (.int .i64 2))), none⟩])
    (.block 0
      (.loop
        (.seq (.seq (.region
              [⟨some 14, .mv (.t 4), none⟩,
                ⟨some 15, .len false (.t 14), none⟩,
                ⟨some 16, .mv (.t 0), none⟩,
                ⟨some 17, .bin .lss (.t 15) (.t 16), none⟩])
          (.cond (.t 17)
            (.skip)
            (.exit 0)))
        (.seq (.block 1
            (.seq (.seq (.region
                  [⟨some 20, .mv (.t 4), none⟩,
                    ⟨some 21, .len false (.t 20), none⟩,
                    ⟨some 22, .mv (.k (.c (.int .i64 0))), none⟩])
              (.block 2
                (.loop
                  (.seq (.region
                      [⟨some 23, .bin .lss (.t 22) (.t 21), none⟩])
                  (.seq (.cond (.t 23)
                      (.skip)
                      (.exit 2))
                  (.seq (.block 3
                      (.seq (.region
                          [⟨some 24, .idxSlc 1 (.t 20) (.t 22), none⟩,
                            ⟨some 25, .load1 (.t 24), none⟩,
                            ⟨some 7, .mv (.t 25), none⟩])
                      (.seq (.seq (.region
                            [⟨some 26, .mv (.t 7), none⟩,
                              ⟨some 27, .mv (.t 7), none⟩,
                              ⟨some 28, .bin .mul (.t 26) (.t 27), none⟩,
                              ⟨some 29, .mv (.t 5), none⟩,
                              ⟨some 30, .bin .gtr (.t 28) (.t 29), none⟩])
                        (.cond (.t 30)
                          (.exit 2)
                          (.skip)))
                      (.seq (.region
                          [⟨some 31, .mv (.t 5), none⟩,
                            ⟨some 32, .mv (.t 7), none⟩,
                            ⟨some 33, .bin .rem (.t 31) (.t 32), none⟩,
                            ⟨some 34, .bin .eql (.t 33) (.k (.c (.int .i64 0))), none⟩])
                      (.cond (.t 34)
                        (.exit 1)
                        (.skip))))))
                  (.region
                    [⟨some 35, .bin .add (.t 22) (.k (.c (.int .i64 1))), none⟩,
                      ⟨some 22, .mv (.t 35), none⟩])))))))
            (.region
              [⟨some 36, .mv (.t 4), none⟩,
                ⟨some 37, .mv (.t 5), none⟩,
                ⟨some 38, .buildSlice ([.int .i64 0]) 1 1 [(0, 1, .t 37)], none⟩,
                ⟨some 39, .append ([.int .i64 0]) 8 (.t 36) (.t 38), none⟩,
                ⟨some 4, .mv (.t 39), none⟩])))
        (.region
          [⟨some 18, .mv (.t 5), none⟩,
            ⟨some 19, .bin .add (.t 18) (.k (.c (.int .i64 1))), none⟩,
            ⟨some 5, .mv (.t 19), none⟩]))))))
  (.seq (.region
      [⟨some 40, .mv (.t 4), none⟩,
        ⟨some 2, .mv (.t 40), none⟩,
        ⟨some 3, .mv (.k (.c (.int .i64 0))), none⟩])
  (.ret)))))))
theorem t_root_Primes : A F_root_Primes = some c_root_Primes := by kernel_rfl

noncomputable def c_root_Square : AFn := AFn.mk 47 [.tmp 2, .tmp 3]
  (.seq (.region
      [⟨some 2, .mv (.k (.c (.int .u64 0))), none⟩,
        ⟨some 3, .mv (.k (.c (.int .i64 0))), none⟩])
  (.seq (.seq (.region
        [⟨some 10, .mv (.t 0), none⟩,
          ⟨some 11, .bin .lss (.t 10) (.k (.c (.int .i64 0))), none⟩,
          ⟨some 12, .mv (.t 11), none⟩,
          ⟨some 13, .mv (.t 0), some (12, false)⟩,
          ⟨some 14, .bin .gtr (.t 13) (.k (.c (.int .i64 1048576))), some (12, false)⟩,
          ⟨some 15, .pick (.t 12) (.k (.c (.bool true))) (.t 14), none⟩])
    (.cond (.t 15)
      (.seq (.region
          [⟨some 2, .mv (.k (.c (.int .u64 0))), none⟩,
            ⟨some 3, .mv (.k (.c (.int .i64 1))), none⟩])
      (.ret))
      (.skip)))
  (.seq (.region
      [⟨some 16, .mv (.t 0), none⟩,
        ⟨some 17, .convInt .u64 (.t 16), none⟩,
        ⟨some 18, .call F_root_whole [.t 17], none⟩,
        ⟨some 4, .mv (.t 18), none⟩])
  (.seq (.region
      [⟨some 19, .mv (.t 4), none⟩,
        ⟨some 20, .build ([.int .u64 0, .int .u64 0]) [(0, 1, .k (.c (.int .u64 0))), (1, 1, .t 19)], none⟩,
        ⟨some 5, .alloc ([.int .u64 0, .int .u64 0]), none⟩,
        ⟨none, .store 2 (.t 5) (.t 20), none⟩])
  (.seq (.region
      [⟨some 21, .mv (.t 0), none⟩,
        ⟨some 22, .convInt .u64 (.t 21), none⟩,
        ⟨some 23, .mv (.t 4), none⟩,
        ⟨some 24, .mv (.t 4), none⟩,
        ⟨some 25, .bin .mul (.t 23) (.t 24), none⟩,
        ⟨some 26, .bin .sub (.t 22) (.t 25), none⟩,
        ⟨some 27, .build ([.int .u64 0, .int .u64 0]) [(0, 1, .k (.c (.int .u64 0))), (1, 1, .t 26)], none⟩,
        ⟨some 6, .alloc ([.int .u64 0, .int .u64 0]), none⟩,
        ⟨none, .store 2 (.t 6) (.t 27), none⟩])
  (.seq (.seq (.region
        [⟨some 28, .mv (.k (.c (.int .i64 0))), none⟩])
    (.block 0
      (.loop
        (.seq (.region
            [⟨some 29, .bin .lss (.t 28) (.k (.c (.int .i64 64))), none⟩])
        (.seq (.cond (.t 29)
            (.skip)
            (.exit 0))
        (.seq (.block 1
            (.seq (.region
                [⟨some 30, .loadN 2 (.t 6), none⟩,
                  ⟨some 31, .call F_root_wide_twice [.t 30, .k (.c (.int .u64 2)), .k (.c (.int .u64 0))], none⟩,
                  ⟨none, .store 2 (.t 6) (.t 31), none⟩])
            (.seq (.drawA ([.int .u64 0, .int .u64 0]) 7 7
                [⟨some 33, .loadN 2 (.t 6), none⟩,
                  ⟨some 34, .loadN 2 (.t 5), none⟩,
                  ⟨some 35, .call F_root_wide_twice [.t 34, .k (.c (.int .u64 2)), .k (.c (.int .u64 1))], none⟩,
                  ⟨some 36, .call F_root_wide_less [.t 33, .t 35], none⟩,
                  ⟨some 32, .mv (.t 36), none⟩,
                  ⟨some 37, .extract (.t 32) 0, none⟩,
                  ⟨some 38, .extract (.t 32) 1, none⟩,
                  ⟨some 7, .alloc ([.int .u64 0, .int .u64 0]), none⟩,
                  ⟨none, .store 2 (.t 7) (.t 37), none⟩,
                  ⟨some 8, .mv (.t 38), none⟩]
                8)
            (.seq (.region
                [⟨some 9, .mv (.k (.c (.int .u64 0))), none⟩])
            (.seq (.seq (.region
                  [⟨some 39, .mv (.t 8), none⟩])
              (.cond (.t 39)
                (.region
                  [⟨some 40, .loadN 2 (.t 7), none⟩,
                    ⟨none, .store 2 (.t 6) (.t 40), none⟩,
                    ⟨some 9, .mv (.k (.c (.int .u64 1))), none⟩])
                (.skip)))
            (.region
              [⟨some 41, .loadN 2 (.t 5), none⟩,
                ⟨some 42, .mv (.t 9), none⟩,
                ⟨some 43, .call F_root_wide_twice [.t 41, .k (.c (.int .u64 1)), .t 42], none⟩,
                ⟨none, .store 2 (.t 5) (.t 43), none⟩]))))))
        (.region
          [⟨some 44, .bin .add (.t 28) (.k (.c (.int .i64 1))), none⟩,
            ⟨some 28, .mv (.t 44), none⟩])))))))
  (.seq (.region
      [⟨some 45, .fieldAddr 1 (.t 5), none⟩,
        ⟨some 46, .load1 (.t 45), none⟩,
        ⟨some 2, .mv (.t 46), none⟩,
        ⟨some 3, .mv (.k (.c (.int .i64 0))), none⟩])
  (.ret))))))))
theorem t_root_Square : A F_root_Square = some c_root_Square := by kernel_rfl

noncomputable def c_root_Cube : AFn := AFn.mk 49 [.tmp 2, .tmp 3]
  (.seq (.region
      [⟨some 2, .mv (.k (.c (.int .u32 0))), none⟩,
        ⟨some 3, .mv (.k (.c (.int .i64 0))), none⟩])
  (.seq (.seq (.region
        [⟨some 11, .mv (.t 0), none⟩,
          ⟨some 12, .bin .lss (.t 11) (.k (.c (.int .i64 0))), none⟩,
          ⟨some 13, .mv (.t 12), none⟩,
          ⟨some 14, .mv (.t 0), some (13, false)⟩,
          ⟨some 15, .bin .gtr (.t 14) (.k (.c (.int .i64 1048576))), some (13, false)⟩,
          ⟨some 16, .pick (.t 13) (.k (.c (.bool true))) (.t 15), none⟩])
    (.cond (.t 16)
      (.seq (.region
          [⟨some 2, .mv (.k (.c (.int .u32 0))), none⟩,
            ⟨some 3, .mv (.k (.c (.int .i64 1))), none⟩])
      (.ret))
      (.skip)))
  (.seq (.region
      [⟨some 17, .mv (.t 0), none⟩,
        ⟨some 18, .convInt .u64 (.t 17), none⟩,
        ⟨some 19, .bin .shl (.t 18) (.k (.c (.int .u64 32))), none⟩,
        ⟨some 20, .build ([.int .u64 0, .int .u64 0]) [(0, 1, .t 19), (1, 1, .k (.c (.int .u64 0)))], none⟩,
        ⟨some 4, .alloc ([.int .u64 0, .int .u64 0]), none⟩,
        ⟨none, .store 2 (.t 4) (.t 20), none⟩])
  (.seq (.region
      [⟨some 5, .mv (.k (.c (.int .u64 0))), none⟩])
  (.seq (.seq (.region
        [⟨some 6, .mv (.k (.c (.int .i64 40))), none⟩])
    (.block 0
      (.loop
        (.seq (.seq (.region
              [⟨some 21, .mv (.t 6), none⟩,
                ⟨some 22, .bin .geq (.t 21) (.k (.c (.int .i64 0))), none⟩])
          (.cond (.t 22)
            (.skip)
            (.exit 0)))
        (.seq (.block 1
            (.seq (.region
                [⟨some 26, .mv (.t 5), none⟩,
                  ⟨some 27, .mv (.t 6), none⟩,
                  ⟨some 28, .bin .shl (.k (.c (.int .u64 1))) (.t 27), none⟩,
                  ⟨some 29, .bin .or (.t 26) (.t 28), none⟩,
                  ⟨some 30, .call F_root_cube [.t 29], none⟩,
                  ⟨some 25, .mv (.t 30), none⟩,
                  ⟨some 31, .extract (.t 25) 0, none⟩,
                  ⟨some 32, .extract (.t 25) 1, none⟩,
                  ⟨some 7, .alloc ([.int .u64 0, .int .u64 0]), none⟩,
                  ⟨none, .store 2 (.t 7) (.t 31), none⟩,
                  ⟨some 8, .mv (.t 32), none⟩])
            (.seq (.region
                [⟨some 34, .loadN 2 (.t 4), none⟩,
                  ⟨some 35, .loadN 2 (.t 7), none⟩,
                  ⟨some 36, .call F_root_wide_less [.t 34, .t 35], none⟩,
                  ⟨some 33, .mv (.t 36), none⟩,
                  ⟨some 37, .extract (.t 33) 0, none⟩,
                  ⟨some 38, .extract (.t 33) 1, none⟩,
                  ⟨some 9, .alloc ([.int .u64 0, .int .u64 0]), none⟩,
                  ⟨none, .store 2 (.t 9) (.t 37), none⟩,
                  ⟨some 10, .mv (.t 38), none⟩])
            (.seq (.region
                [⟨some 39, .mv (.t 8), none⟩,
                  ⟨some 40, .mv (.t 39), none⟩,
                  ⟨some 41, .mv (.t 10), some (40, true)⟩,
                  ⟨some 42, .pick (.t 40) (.t 41) (.k (.c (.bool false))), none⟩])
            (.cond (.t 42)
              (.region
                [⟨some 43, .mv (.t 5), none⟩,
                  ⟨some 44, .mv (.t 6), none⟩,
                  ⟨some 45, .bin .shl (.k (.c (.int .u64 1))) (.t 44), none⟩,
                  ⟨some 46, .bin .or (.t 43) (.t 45), none⟩,
                  ⟨some 5, .mv (.t 46), none⟩])
              (.skip))))))
        (.region
          [⟨some 23, .mv (.t 6), none⟩,
            ⟨some 24, .bin .sub (.t 23) (.k (.c (.int .i64 1))), none⟩,
            ⟨some 6, .mv (.t 24), none⟩]))))))
  (.seq (.region
      [⟨some 47, .mv (.t 5), none⟩,
        ⟨some 48, .convInt .u32 (.t 47), none⟩,
        ⟨some 2, .mv (.t 48), none⟩,
        ⟨some 3, .mv (.k (.c (.int .i64 0))), none⟩])
  (.ret)))))))
theorem t_root_Cube : A F_root_Cube = some c_root_Cube := by kernel_rfl

noncomputable def c_root_whole : AFn := AFn.mk 14 [.tmp 2]
  (.seq (.region
      [⟨some 2, .mv (.k (.c (.int .u64 0))), none⟩])
  (.seq (.region
      [⟨some 3, .mv (.k (.c (.int .u64 0))), none⟩])
  (.seq (.block 0
      (.loop
        (.seq (.seq (.region
              [⟨some 4, .mv (.t 3), none⟩,
                ⟨some 5, .bin .add (.t 4) (.k (.c (.int .u64 1))), none⟩,
                ⟨some 6, .mv (.t 3), none⟩,
                ⟨some 7, .bin .add (.t 6) (.k (.c (.int .u64 1))), none⟩,
                ⟨some 8, .bin .mul (.t 5) (.t 7), none⟩,
                ⟨some 9, .mv (.t 0), none⟩,
                ⟨some 10, .bin .leq (.t 8) (.t 9), none⟩])
          (.cond (.t 10)
            (.skip)
            (.exit 0)))
        (.block 1
          (.region
            [⟨some 11, .mv (.t 3), none⟩,
              ⟨some 12, .bin .add (.t 11) (.k (.c (.int .u64 1))), none⟩,
              ⟨some 3, .mv (.t 12), none⟩])))))
  (.seq (.region
      [⟨some 13, .mv (.t 3), none⟩,
        ⟨some 2, .mv (.t 13), none⟩])
  (.ret)))))
theorem t_root_whole : A F_root_whole = some c_root_whole := by kernel_rfl

noncomputable def c_root_wide_twice : AFn := AFn.mk 24 [.cellN 6 2]
  (.seq (.region
      [⟨some 3, .box (.t 0), none⟩,
        ⟨some 6, .alloc ([.int .u64 0, .int .u64 0]), none⟩])
  (.seq (.region
      [⟨some 7, .fieldAddr 0 (.t 3), none⟩,
        ⟨some 8, .load1 (.t 7), none⟩,
        ⟨some 9, .mv (.t 1), none⟩,
        ⟨some 10, .bin .shl (.t 8) (.t 9), none⟩,
        ⟨some 11, .fieldAddr 1 (.t 3), none⟩,
        ⟨some 12, .load1 (.t 11), none⟩,
        ⟨some 13, .mv (.t 1), none⟩,
        ⟨some 14, .bin .sub (.k (.c (.int .u64 64))) (.t 13), none⟩,
        ⟨some 15, .bin .shr (.t 12) (.t 14), none⟩,
        ⟨some 16, .bin .or (.t 10) (.t 15), none⟩,
        ⟨some 17, .fieldAddr 1 (.t 3), none⟩,
        ⟨some 18, .load1 (.t 17), none⟩,
        ⟨some 19, .mv (.t 1), none⟩,
        ⟨some 20, .bin .shl (.t 18) (.t 19), none⟩,
        ⟨some 21, .mv (.t 2), none⟩,
        ⟨some 22, .bin .or (.t 20) (.t 21), none⟩,
        ⟨some 23, .build ([.int .u64 0, .int .u64 0]) [(0, 1, .t 16), (1, 1, .t 22)], none⟩,
        ⟨none, .store 2 (.t 6) (.t 23), none⟩])
  (.ret)))
theorem t_root_wide_twice : A F_root_wide_twice = some c_root_wide_twice := by kernel_rfl

noncomputable def c_root_wide_less : AFn := AFn.mk 33 [.cellN 4 2, .tmp 5]
  (.seq (.region
      [⟨some 2, .box (.t 0), none⟩,
        ⟨some 3, .box (.t 1), none⟩,
        ⟨some 4, .alloc ([.int .u64 0, .int .u64 0]), none⟩,
        ⟨some 5, .mv (.k (.c (.bool false))), none⟩])
  (.seq (.region
      [⟨some 11, .fieldAddr 1 (.t 2), none⟩,
        ⟨some 12, .load1 (.t 11), none⟩,
        ⟨some 13, .fieldAddr 1 (.t 3), none⟩,
        ⟨some 14, .load1 (.t 13), none⟩,
        ⟨some 15, .carry true (.t 12) (.t 14) (.k (.c (.int .u64 0))), none⟩,
        ⟨some 10, .mv (.t 15), none⟩,
        ⟨some 16, .extract (.t 10) 0, none⟩,
        ⟨some 17, .extract (.t 10) 1, none⟩,
        ⟨some 6, .mv (.t 16), none⟩,
        ⟨some 7, .mv (.t 17), none⟩])
  (.seq (.region
      [⟨some 19, .fieldAddr 0 (.t 2), none⟩,
        ⟨some 20, .load1 (.t 19), none⟩,
        ⟨some 21, .fieldAddr 0 (.t 3), none⟩,
        ⟨some 22, .load1 (.t 21), none⟩,
        ⟨some 23, .mv (.t 7), none⟩,
        ⟨some 24, .carry true (.t 20) (.t 22) (.t 23), none⟩,
        ⟨some 18, .mv (.t 24), none⟩,
        ⟨some 25, .extract (.t 18) 0, none⟩,
        ⟨some 26, .extract (.t 18) 1, none⟩,
        ⟨some 8, .mv (.t 25), none⟩,
        ⟨some 9, .mv (.t 26), none⟩])
  (.seq (.seq (.region
        [⟨some 27, .mv (.t 9), none⟩,
          ⟨some 28, .bin .gtr (.t 27) (.k (.c (.int .u64 0))), none⟩])
    (.cond (.t 28)
      (.seq (.region
          [⟨some 29, .loadN 2 (.t 2), none⟩,
            ⟨none, .store 2 (.t 4) (.t 29), none⟩,
            ⟨some 5, .mv (.k (.c (.bool false))), none⟩])
      (.ret))
      (.skip)))
  (.seq (.region
      [⟨some 30, .mv (.t 8), none⟩,
        ⟨some 31, .mv (.t 6), none⟩,
        ⟨some 32, .build ([.int .u64 0, .int .u64 0]) [(0, 1, .t 30), (1, 1, .t 31)], none⟩,
        ⟨none, .store 2 (.t 4) (.t 32), none⟩,
        ⟨some 5, .mv (.k (.c (.bool true))), none⟩])
  (.ret))))))
theorem t_root_wide_less : A F_root_wide_less = some c_root_wide_less := by kernel_rfl

noncomputable def c_root_cube : AFn := AFn.mk 45 [.cellN 2 2, .tmp 3]
  (.seq (.region
      [⟨some 2, .alloc ([.int .u64 0, .int .u64 0]), none⟩,
        ⟨some 3, .mv (.k (.c (.bool false))), none⟩])
  (.seq (.region
      [⟨some 13, .mv (.t 0), none⟩,
        ⟨some 14, .mv (.t 0), none⟩,
        ⟨some 15, .call F_math_bits_Mul64 [.t 13, .t 14], none⟩,
        ⟨some 12, .mv (.t 15), none⟩,
        ⟨some 16, .extract (.t 12) 0, none⟩,
        ⟨some 17, .extract (.t 12) 1, none⟩,
        ⟨some 4, .mv (.t 16), none⟩,
        ⟨some 5, .mv (.t 17), none⟩])
  (.seq (.region
      [⟨some 19, .mv (.t 5), none⟩,
        ⟨some 20, .mv (.t 0), none⟩,
        ⟨some 21, .call F_math_bits_Mul64 [.t 19, .t 20], none⟩,
        ⟨some 18, .mv (.t 21), none⟩,
        ⟨some 22, .extract (.t 18) 0, none⟩,
        ⟨some 23, .extract (.t 18) 1, none⟩,
        ⟨some 6, .mv (.t 22), none⟩,
        ⟨some 7, .mv (.t 23), none⟩])
  (.seq (.region
      [⟨some 25, .mv (.t 4), none⟩,
        ⟨some 26, .mv (.t 0), none⟩,
        ⟨some 27, .call F_math_bits_Mul64 [.t 25, .t 26], none⟩,
        ⟨some 24, .mv (.t 27), none⟩,
        ⟨some 28, .extract (.t 24) 0, none⟩,
        ⟨some 29, .extract (.t 24) 1, none⟩,
        ⟨some 8, .mv (.t 28), none⟩,
        ⟨some 9, .mv (.t 29), none⟩])
  (.seq (.region
      [⟨some 31, .mv (.t 6), none⟩,
        ⟨some 32, .mv (.t 9), none⟩,
        ⟨some 33, .carry false (.t 31) (.t 32) (.k (.c (.int .u64 0))), none⟩,
        ⟨some 30, .mv (.t 33), none⟩,
        ⟨some 34, .extract (.t 30) 0, none⟩,
        ⟨some 35, .extract (.t 30) 1, none⟩,
        ⟨some 10, .mv (.t 34), none⟩,
        ⟨some 11, .mv (.t 35), none⟩])
  (.seq (.region
      [⟨some 36, .mv (.t 10), none⟩,
        ⟨some 37, .mv (.t 7), none⟩,
        ⟨some 38, .build ([.int .u64 0, .int .u64 0]) [(0, 1, .t 36), (1, 1, .t 37)], none⟩,
        ⟨some 39, .mv (.t 8), none⟩,
        ⟨some 40, .bin .eql (.t 39) (.k (.c (.int .u64 0))), none⟩,
        ⟨some 41, .mv (.t 40), none⟩,
        ⟨some 42, .mv (.t 11), some (41, true)⟩,
        ⟨some 43, .bin .eql (.t 42) (.k (.c (.int .u64 0))), some (41, true)⟩,
        ⟨some 44, .pick (.t 41) (.t 43) (.k (.c (.bool false))), none⟩,
        ⟨none, .store 2 (.t 2) (.t 38), none⟩,
        ⟨some 3, .mv (.t 44), none⟩])
  (.ret)))))))
theorem t_root_cube : A F_root_cube = some c_root_cube := by kernel_rfl
end PK

/- Package math as code of the abstract machine. -/
namespace PK
open Go PAbs

noncomputable def c_math_bits_Mul64 : AFn := AFn.mk 51 [.tmp 4, .tmp 5]
  (.seq (.region
      [⟨some 4, .mv (.k (.c (.int .u64 0))), none⟩,
        ⟨some 5, .mv (.k (.c (.int .u64 0))), none⟩])
  (.seq (.region
      [⟨some 14, .mv (.t 0), none⟩,
        ⟨some 15, .bin .and (.t 14) (.k (.c (.int .u64 4294967295))), none⟩,
        ⟨some 6, .mv (.t 15), none⟩])
  (.seq (.region
      [⟨some 16, .mv (.t 0), none⟩,
        ⟨some 17, .bin .shr (.t 16) (.k (.c (.int .u64 32))), none⟩,
        ⟨some 7, .mv (.t 17), none⟩])
  (.seq (.region
      [⟨some 18, .mv (.t 1), none⟩,
        ⟨some 19, .bin .and (.t 18) (.k (.c (.int .u64 4294967295))), none⟩,
        ⟨some 8, .mv (.t 19), none⟩])
  (.seq (.region
      [⟨some 20, .mv (.t 1), none⟩,
        ⟨some 21, .bin .shr (.t 20) (.k (.c (.int .u64 32))), none⟩,
        ⟨some 9, .mv (.t 21), none⟩])
  (.seq (.region
      [⟨some 22, .mv (.t 6), none⟩,
        ⟨some 23, .mv (.t 8), none⟩,
        ⟨some 24, .bin .mul (.t 22) (.t 23), none⟩,
        ⟨some 10, .mv (.t 24), none⟩])
  (.seq (.region
      [⟨some 25, .mv (.t 7), none⟩,
        ⟨some 26, .mv (.t 8), none⟩,
        ⟨some 27, .bin .mul (.t 25) (.t 26), none⟩,
        ⟨some 28, .mv (.t 10), none⟩,
        ⟨some 29, .bin .shr (.t 28) (.k (.c (.int .u64 32))), none⟩,
        ⟨some 30, .bin .add (.t 27) (.t 29), none⟩,
        ⟨some 11, .mv (.t 30), none⟩])
  (.seq (.region
      [⟨some 31, .mv (.t 11), none⟩,
        ⟨some 32, .bin .and (.t 31) (.k (.c (.int .u64 4294967295))), none⟩,
        ⟨some 12, .mv (.t 32), none⟩])
  (.seq (.region
      [⟨some 33, .mv (.t 11), none⟩,
        ⟨some 34, .bin .shr (.t 33) (.k (.c (.int .u64 32))), none⟩,
        ⟨some 13, .mv (.t 34), none⟩])
  (.seq (.region
      [⟨some 35, .mv (.t 12), none⟩,
        ⟨some 36, .mv (.t 6), none⟩,
        ⟨some 37, .mv (.t 9), none⟩,
        ⟨some 38, .bin .mul (.t 36) (.t 37), none⟩,
        ⟨some 39, .bin .add (.t 35) (.t 38), none⟩,
        ⟨some 12, .mv (.t 39), none⟩])
  (.seq (.region
      [⟨some 40, .mv (.t 7), none⟩,
        ⟨some 41, .mv (.t 9), none⟩,
        ⟨some 42, .bin .mul (.t 40) (.t 41), none⟩,
        ⟨some 43, .mv (.t 13), none⟩,
        ⟨some 44, .bin .add (.t 42) (.t 43), none⟩,
        ⟨some 45, .mv (.t 12), none⟩,
        ⟨some 46, .bin .shr (.t 45) (.k (.c (.int .u64 32))), none⟩,
        ⟨some 47, .bin .add (.t 44) (.t 46), none⟩,
        ⟨some 4, .mv (.t 47), none⟩])
  (.seq (.region
      [⟨some 48, .mv (.t 0), none⟩,
        ⟨some 49, .mv (.t 1), none⟩,
        ⟨some 50, .bin .mul (.t 48) (.t 49), none⟩,
        ⟨some 5, .mv (.t 50), none⟩])
  (.ret)))))))))))))
theorem t_math_bits_Mul64 : A F_math_bits_Mul64 = some c_math_bits_Mul64 := by kernel_rfl
end PK

/- Package root: numbers of 128 bits; whole; walked. -/
namespace PK
open Go PAbs
set_option linter.unusedSimpArgs false
set_option linter.unusedVariables false
set_option maxRecDepth 100000
set_option maxHeartbeats 2000000

/-- a number of 128 bits as cells -/
def wd (W : Nat) : List Cell := [.int .u64 ((W / 18446744073709551616 : Nat) : Int), .int .u64 ((W % 18446744073709551616 : Nat) : Int)]

theorem twice_nums (W k more : Nat) (hk : k = 1 ∨ k = 2) (hW : W * 2 ^ k < 340282366920938463463374607431768211456) (hm : more < 2 ^ k) :
    shlA .u64 ((W / 18446744073709551616 : Nat) : Int) (k : Int) = ((W / 18446744073709551616 * 2 ^ k : Nat) : Int) ∧
    IntKind.u64.wrap (64 - (k : Int)) = ((64 - k : Nat) : Int) ∧
    shrA .u64 ((W % 18446744073709551616 : Nat) : Int) ((64 - k : Nat) : Int) = ((W % 18446744073709551616 / 2 ^ (64 - k) : Nat) : Int) ∧
    bitsA .or .u64 ((W / 18446744073709551616 * 2 ^ k : Nat) : Int) ((W % 18446744073709551616 / 2 ^ (64 - k) : Nat) : Int) = (((W * 2 ^ k + more) / 18446744073709551616 : Nat) : Int) ∧
    shlA .u64 ((W % 18446744073709551616 : Nat) : Int) (k : Int) = ((W % 18446744073709551616 % 2 ^ (64 - k) * 2 ^ k : Nat) : Int) ∧
    bitsA .or .u64 ((W % 18446744073709551616 % 2 ^ (64 - k) * 2 ^ k : Nat) : Int) (more : Int) = (((W * 2 ^ k + more) % 18446744073709551616 : Nat) : Int) := by
  have hk2 : k ≤ IntKind.u64.bits := by rcases hk with rfl | rfl <;> decide
  have b1 : W / 18446744073709551616 * 2 ^ k < 2 ^ IntKind.u64.bits := by
    show _ < 18446744073709551616
    rcases hk with rfl | rfl <;> omega
  have b2 : W % 18446744073709551616 / 2 ^ (64 - k) < 2 ^ k := by rcases hk with rfl | rfl <;> omega
  have b3 : W % 18446744073709551616 % 2 ^ (64 - k) * 2 ^ k < 2 ^ IntKind.u64.bits := by
    show _ < 18446744073709551616
    rcases hk with rfl | rfl <;> omega
  have b4 : (2 : Nat) ^ k < 2 ^ IntKind.u64.bits := by rcases hk with rfl | rfl <;> decide
  refine ⟨?_, ?_, shr_n (by rcases hk with rfl | rfl <;> decide), ?_, ?_, ?_⟩
  · rw [shl_n rfl hk2, Nat.mod_eq_of_lt b1]
  · rw [u64_of (by omega) (by omega)]; omega
  · rw [or_n rfl b1 (by omega), or_add _ b2]
    rcases hk with rfl | rfl <;> (congr 1; omega)
  · rw [shl_n rfl hk2]
    show ((_ % 18446744073709551616 : Nat) : Int) = _
    rcases hk with rfl | rfl <;> (congr 1; omega)
  · rw [or_n rfl b3 (by omega), or_add _ hm]
    rcases hk with rfl | rfl <;> (congr 1; omega)

section
variable (H : AHeap)
theorem AC_twice (W k more : Nat) (hk : k = 1 ∨ k = 2) (hW : W * 2 ^ k < 340282366920938463463374607431768211456) (hm : more < 2 ^ k) :
    AC A H.length F_root_wide_twice [.agg (wd W), .c (.int .u64 (k : Int)), .c (.int .u64 (more : Int))] H (fun v H' => v = .agg (wd (W * 2 ^ k + more))) := by
  obtain ⟨g1, g2, g3, g4, g5, g6⟩ := twice_nums W k more hk hW hm
  have ew : wd (W * 2 ^ k + more) = [.int .u64 (((W * 2 ^ k + more) / 18446744073709551616 : Nat) : Int), .int .u64 (((W * 2 ^ k + more) % 18446744073709551616 : Nat) : Int)] := rfl
  rw [ew]
  generalize (W * 2 ^ k + more) / 18446744073709551616 = a at *
  generalize (W * 2 ^ k + more) % 18446744073709551616 = b at *
  refine AC_enter t_root_wide_twice ?_; simp only [c_root_wide_twice, enterA, List.replicate, List.length_cons, List.length_nil, Nat.reduceAdd, Nat.reduceSub, List.cons_append, List.nil_append]
  (repeat (first | with_reducible refine thenQ_n ?_ | with_reducible refine blockQ_n ?_ | with_reducible refine thenQ_e ?_ | with_reducible refine thenQ_r ?_ | with_reducible refine blockQ_r ?_ | with_reducible refine blockQ_s ?_ | with_reducible refine blockQ_o rfl ?_ | refine AW_skip ?_ | refine AW_seq ?_ | refine AW_ops ?_ | refine AW_blockS ?_ | refine AW_blockR ?_ | refine AW_blockD ?_ | refine AW_blockC ?_ | refine AO_nil ?_ | refine AW_draw ?_ | (refine AW_drawA ?_; simp only [atBlk, List.set_cons_succ, List.set_cons_zero, List.take_succ_cons, List.take_zero, List.drop_succ_cons, List.drop_zero]) | refine AHd_nil ?_ | with_reducible refine AP_at ?_ | with_reducible refine AHP_at ?_ | ((first | with_reducible apply AO_any | with_reducible apply AHd_any | with_reducible apply AP_go | with_reducible apply AHP_go); focus (simp only [List.take_succ_cons, List.take_zero, List.drop_succ_cons, List.drop_zero, bne_self_eq_false, List.map_cons, List.map_nil, Bool.true_beq, Bool.false_beq, run_nil, run_cons, run_gate, cont_some, gate_true, gate_false, hrun_nil, hrun_cons, hrun_gate, hcont_some, hgate_true, hgate_false, put_some, put_none, ev_t, ev_k, wantedA, execA, stepA, List.set_cons_succ, List.set_cons_zero, List.getD_cons_succ, List.getD_cons_zero, List.getElem?_cons_zero, List.getElem?_cons_succ, if_true, if_false, binA, binInt, unA, eqA, Option.map, eq_self, true_or, or_true, true_and, and_true, and_self, beq_self_eq_true, Bool.not_true, Bool.not_false, reduceCtorEq, Bool.false_eq_true, ite_true, ite_false, fitsAll, CK.fits, decide_true, Bool.and_true, Bool.true_and, fillA, AV.cells, writeN, sliceCells, appendA, lenA, i64, loA, hiA, hcells_last, hown_last, List.take_zero, List.drop_zero, List.nil_append, List.cons_append, List.append_nil, List.take_nil, List.drop_nil, List.length_cons, List.length_nil, List.length_append, Nat.zero_add, Nat.add_zero, Nat.reduceAdd, Nat.reduceMul, Nat.reduceDiv, Nat.reduceSub, Nat.mul_one, Nat.one_mul, Nat.div_one, Nat.le_refl, Nat.reduceLeDiff, Nat.reduceLT, Int.toNat_natCast, Int.toNat_zero, Nat.zero_le, Int.natCast_nonneg, Int.reduceLE, Int.reduceLT, Option.some.injEq, foldA, maxA, minA, Cell.int.injEq, AV.c.injEq, pre_nil, pre_cons, pre_gate, pre1_cons, pre1_gate, qstop_true, qstop_false, qstopg_false, qgate_true, qgate_false, pcont_some, pstop_true, pstop_false, pstopg_false, pgate_true, pgate_false, hpre_nil, hpre_cons, hpre_gate, hpre1_cons, hpre1_gate, hqstop_true, hqstop_false, hqstopg_false, hqgate_true, hqgate_false, hpcont_some, hpstop_true, hpstop_false, hpstopg_false, hpgate_true, hpgate_false, Int.reduceBEq, Int.reduceBNe, Int.reduceGT, Int.reduceGE, Int.reduceEq, Int.reduceNe, decide_false, nat_0, nat_1, nat_2, nat_3, nat_4, nat_8, nat_16, nat_64, nat_128, Int.reduceToNat, AOp.stops, pre1_nil, hpre1_nil, ↓want_eq, wantV_bool, wantV_undef, ↓exec_lenX, lenX_snil, lenX_slc, ↓exec_storeX, ↓exec_storeN, storeN_one, ↓exec_bsX, ↓exec_sliceX, ↓exec_copyX, ↓exec_appNil, ↓exec_carryX, Nat.sub_zero, Nat.reduceLT, rep_len]; with_reducible first | exact EqP.at_ | exact EqP.cont | exact EqP.hcont | exact EqP.gate | exact EqP.hgate)) | ((first | refine AW_ift ?_ ?_ | fail); focus (simp only [ev_t, put_some, put_none, List.set_cons_succ, List.set_cons_zero, List.getD_cons_succ, List.getD_cons_zero]; done)) | ((first | refine AW_iff ?_ ?_ | fail); focus (simp only [ev_t, put_some, put_none, List.set_cons_succ, List.set_cons_zero, List.getD_cons_succ, List.getD_cons_zero]; done))))
  have o3 : hown (H ++ [Blk.own (wd W)] ++ [Blk.own [Cell.int .u64 0, Cell.int .u64 0]]) H.length = some (wd W) := hown_app hown_last
  have o6 : hown (H ++ [Blk.own (wd W)] ++ [Blk.own [Cell.int .u64 0, Cell.int .u64 0]]) (H.length + 1) = some [Cell.int .u64 0, Cell.int .u64 0] := by
    have := hown_last (H := H ++ [Blk.own (wd W)]) (cs := [Cell.int .u64 0, Cell.int .u64 0]); simpa using this
  generalize H ++ [Blk.own (wd W)] ++ [Blk.own [Cell.int .u64 0, Cell.int .u64 0]] = H1 at *
  have hc3 := hcells_own o3
  unfold wd at hc3
  have n1 : ¬ ((k : Int) < 0) := by omega
  have n2 : ¬ (((64 - k : Nat) : Int) < 0) := by omega
  (repeat (first | with_reducible refine thenQ_n ?_ | with_reducible refine blockQ_n ?_ | with_reducible refine thenQ_e ?_ | with_reducible refine thenQ_r ?_ | with_reducible refine blockQ_r ?_ | with_reducible refine blockQ_s ?_ | with_reducible refine blockQ_o rfl ?_ | refine AW_skip ?_ | refine AW_seq ?_ | refine AW_ops ?_ | refine AW_blockS ?_ | refine AW_blockR ?_ | refine AW_blockD ?_ | refine AW_blockC ?_ | refine AO_nil ?_ | refine AW_draw ?_ | (refine AW_drawA ?_; simp only [atBlk, List.set_cons_succ, List.set_cons_zero, List.take_succ_cons, List.take_zero, List.drop_succ_cons, List.drop_zero]) | refine AHd_nil ?_ | with_reducible refine AP_at ?_ | with_reducible refine AHP_at ?_ | ((first | with_reducible apply AO_any | with_reducible apply AHd_any | with_reducible apply AP_go | with_reducible apply AHP_go); focus (simp only [List.take_succ_cons, List.take_zero, List.drop_succ_cons, List.drop_zero, bne_self_eq_false, List.map_cons, List.map_nil, Bool.true_beq, Bool.false_beq, run_nil, run_cons, run_gate, cont_some, gate_true, gate_false, hrun_nil, hrun_cons, hrun_gate, hcont_some, hgate_true, hgate_false, put_some, put_none, ev_t, ev_k, wantedA, execA, stepA, List.set_cons_succ, List.set_cons_zero, List.getD_cons_succ, List.getD_cons_zero, List.getElem?_cons_zero, List.getElem?_cons_succ, if_true, if_false, binA, binInt, unA, eqA, Option.map, eq_self, true_or, or_true, true_and, and_true, and_self, beq_self_eq_true, Bool.not_true, Bool.not_false, reduceCtorEq, Bool.false_eq_true, ite_true, ite_false, fitsAll, CK.fits, decide_true, Bool.and_true, Bool.true_and, fillA, AV.cells, writeN, sliceCells, appendA, lenA, i64, loA, hiA, hcells_last, hown_last, List.take_zero, List.drop_zero, List.nil_append, List.cons_append, List.append_nil, List.take_nil, List.drop_nil, List.length_cons, List.length_nil, List.length_append, Nat.zero_add, Nat.add_zero, Nat.reduceAdd, Nat.reduceMul, Nat.reduceDiv, Nat.reduceSub, Nat.mul_one, Nat.one_mul, Nat.div_one, Nat.le_refl, Nat.reduceLeDiff, Nat.reduceLT, Int.toNat_natCast, Int.toNat_zero, Nat.zero_le, Int.natCast_nonneg, Int.reduceLE, Int.reduceLT, Option.some.injEq, foldA, maxA, minA, Cell.int.injEq, AV.c.injEq, pre_nil, pre_cons, pre_gate, pre1_cons, pre1_gate, qstop_true, qstop_false, qstopg_false, qgate_true, qgate_false, pcont_some, pstop_true, pstop_false, pstopg_false, pgate_true, pgate_false, hpre_nil, hpre_cons, hpre_gate, hpre1_cons, hpre1_gate, hqstop_true, hqstop_false, hqstopg_false, hqgate_true, hqgate_false, hpcont_some, hpstop_true, hpstop_false, hpstopg_false, hpgate_true, hpgate_false, Int.reduceBEq, Int.reduceBNe, Int.reduceGT, Int.reduceGE, Int.reduceEq, Int.reduceNe, decide_false, nat_0, nat_1, nat_2, nat_3, nat_4, nat_8, nat_16, nat_64, nat_128, Int.reduceToNat, AOp.stops, pre1_nil, hpre1_nil, ↓want_eq, wantV_bool, wantV_undef, ↓exec_lenX, lenX_snil, lenX_slc, ↓exec_storeX, ↓exec_storeN, storeN_one, ↓exec_bsX, ↓exec_sliceX, ↓exec_copyX, ↓exec_appNil, ↓exec_carryX, Nat.sub_zero, Nat.reduceLT, rep_len, hc3, g1, g2, g3, g4, g5, g6, n1, n2, store2_at o6 (by omega : H.length ≤ H.length + 1)]; with_reducible first | exact EqP.at_ | exact EqP.cont | exact EqP.hcont | exact EqP.gate | exact EqP.hgate)) | ((first | refine AW_ift ?_ ?_ | fail); focus (simp only [ev_t, put_some, put_none, List.set_cons_succ, List.set_cons_zero, List.getD_cons_succ, List.getD_cons_zero]; done)) | ((first | refine AW_iff ?_ ?_ | fail); focus (simp only [ev_t, put_some, put_none, List.set_cons_succ, List.set_cons_zero, List.getD_cons_succ, List.getD_cons_zero]; done))))
  exact AW_ret ⟨_, by simp only [outA, resA, ressA, AV.tv, Option.map_some, List.take_succ_cons, List.take_zero, List.drop_succ_cons, List.drop_zero, bne_self_eq_false, List.map_cons, List.map_nil, Bool.true_beq, Bool.false_beq, run_nil, run_cons, run_gate, cont_some, gate_true, gate_false, hrun_nil, hrun_cons, hrun_gate, hcont_some, hgate_true, hgate_false, put_some, put_none, ev_t, ev_k, wantedA, execA, stepA, List.set_cons_succ, List.set_cons_zero, List.getD_cons_succ, List.getD_cons_zero, List.getElem?_cons_zero, List.getElem?_cons_succ, if_true, if_false, binA, binInt, unA, eqA, Option.map, eq_self, true_or, or_true, true_and, and_true, and_self, beq_self_eq_true, Bool.not_true, Bool.not_false, reduceCtorEq, Bool.false_eq_true, ite_true, ite_false, fitsAll, CK.fits, decide_true, Bool.and_true, Bool.true_and, fillA, AV.cells, writeN, sliceCells, appendA, lenA, i64, loA, hiA, hcells_last, hown_last, List.take_zero, List.drop_zero, List.nil_append, List.cons_append, List.append_nil, List.take_nil, List.drop_nil, List.length_cons, List.length_nil, List.length_append, Nat.zero_add, Nat.add_zero, Nat.reduceAdd, Nat.reduceMul, Nat.reduceDiv, Nat.reduceSub, Nat.mul_one, Nat.one_mul, Nat.div_one, Nat.le_refl, Nat.reduceLeDiff, Nat.reduceLT, Int.toNat_natCast, Int.toNat_zero, Nat.zero_le, Int.natCast_nonneg, Int.reduceLE, Int.reduceLT, Option.some.injEq, foldA, maxA, minA, Cell.int.injEq, AV.c.injEq, read2_at (hown_lt o6)] <;> with_reducible rfl, rfl⟩

theorem less_parts (M : Nat) {a1 a0 b1 b0 : Nat} (ha1 : a1 < M) (ha : a0 < M) (hb : b0 < M) (c : Nat) (hc : c = if a0 < b0 then 1 else 0) :
    ((b1 * M + b0 ≤ a1 * M + a0) ↔ ¬ (a1 < b1 + c)) ∧
    (b1 + c ≤ a1 → (a1 + M - b1 - c) % M = (a1 * M + a0 - (b1 * M + b0)) / M ∧ (a0 + M - b0) % M = (a1 * M + a0 - (b1 * M + b0)) % M) := by
  have key : b1 + c ≤ a1 → a1 * M + a0 - (b1 * M + b0) = M * (a1 - b1 - c) + (a0 + M - b0) % M := fun h => by
    obtain ⟨q, rfl⟩ : ∃ q, a1 = b1 + c + q := ⟨a1 - b1 - c, by omega⟩
    rw [show b1 + c + q - b1 - c = q by omega, Nat.add_mul, Nat.add_mul, Nat.mul_comm q M]
    split at hc
    · subst hc
      rw [Nat.mod_eq_of_lt (by omega : a0 + M - b0 < M)]; omega
    · subst hc
      rw [show a0 + M - b0 = M + (a0 - b0) by omega, Nat.add_mod_left, Nat.mod_eq_of_lt (by omega)]; omega
  have hM : 0 < M := by omega
  refine ⟨⟨fun h hlt => ?_, fun h => ?_⟩, fun h => ?_⟩
  · have h1 : (a1 + 1) * M ≤ (b1 + c) * M := Nat.mul_le_mul_right _ hlt
    rw [Nat.add_mul, Nat.add_mul, Nat.one_mul] at h1
    split at hc
    · subst hc; omega
    · subst hc; omega
  · have h1 : (b1 + c) * M ≤ a1 * M := Nat.mul_le_mul_right _ (by omega)
    rw [Nat.add_mul] at h1
    split at hc
    · subst hc; omega
    · subst hc; omega
  · have h5 := Nat.mod_lt (a0 + M - b0) hM
    rw [key h, Nat.mul_add_div hM, Nat.mul_add_mod, Nat.mod_mod, Nat.div_eq_of_lt h5, Nat.add_zero]
    refine ⟨?_, rfl⟩
    rw [show a1 + M - b1 - c = M + (a1 - b1 - c) by omega, Nat.add_mod_left, Nat.mod_eq_of_lt (by omega)]
theorem less_nums (M : Nat) (hM : 0 < M) {W X : Nat} (hW : W < M * M) :
    ((X ≤ W) ↔ ¬ (W / M < X / M + (if W % M < X % M then 1 else 0))) ∧
    (X ≤ W → (W / M + M - X / M - (if W % M < X % M then 1 else 0)) % M = (W - X) / M ∧ (W % M + M - X % M) % M = (W - X) % M) := by
  have eW : W / M * M + W % M = W := by rw [Nat.mul_comm]; exact Nat.div_add_mod W M
  have eX : X / M * M + X % M = X := by rw [Nat.mul_comm]; exact Nat.div_add_mod X M
  obtain ⟨h1, h2⟩ := less_parts M (a1 := W / M) (a0 := W % M) (b1 := X / M) (b0 := X % M) (Nat.div_lt_of_lt_mul hW) (Nat.mod_lt _ hM) (Nat.mod_lt _ hM) _ rfl
  rw [eW, eX] at h1 h2
  exact ⟨h1, fun h => h2 (by have := h1.1 h; omega)⟩

theorem AC_less (W X : Nat) (hW : W < 340282366920938463463374607431768211456) (hX : X < 340282366920938463463374607431768211456) :
    AC A H.length F_root_wide_less [.agg (wd W), .agg (wd X)] H (fun v H' => v = .tup [.agg (wd (if X ≤ W then W - X else W)), .c (.bool (decide (X ≤ W)))]) := by
  obtain ⟨q1, q2⟩ := less_nums 18446744073709551616 (by decide) (W := W) (X := X) hW
  have b1 : X % 18446744073709551616 < 18446744073709551616 := Nat.mod_lt _ (by decide)
  have b2 : X / 18446744073709551616 < 18446744073709551616 := by omega
  refine AC_enter t_root_wide_less ?_; simp only [c_root_wide_less, enterA, List.replicate, List.length_cons, List.length_nil, Nat.reduceAdd, Nat.reduceSub, List.cons_append, List.nil_append]
  (repeat (first | with_reducible refine thenQ_n ?_ | with_reducible refine blockQ_n ?_ | with_reducible refine thenQ_e ?_ | with_reducible refine thenQ_r ?_ | with_reducible refine blockQ_r ?_ | with_reducible refine blockQ_s ?_ | with_reducible refine blockQ_o rfl ?_ | refine AW_skip ?_ | refine AW_seq ?_ | refine AW_ops ?_ | refine AW_blockS ?_ | refine AW_blockR ?_ | refine AW_blockD ?_ | refine AW_blockC ?_ | refine AO_nil ?_ | refine AW_draw ?_ | (refine AW_drawA ?_; simp only [atBlk, List.set_cons_succ, List.set_cons_zero, List.take_succ_cons, List.take_zero, List.drop_succ_cons, List.drop_zero]) | refine AHd_nil ?_ | with_reducible refine AP_at ?_ | with_reducible refine AHP_at ?_ | ((first | with_reducible apply AO_any | with_reducible apply AHd_any | with_reducible apply AP_go | with_reducible apply AHP_go); focus (simp only [List.take_succ_cons, List.take_zero, List.drop_succ_cons, List.drop_zero, bne_self_eq_false, List.map_cons, List.map_nil, Bool.true_beq, Bool.false_beq, run_nil, run_cons, run_gate, cont_some, gate_true, gate_false, hrun_nil, hrun_cons, hrun_gate, hcont_some, hgate_true, hgate_false, put_some, put_none, ev_t, ev_k, wantedA, execA, stepA, List.set_cons_succ, List.set_cons_zero, List.getD_cons_succ, List.getD_cons_zero, List.getElem?_cons_zero, List.getElem?_cons_succ, if_true, if_false, binA, binInt, unA, eqA, Option.map, eq_self, true_or, or_true, true_and, and_true, and_self, beq_self_eq_true, Bool.not_true, Bool.not_false, reduceCtorEq, Bool.false_eq_true, ite_true, ite_false, fitsAll, CK.fits, decide_true, Bool.and_true, Bool.true_and, fillA, AV.cells, writeN, sliceCells, appendA, lenA, i64, loA, hiA, hcells_last, hown_last, List.take_zero, List.drop_zero, List.nil_append, List.cons_append, List.append_nil, List.take_nil, List.drop_nil, List.length_cons, List.length_nil, List.length_append, Nat.zero_add, Nat.add_zero, Nat.reduceAdd, Nat.reduceMul, Nat.reduceDiv, Nat.reduceSub, Nat.mul_one, Nat.one_mul, Nat.div_one, Nat.le_refl, Nat.reduceLeDiff, Nat.reduceLT, Int.toNat_natCast, Int.toNat_zero, Nat.zero_le, Int.natCast_nonneg, Int.reduceLE, Int.reduceLT, Option.some.injEq, foldA, maxA, minA, Cell.int.injEq, AV.c.injEq, pre_nil, pre_cons, pre_gate, pre1_cons, pre1_gate, qstop_true, qstop_false, qstopg_false, qgate_true, qgate_false, pcont_some, pstop_true, pstop_false, pstopg_false, pgate_true, pgate_false, hpre_nil, hpre_cons, hpre_gate, hpre1_cons, hpre1_gate, hqstop_true, hqstop_false, hqstopg_false, hqgate_true, hqgate_false, hpcont_some, hpstop_true, hpstop_false, hpstopg_false, hpgate_true, hpgate_false, Int.reduceBEq, Int.reduceBNe, Int.reduceGT, Int.reduceGE, Int.reduceEq, Int.reduceNe, decide_false, nat_0, nat_1, nat_2, nat_3, nat_4, nat_8, nat_16, nat_64, nat_128, Int.reduceToNat, AOp.stops, pre1_nil, hpre1_nil, ↓want_eq, wantV_bool, wantV_undef, ↓exec_lenX, lenX_snil, lenX_slc, ↓exec_storeX, ↓exec_storeN, storeN_one, ↓exec_bsX, ↓exec_sliceX, ↓exec_copyX, ↓exec_appNil, ↓exec_carryX, Nat.sub_zero, Nat.reduceLT, rep_len]; with_reducible first | exact EqP.at_ | exact EqP.cont | exact EqP.hcont | exact EqP.gate | exact EqP.hgate)) | ((first | refine AW_ift ?_ ?_ | fail); focus (simp only [ev_t, put_some, put_none, List.set_cons_succ, List.set_cons_zero, List.getD_cons_succ, List.getD_cons_zero]; done)) | ((first | refine AW_iff ?_ ?_ | fail); focus (simp only [ev_t, put_some, put_none, List.set_cons_succ, List.set_cons_zero, List.getD_cons_succ, List.getD_cons_zero]; done))))
  have o2 : hown (H ++ [Blk.own (wd W)] ++ [Blk.own (wd X)] ++ [Blk.own [Cell.int .u64 0, Cell.int .u64 0]]) H.length = some (wd W) := hown_app (hown_app hown_last)
  have o3 : hown (H ++ [Blk.own (wd W)] ++ [Blk.own (wd X)] ++ [Blk.own [Cell.int .u64 0, Cell.int .u64 0]]) (H.length + 1) = some (wd X) := by
    have := hown_app (l := [Blk.own [Cell.int .u64 0, Cell.int .u64 0]]) (hown_last (H := H ++ [Blk.own (wd W)]) (cs := wd X)); simpa using this
  have o4 : hown (H ++ [Blk.own (wd W)] ++ [Blk.own (wd X)] ++ [Blk.own [Cell.int .u64 0, Cell.int .u64 0]]) (H.length + 1 + 1) = some [Cell.int .u64 0, Cell.int .u64 0] := by
    have := hown_last (H := H ++ [Blk.own (wd W)] ++ [Blk.own (wd X)]) (cs := [Cell.int .u64 0, Cell.int .u64 0]); simpa using this
  generalize H ++ [Blk.own (wd W)] ++ [Blk.own (wd X)] ++ [Blk.own [Cell.int .u64 0, Cell.int .u64 0]] = H1 at *
  have hc2 := hcells_own o2
  have hc3 := hcells_own o3
  have ew : ∀ Y, wd Y = [.int .u64 ((Y / 18446744073709551616 : Nat) : Int), .int .u64 ((Y % 18446744073709551616 : Nat) : Int)] := fun _ => rfl
  rw [ew] at hc2 hc3
  obtain ⟨c, hc⟩ : ∃ c, c = (if W % 18446744073709551616 < X % 18446744073709551616 then 1 else 0) := ⟨_, rfl⟩
  have hc1 : c ≤ 1 := by rw [hc]; split <;> omega
  rw [← hc] at q1 q2
  have k1 := carry_sub0 (a := W % 18446744073709551616) b1
  rw [← hc] at k1
  have k2 := carry_sub (a := W / 18446744073709551616) b2 hc1
  by_cases h : X ≤ W
  · obtain ⟨q3, q4⟩ := q2 h
    rw [if_neg (q1.1 h), q3] at k2
    rw [q4] at k1
    rw [if_pos h, decide_eq_true h, ew (W - X)]
    (repeat (first | with_reducible refine thenQ_n ?_ | with_reducible refine blockQ_n ?_ | with_reducible refine thenQ_e ?_ | with_reducible refine thenQ_r ?_ | with_reducible refine blockQ_r ?_ | with_reducible refine blockQ_s ?_ | with_reducible refine blockQ_o rfl ?_ | refine AW_skip ?_ | refine AW_seq ?_ | refine AW_ops ?_ | refine AW_blockS ?_ | refine AW_blockR ?_ | refine AW_blockD ?_ | refine AW_blockC ?_ | refine AO_nil ?_ | refine AW_draw ?_ | (refine AW_drawA ?_; simp only [atBlk, List.set_cons_succ, List.set_cons_zero, List.take_succ_cons, List.take_zero, List.drop_succ_cons, List.drop_zero]) | refine AHd_nil ?_ | with_reducible refine AP_at ?_ | with_reducible refine AHP_at ?_ | ((first | with_reducible apply AO_any | with_reducible apply AHd_any | with_reducible apply AP_go | with_reducible apply AHP_go); focus (simp only [List.take_succ_cons, List.take_zero, List.drop_succ_cons, List.drop_zero, bne_self_eq_false, List.map_cons, List.map_nil, Bool.true_beq, Bool.false_beq, run_nil, run_cons, run_gate, cont_some, gate_true, gate_false, hrun_nil, hrun_cons, hrun_gate, hcont_some, hgate_true, hgate_false, put_some, put_none, ev_t, ev_k, wantedA, execA, stepA, List.set_cons_succ, List.set_cons_zero, List.getD_cons_succ, List.getD_cons_zero, List.getElem?_cons_zero, List.getElem?_cons_succ, if_true, if_false, binA, binInt, unA, eqA, Option.map, eq_self, true_or, or_true, true_and, and_true, and_self, beq_self_eq_true, Bool.not_true, Bool.not_false, reduceCtorEq, Bool.false_eq_true, ite_true, ite_false, fitsAll, CK.fits, decide_true, Bool.and_true, Bool.true_and, fillA, AV.cells, writeN, sliceCells, appendA, lenA, i64, loA, hiA, hcells_last, hown_last, List.take_zero, List.drop_zero, List.nil_append, List.cons_append, List.append_nil, List.take_nil, List.drop_nil, List.length_cons, List.length_nil, List.length_append, Nat.zero_add, Nat.add_zero, Nat.reduceAdd, Nat.reduceMul, Nat.reduceDiv, Nat.reduceSub, Nat.mul_one, Nat.one_mul, Nat.div_one, Nat.le_refl, Nat.reduceLeDiff, Nat.reduceLT, Int.toNat_natCast, Int.toNat_zero, Nat.zero_le, Int.natCast_nonneg, Int.reduceLE, Int.reduceLT, Option.some.injEq, foldA, maxA, minA, Cell.int.injEq, AV.c.injEq, pre_nil, pre_cons, pre_gate, pre1_cons, pre1_gate, qstop_true, qstop_false, qstopg_false, qgate_true, qgate_false, pcont_some, pstop_true, pstop_false, pstopg_false, pgate_true, pgate_false, hpre_nil, hpre_cons, hpre_gate, hpre1_cons, hpre1_gate, hqstop_true, hqstop_false, hqstopg_false, hqgate_true, hqgate_false, hpcont_some, hpstop_true, hpstop_false, hpstopg_false, hpgate_true, hpgate_false, Int.reduceBEq, Int.reduceBNe, Int.reduceGT, Int.reduceGE, Int.reduceEq, Int.reduceNe, decide_false, nat_0, nat_1, nat_2, nat_3, nat_4, nat_8, nat_16, nat_64, nat_128, Int.reduceToNat, AOp.stops, pre1_nil, hpre1_nil, ↓want_eq, wantV_bool, wantV_undef, ↓exec_lenX, lenX_snil, lenX_slc, ↓exec_storeX, ↓exec_storeN, storeN_one, ↓exec_bsX, ↓exec_sliceX, ↓exec_copyX, ↓exec_appNil, ↓exec_carryX, Nat.sub_zero, Nat.reduceLT, rep_len, hc2, hc3, carryX_of k1, carryX_of k2, store2_at o4 (by omega : H.length ≤ H.length + 1 + 1)]; with_reducible first | exact EqP.at_ | exact EqP.cont | exact EqP.hcont | exact EqP.gate | exact EqP.hgate)) | ((first | refine AW_ift ?_ ?_ | fail); focus (simp only [ev_t, put_some, put_none, List.set_cons_succ, List.set_cons_zero, List.getD_cons_succ, List.getD_cons_zero]; done)) | ((first | refine AW_iff ?_ ?_ | fail); focus (simp only [ev_t, put_some, put_none, List.set_cons_succ, List.set_cons_zero, List.getD_cons_succ, List.getD_cons_zero]; done))))
    exact AW_ret ⟨_, by simp only [outA, resA, ressA, AV.tv, Option.map_some, List.take_succ_cons, List.take_zero, List.drop_succ_cons, List.drop_zero, bne_self_eq_false, List.map_cons, List.map_nil, Bool.true_beq, Bool.false_beq, run_nil, run_cons, run_gate, cont_some, gate_true, gate_false, hrun_nil, hrun_cons, hrun_gate, hcont_some, hgate_true, hgate_false, put_some, put_none, ev_t, ev_k, wantedA, execA, stepA, List.set_cons_succ, List.set_cons_zero, List.getD_cons_succ, List.getD_cons_zero, List.getElem?_cons_zero, List.getElem?_cons_succ, if_true, if_false, binA, binInt, unA, eqA, Option.map, eq_self, true_or, or_true, true_and, and_true, and_self, beq_self_eq_true, Bool.not_true, Bool.not_false, reduceCtorEq, Bool.false_eq_true, ite_true, ite_false, fitsAll, CK.fits, decide_true, Bool.and_true, Bool.true_and, fillA, AV.cells, writeN, sliceCells, appendA, lenA, i64, loA, hiA, hcells_last, hown_last, List.take_zero, List.drop_zero, List.nil_append, List.cons_append, List.append_nil, List.take_nil, List.drop_nil, List.length_cons, List.length_nil, List.length_append, Nat.zero_add, Nat.add_zero, Nat.reduceAdd, Nat.reduceMul, Nat.reduceDiv, Nat.reduceSub, Nat.mul_one, Nat.one_mul, Nat.div_one, Nat.le_refl, Nat.reduceLeDiff, Nat.reduceLT, Int.toNat_natCast, Int.toNat_zero, Nat.zero_le, Int.natCast_nonneg, Int.reduceLE, Int.reduceLT, Option.some.injEq, foldA, maxA, minA, Cell.int.injEq, AV.c.injEq, read2_at (hown_lt o4)] <;> with_reducible rfl, rfl⟩
  · have q5 : W / 18446744073709551616 < X / 18446744073709551616 + c := by
      rcases Nat.lt_or_ge (W / 18446744073709551616) (X / 18446744073709551616 + c) with h' | h'
      · exact h'
      · exact absurd (q1.2 (by omega)) h
    rw [if_pos q5] at k2
    rw [if_neg h, decide_eq_false h, ew W]
    (repeat (first | with_reducible refine thenQ_n ?_ | with_reducible refine blockQ_n ?_ | with_reducible refine thenQ_e ?_ | with_reducible refine thenQ_r ?_ | with_reducible refine blockQ_r ?_ | with_reducible refine blockQ_s ?_ | with_reducible refine blockQ_o rfl ?_ | refine AW_skip ?_ | refine AW_seq ?_ | refine AW_ops ?_ | refine AW_blockS ?_ | refine AW_blockR ?_ | refine AW_blockD ?_ | refine AW_blockC ?_ | refine AO_nil ?_ | refine AW_draw ?_ | (refine AW_drawA ?_; simp only [atBlk, List.set_cons_succ, List.set_cons_zero, List.take_succ_cons, List.take_zero, List.drop_succ_cons, List.drop_zero]) | refine AHd_nil ?_ | with_reducible refine AP_at ?_ | with_reducible refine AHP_at ?_ | ((first | with_reducible apply AO_any | with_reducible apply AHd_any | with_reducible apply AP_go | with_reducible apply AHP_go); focus (simp only [List.take_succ_cons, List.take_zero, List.drop_succ_cons, List.drop_zero, bne_self_eq_false, List.map_cons, List.map_nil, Bool.true_beq, Bool.false_beq, run_nil, run_cons, run_gate, cont_some, gate_true, gate_false, hrun_nil, hrun_cons, hrun_gate, hcont_some, hgate_true, hgate_false, put_some, put_none, ev_t, ev_k, wantedA, execA, stepA, List.set_cons_succ, List.set_cons_zero, List.getD_cons_succ, List.getD_cons_zero, List.getElem?_cons_zero, List.getElem?_cons_succ, if_true, if_false, binA, binInt, unA, eqA, Option.map, eq_self, true_or, or_true, true_and, and_true, and_self, beq_self_eq_true, Bool.not_true, Bool.not_false, reduceCtorEq, Bool.false_eq_true, ite_true, ite_false, fitsAll, CK.fits, decide_true, Bool.and_true, Bool.true_and, fillA, AV.cells, writeN, sliceCells, appendA, lenA, i64, loA, hiA, hcells_last, hown_last, List.take_zero, List.drop_zero, List.nil_append, List.cons_append, List.append_nil, List.take_nil, List.drop_nil, List.length_cons, List.length_nil, List.length_append, Nat.zero_add, Nat.add_zero, Nat.reduceAdd, Nat.reduceMul, Nat.reduceDiv, Nat.reduceSub, Nat.mul_one, Nat.one_mul, Nat.div_one, Nat.le_refl, Nat.reduceLeDiff, Nat.reduceLT, Int.toNat_natCast, Int.toNat_zero, Nat.zero_le, Int.natCast_nonneg, Int.reduceLE, Int.reduceLT, Option.some.injEq, foldA, maxA, minA, Cell.int.injEq, AV.c.injEq, pre_nil, pre_cons, pre_gate, pre1_cons, pre1_gate, qstop_true, qstop_false, qstopg_false, qgate_true, qgate_false, pcont_some, pstop_true, pstop_false, pstopg_false, pgate_true, pgate_false, hpre_nil, hpre_cons, hpre_gate, hpre1_cons, hpre1_gate, hqstop_true, hqstop_false, hqstopg_false, hqgate_true, hqgate_false, hpcont_some, hpstop_true, hpstop_false, hpstopg_false, hpgate_true, hpgate_false, Int.reduceBEq, Int.reduceBNe, Int.reduceGT, Int.reduceGE, Int.reduceEq, Int.reduceNe, decide_false, nat_0, nat_1, nat_2, nat_3, nat_4, nat_8, nat_16, nat_64, nat_128, Int.reduceToNat, AOp.stops, pre1_nil, hpre1_nil, ↓want_eq, wantV_bool, wantV_undef, ↓exec_lenX, lenX_snil, lenX_slc, ↓exec_storeX, ↓exec_storeN, storeN_one, ↓exec_bsX, ↓exec_sliceX, ↓exec_copyX, ↓exec_appNil, ↓exec_carryX, Nat.sub_zero, Nat.reduceLT, rep_len, hc2, hc3, carryX_of k1, carryX_of k2, read2_own hc2, store2_at o4 (by omega : H.length ≤ H.length + 1 + 1)]; with_reducible first | exact EqP.at_ | exact EqP.cont | exact EqP.hcont | exact EqP.gate | exact EqP.hgate)) | ((first | refine AW_ift ?_ ?_ | fail); focus (simp only [ev_t, put_some, put_none, List.set_cons_succ, List.set_cons_zero, List.getD_cons_succ, List.getD_cons_zero]; done)) | ((first | refine AW_iff ?_ ?_ | fail); focus (simp only [ev_t, put_some, put_none, List.set_cons_succ, List.set_cons_zero, List.getD_cons_succ, List.getD_cons_zero]; done))))
    exact AW_ret ⟨_, by simp only [outA, resA, ressA, AV.tv, Option.map_some, List.take_succ_cons, List.take_zero, List.drop_succ_cons, List.drop_zero, bne_self_eq_false, List.map_cons, List.map_nil, Bool.true_beq, Bool.false_beq, run_nil, run_cons, run_gate, cont_some, gate_true, gate_false, hrun_nil, hrun_cons, hrun_gate, hcont_some, hgate_true, hgate_false, put_some, put_none, ev_t, ev_k, wantedA, execA, stepA, List.set_cons_succ, List.set_cons_zero, List.getD_cons_succ, List.getD_cons_zero, List.getElem?_cons_zero, List.getElem?_cons_succ, if_true, if_false, binA, binInt, unA, eqA, Option.map, eq_self, true_or, or_true, true_and, and_true, and_self, beq_self_eq_true, Bool.not_true, Bool.not_false, reduceCtorEq, Bool.false_eq_true, ite_true, ite_false, fitsAll, CK.fits, decide_true, Bool.and_true, Bool.true_and, fillA, AV.cells, writeN, sliceCells, appendA, lenA, i64, loA, hiA, hcells_last, hown_last, List.take_zero, List.drop_zero, List.nil_append, List.cons_append, List.append_nil, List.take_nil, List.drop_nil, List.length_cons, List.length_nil, List.length_append, Nat.zero_add, Nat.add_zero, Nat.reduceAdd, Nat.reduceMul, Nat.reduceDiv, Nat.reduceSub, Nat.mul_one, Nat.one_mul, Nat.div_one, Nat.le_refl, Nat.reduceLeDiff, Nat.reduceLT, Int.toNat_natCast, Int.toNat_zero, Nat.zero_le, Int.natCast_nonneg, Int.reduceLE, Int.reduceLT, Option.some.injEq, foldA, maxA, minA, Cell.int.injEq, AV.c.injEq, read2_at (hown_lt o4)] <;> with_reducible rfl, rfl⟩


def whI (n : Nat) (H0 : AHeap) (i : Nat) (fr : AFrame) (H : AHeap) : Prop := H0 = H ∧ i * i ≤ n ∧ (∃ s : Nat → AV, fr = [.c (.int .u64 (n : Int)), s 1, s 2, .c (.int .u64 (i : Int)), s 4, s 5, s 6, s 7, s 8, s 9, s 10, s 11, s 12, s 13])
theorem AC_whole (n : Nat) (hn : n ≤ 1048576) : AC A H.length F_root_whole [.c (.int .u64 (n : Int))] H (fun v H' => ∃ w : Nat, v = .c (.int .u64 (w : Int)) ∧ w * w ≤ n ∧ n < (w + 1) * (w + 1) ∧ H = H') := by
  refine AC_enter t_root_whole ?_; simp only [c_root_whole, enterA, List.replicate, List.length_cons, List.length_nil, Nat.reduceAdd, Nat.reduceSub, List.cons_append, List.nil_append]
  (repeat (first | with_reducible refine thenQ_n ?_ | with_reducible refine blockQ_n ?_ | with_reducible refine thenQ_e ?_ | with_reducible refine thenQ_r ?_ | with_reducible refine blockQ_r ?_ | with_reducible refine blockQ_s ?_ | with_reducible refine blockQ_o rfl ?_ | refine AW_skip ?_ | refine AW_seq ?_ | refine AW_ops ?_ | refine AW_blockS ?_ | refine AW_blockR ?_ | refine AW_blockD ?_ | refine AW_blockC ?_ | refine AO_nil ?_ | refine AW_draw ?_ | (refine AW_drawA ?_; simp only [atBlk, List.set_cons_succ, List.set_cons_zero, List.take_succ_cons, List.take_zero, List.drop_succ_cons, List.drop_zero]) | refine AHd_nil ?_ | with_reducible refine AP_at ?_ | with_reducible refine AHP_at ?_ | ((first | with_reducible apply AO_any | with_reducible apply AHd_any | with_reducible apply AP_go | with_reducible apply AHP_go); focus (simp only [List.take_succ_cons, List.take_zero, List.drop_succ_cons, List.drop_zero, bne_self_eq_false, List.map_cons, List.map_nil, Bool.true_beq, Bool.false_beq, run_nil, run_cons, run_gate, cont_some, gate_true, gate_false, hrun_nil, hrun_cons, hrun_gate, hcont_some, hgate_true, hgate_false, put_some, put_none, ev_t, ev_k, wantedA, execA, stepA, List.set_cons_succ, List.set_cons_zero, List.getD_cons_succ, List.getD_cons_zero, List.getElem?_cons_zero, List.getElem?_cons_succ, if_true, if_false, binA, binInt, unA, eqA, Option.map, eq_self, true_or, or_true, true_and, and_true, and_self, beq_self_eq_true, Bool.not_true, Bool.not_false, reduceCtorEq, Bool.false_eq_true, ite_true, ite_false, fitsAll, CK.fits, decide_true, Bool.and_true, Bool.true_and, fillA, AV.cells, writeN, sliceCells, appendA, lenA, i64, loA, hiA, hcells_last, hown_last, List.take_zero, List.drop_zero, List.nil_append, List.cons_append, List.append_nil, List.take_nil, List.drop_nil, List.length_cons, List.length_nil, List.length_append, Nat.zero_add, Nat.add_zero, Nat.reduceAdd, Nat.reduceMul, Nat.reduceDiv, Nat.reduceSub, Nat.mul_one, Nat.one_mul, Nat.div_one, Nat.le_refl, Nat.reduceLeDiff, Nat.reduceLT, Int.toNat_natCast, Int.toNat_zero, Nat.zero_le, Int.natCast_nonneg, Int.reduceLE, Int.reduceLT, Option.some.injEq, foldA, maxA, minA, Cell.int.injEq, AV.c.injEq, pre_nil, pre_cons, pre_gate, pre1_cons, pre1_gate, qstop_true, qstop_false, qstopg_false, qgate_true, qgate_false, pcont_some, pstop_true, pstop_false, pstopg_false, pgate_true, pgate_false, hpre_nil, hpre_cons, hpre_gate, hpre1_cons, hpre1_gate, hqstop_true, hqstop_false, hqstopg_false, hqgate_true, hqgate_false, hpcont_some, hpstop_true, hpstop_false, hpstopg_false, hpgate_true, hpgate_false, Int.reduceBEq, Int.reduceBNe, Int.reduceGT, Int.reduceGE, Int.reduceEq, Int.reduceNe, decide_false, nat_0, nat_1, nat_2, nat_3, nat_4, nat_8, nat_16, nat_64, nat_128, Int.reduceToNat, AOp.stops, pre1_nil, hpre1_nil, ↓want_eq, wantV_bool, wantV_undef, ↓exec_lenX, lenX_snil, lenX_slc, ↓exec_storeX, ↓exec_storeN, storeN_one, ↓exec_bsX, ↓exec_sliceX, ↓exec_copyX, ↓exec_appNil, ↓exec_carryX, Nat.sub_zero, Nat.reduceLT, rep_len]; with_reducible first | exact EqP.at_ | exact EqP.cont | exact EqP.hcont | exact EqP.gate | exact EqP.hgate)) | ((first | refine AW_ift ?_ ?_ | fail); focus (simp only [ev_t, put_some, put_none, List.set_cons_succ, List.set_cons_zero, List.getD_cons_succ, List.getD_cons_zero]; done)) | ((first | refine AW_iff ?_ ?_ | fail); focus (simp only [ev_t, put_some, put_none, List.set_cons_succ, List.set_cons_zero, List.getD_cons_succ, List.getD_cons_zero]; done))))
  refine AW_mid (fun e fr H' => e = .normal ∧ ∃ i, n < (i + 1) * (i + 1) ∧ whI n H i fr H') ?_ ?_
  · refine AW_block (AW_up (whI n H) 1024 ⟨rfl, by omega, stale _ _ rfl⟩ ?_)
    rintro i fr _ hi ⟨rfl, hw, st, rfl⟩
    have e1 : IntKind.u64.wrap ((i : Int) + 1) = ((i + 1 : Nat) : Int) := u64_of (by omega) (by omega)
    have hm : (i + 1) * (i + 1) ≤ 1025 * 1025 := Nat.mul_le_mul (by omega) (by omega)
    have e2 : IntKind.u64.wrap (((i + 1 : Nat) : Int) * ((i + 1 : Nat) : Int)) = (((i + 1) * (i + 1) : Nat) : Int) := by rw [← Int.natCast_mul]; exact u64_nat (by omega)
    by_cases h : (i + 1) * (i + 1) ≤ n
    · have c : decide ((((i + 1) * (i + 1) : Nat) : Int) ≤ (n : Int)) = true := decide_eq_true (by omega)
      (repeat (first | with_reducible refine thenQ_n ?_ | with_reducible refine blockQ_n ?_ | with_reducible refine thenQ_e ?_ | with_reducible refine thenQ_r ?_ | with_reducible refine blockQ_r ?_ | with_reducible refine blockQ_s ?_ | with_reducible refine blockQ_o rfl ?_ | refine AW_skip ?_ | refine AW_seq ?_ | refine AW_ops ?_ | refine AW_blockS ?_ | refine AW_blockR ?_ | refine AW_blockD ?_ | refine AW_blockC ?_ | refine AO_nil ?_ | refine AW_draw ?_ | (refine AW_drawA ?_; simp only [atBlk, List.set_cons_succ, List.set_cons_zero, List.take_succ_cons, List.take_zero, List.drop_succ_cons, List.drop_zero]) | refine AHd_nil ?_ | with_reducible refine AP_at ?_ | with_reducible refine AHP_at ?_ | ((first | with_reducible apply AO_any | with_reducible apply AHd_any | with_reducible apply AP_go | with_reducible apply AHP_go); focus (simp only [List.take_succ_cons, List.take_zero, List.drop_succ_cons, List.drop_zero, bne_self_eq_false, List.map_cons, List.map_nil, Bool.true_beq, Bool.false_beq, run_nil, run_cons, run_gate, cont_some, gate_true, gate_false, hrun_nil, hrun_cons, hrun_gate, hcont_some, hgate_true, hgate_false, put_some, put_none, ev_t, ev_k, wantedA, execA, stepA, List.set_cons_succ, List.set_cons_zero, List.getD_cons_succ, List.getD_cons_zero, List.getElem?_cons_zero, List.getElem?_cons_succ, if_true, if_false, binA, binInt, unA, eqA, Option.map, eq_self, true_or, or_true, true_and, and_true, and_self, beq_self_eq_true, Bool.not_true, Bool.not_false, reduceCtorEq, Bool.false_eq_true, ite_true, ite_false, fitsAll, CK.fits, decide_true, Bool.and_true, Bool.true_and, fillA, AV.cells, writeN, sliceCells, appendA, lenA, i64, loA, hiA, hcells_last, hown_last, List.take_zero, List.drop_zero, List.nil_append, List.cons_append, List.append_nil, List.take_nil, List.drop_nil, List.length_cons, List.length_nil, List.length_append, Nat.zero_add, Nat.add_zero, Nat.reduceAdd, Nat.reduceMul, Nat.reduceDiv, Nat.reduceSub, Nat.mul_one, Nat.one_mul, Nat.div_one, Nat.le_refl, Nat.reduceLeDiff, Nat.reduceLT, Int.toNat_natCast, Int.toNat_zero, Nat.zero_le, Int.natCast_nonneg, Int.reduceLE, Int.reduceLT, Option.some.injEq, foldA, maxA, minA, Cell.int.injEq, AV.c.injEq, pre_nil, pre_cons, pre_gate, pre1_cons, pre1_gate, qstop_true, qstop_false, qstopg_false, qgate_true, qgate_false, pcont_some, pstop_true, pstop_false, pstopg_false, pgate_true, pgate_false, hpre_nil, hpre_cons, hpre_gate, hpre1_cons, hpre1_gate, hqstop_true, hqstop_false, hqstopg_false, hqgate_true, hqgate_false, hpcont_some, hpstop_true, hpstop_false, hpstopg_false, hpgate_true, hpgate_false, Int.reduceBEq, Int.reduceBNe, Int.reduceGT, Int.reduceGE, Int.reduceEq, Int.reduceNe, decide_false, nat_0, nat_1, nat_2, nat_3, nat_4, nat_8, nat_16, nat_64, nat_128, Int.reduceToNat, AOp.stops, pre1_nil, hpre1_nil, ↓want_eq, wantV_bool, wantV_undef, ↓exec_lenX, lenX_snil, lenX_slc, ↓exec_storeX, ↓exec_storeN, storeN_one, ↓exec_bsX, ↓exec_sliceX, ↓exec_copyX, ↓exec_appNil, ↓exec_carryX, Nat.sub_zero, Nat.reduceLT, rep_len, e1, e2, c]; with_reducible first | exact EqP.at_ | exact EqP.cont | exact EqP.hcont | exact EqP.gate | exact EqP.hgate)) | ((first | refine AW_ift ?_ ?_ | fail); focus (simp only [ev_t, put_some, put_none, List.set_cons_succ, List.set_cons_zero, List.getD_cons_succ, List.getD_cons_zero]; done)) | ((first | refine AW_iff ?_ ?_ | fail); focus (simp only [ev_t, put_some, put_none, List.set_cons_succ, List.set_cons_zero, List.getD_cons_succ, List.getD_cons_zero]; done))))
      refine ⟨?_, rfl, h, stale _ _ rfl⟩
      rcases Nat.lt_or_ge i 1024 with h' | h'
      · exact h'
      · have := Nat.mul_le_mul (by omega : 1025 ≤ i + 1) (by omega : 1025 ≤ i + 1); omega
    · have c : decide ((((i + 1) * (i + 1) : Nat) : Int) ≤ (n : Int)) = false := decide_eq_false (by omega)
      (repeat (first | with_reducible refine thenQ_n ?_ | with_reducible refine blockQ_n ?_ | with_reducible refine thenQ_e ?_ | with_reducible refine thenQ_r ?_ | with_reducible refine blockQ_r ?_ | with_reducible refine blockQ_s ?_ | with_reducible refine blockQ_o rfl ?_ | refine AW_skip ?_ | refine AW_seq ?_ | refine AW_ops ?_ | refine AW_blockS ?_ | refine AW_blockR ?_ | refine AW_blockD ?_ | refine AW_blockC ?_ | refine AO_nil ?_ | refine AW_draw ?_ | (refine AW_drawA ?_; simp only [atBlk, List.set_cons_succ, List.set_cons_zero, List.take_succ_cons, List.take_zero, List.drop_succ_cons, List.drop_zero]) | refine AHd_nil ?_ | with_reducible refine AP_at ?_ | with_reducible refine AHP_at ?_ | ((first | with_reducible apply AO_any | with_reducible apply AHd_any | with_reducible apply AP_go | with_reducible apply AHP_go); focus (simp only [List.take_succ_cons, List.take_zero, List.drop_succ_cons, List.drop_zero, bne_self_eq_false, List.map_cons, List.map_nil, Bool.true_beq, Bool.false_beq, run_nil, run_cons, run_gate, cont_some, gate_true, gate_false, hrun_nil, hrun_cons, hrun_gate, hcont_some, hgate_true, hgate_false, put_some, put_none, ev_t, ev_k, wantedA, execA, stepA, List.set_cons_succ, List.set_cons_zero, List.getD_cons_succ, List.getD_cons_zero, List.getElem?_cons_zero, List.getElem?_cons_succ, if_true, if_false, binA, binInt, unA, eqA, Option.map, eq_self, true_or, or_true, true_and, and_true, and_self, beq_self_eq_true, Bool.not_true, Bool.not_false, reduceCtorEq, Bool.false_eq_true, ite_true, ite_false, fitsAll, CK.fits, decide_true, Bool.and_true, Bool.true_and, fillA, AV.cells, writeN, sliceCells, appendA, lenA, i64, loA, hiA, hcells_last, hown_last, List.take_zero, List.drop_zero, List.nil_append, List.cons_append, List.append_nil, List.take_nil, List.drop_nil, List.length_cons, List.length_nil, List.length_append, Nat.zero_add, Nat.add_zero, Nat.reduceAdd, Nat.reduceMul, Nat.reduceDiv, Nat.reduceSub, Nat.mul_one, Nat.one_mul, Nat.div_one, Nat.le_refl, Nat.reduceLeDiff, Nat.reduceLT, Int.toNat_natCast, Int.toNat_zero, Nat.zero_le, Int.natCast_nonneg, Int.reduceLE, Int.reduceLT, Option.some.injEq, foldA, maxA, minA, Cell.int.injEq, AV.c.injEq, pre_nil, pre_cons, pre_gate, pre1_cons, pre1_gate, qstop_true, qstop_false, qstopg_false, qgate_true, qgate_false, pcont_some, pstop_true, pstop_false, pstopg_false, pgate_true, pgate_false, hpre_nil, hpre_cons, hpre_gate, hpre1_cons, hpre1_gate, hqstop_true, hqstop_false, hqstopg_false, hqgate_true, hqgate_false, hpcont_some, hpstop_true, hpstop_false, hpstopg_false, hpgate_true, hpgate_false, Int.reduceBEq, Int.reduceBNe, Int.reduceGT, Int.reduceGE, Int.reduceEq, Int.reduceNe, decide_false, nat_0, nat_1, nat_2, nat_3, nat_4, nat_8, nat_16, nat_64, nat_128, Int.reduceToNat, AOp.stops, pre1_nil, hpre1_nil, ↓want_eq, wantV_bool, wantV_undef, ↓exec_lenX, lenX_snil, lenX_slc, ↓exec_storeX, ↓exec_storeN, storeN_one, ↓exec_bsX, ↓exec_sliceX, ↓exec_copyX, ↓exec_appNil, ↓exec_carryX, Nat.sub_zero, Nat.reduceLT, rep_len, e1, e2, c]; with_reducible first | exact EqP.at_ | exact EqP.cont | exact EqP.hcont | exact EqP.gate | exact EqP.hgate)) | ((first | refine AW_ift ?_ ?_ | fail); focus (simp only [ev_t, put_some, put_none, List.set_cons_succ, List.set_cons_zero, List.getD_cons_succ, List.getD_cons_zero]; done)) | ((first | refine AW_iff ?_ ?_ | fail); focus (simp only [ev_t, put_some, put_none, List.set_cons_succ, List.set_cons_zero, List.getD_cons_succ, List.getD_cons_zero]; done))))
      exact AW_exit ⟨rfl, i, by omega, rfl, hw, stale _ _ rfl⟩
  rintro e fr _ ⟨rfl, i, h1, rfl, h2, st, rfl⟩
  (repeat (first | with_reducible refine thenQ_n ?_ | with_reducible refine blockQ_n ?_ | with_reducible refine thenQ_e ?_ | with_reducible refine thenQ_r ?_ | with_reducible refine blockQ_r ?_ | with_reducible refine blockQ_s ?_ | with_reducible refine blockQ_o rfl ?_ | refine AW_skip ?_ | refine AW_seq ?_ | refine AW_ops ?_ | refine AW_blockS ?_ | refine AW_blockR ?_ | refine AW_blockD ?_ | refine AW_blockC ?_ | refine AO_nil ?_ | refine AW_draw ?_ | (refine AW_drawA ?_; simp only [atBlk, List.set_cons_succ, List.set_cons_zero, List.take_succ_cons, List.take_zero, List.drop_succ_cons, List.drop_zero]) | refine AHd_nil ?_ | with_reducible refine AP_at ?_ | with_reducible refine AHP_at ?_ | ((first | with_reducible apply AO_any | with_reducible apply AHd_any | with_reducible apply AP_go | with_reducible apply AHP_go); focus (simp only [List.take_succ_cons, List.take_zero, List.drop_succ_cons, List.drop_zero, bne_self_eq_false, List.map_cons, List.map_nil, Bool.true_beq, Bool.false_beq, run_nil, run_cons, run_gate, cont_some, gate_true, gate_false, hrun_nil, hrun_cons, hrun_gate, hcont_some, hgate_true, hgate_false, put_some, put_none, ev_t, ev_k, wantedA, execA, stepA, List.set_cons_succ, List.set_cons_zero, List.getD_cons_succ, List.getD_cons_zero, List.getElem?_cons_zero, List.getElem?_cons_succ, if_true, if_false, binA, binInt, unA, eqA, Option.map, eq_self, true_or, or_true, true_and, and_true, and_self, beq_self_eq_true, Bool.not_true, Bool.not_false, reduceCtorEq, Bool.false_eq_true, ite_true, ite_false, fitsAll, CK.fits, decide_true, Bool.and_true, Bool.true_and, fillA, AV.cells, writeN, sliceCells, appendA, lenA, i64, loA, hiA, hcells_last, hown_last, List.take_zero, List.drop_zero, List.nil_append, List.cons_append, List.append_nil, List.take_nil, List.drop_nil, List.length_cons, List.length_nil, List.length_append, Nat.zero_add, Nat.add_zero, Nat.reduceAdd, Nat.reduceMul, Nat.reduceDiv, Nat.reduceSub, Nat.mul_one, Nat.one_mul, Nat.div_one, Nat.le_refl, Nat.reduceLeDiff, Nat.reduceLT, Int.toNat_natCast, Int.toNat_zero, Nat.zero_le, Int.natCast_nonneg, Int.reduceLE, Int.reduceLT, Option.some.injEq, foldA, maxA, minA, Cell.int.injEq, AV.c.injEq, pre_nil, pre_cons, pre_gate, pre1_cons, pre1_gate, qstop_true, qstop_false, qstopg_false, qgate_true, qgate_false, pcont_some, pstop_true, pstop_false, pstopg_false, pgate_true, pgate_false, hpre_nil, hpre_cons, hpre_gate, hpre1_cons, hpre1_gate, hqstop_true, hqstop_false, hqstopg_false, hqgate_true, hqgate_false, hpcont_some, hpstop_true, hpstop_false, hpstopg_false, hpgate_true, hpgate_false, Int.reduceBEq, Int.reduceBNe, Int.reduceGT, Int.reduceGE, Int.reduceEq, Int.reduceNe, decide_false, nat_0, nat_1, nat_2, nat_3, nat_4, nat_8, nat_16, nat_64, nat_128, Int.reduceToNat, AOp.stops, pre1_nil, hpre1_nil, ↓want_eq, wantV_bool, wantV_undef, ↓exec_lenX, lenX_snil, lenX_slc, ↓exec_storeX, ↓exec_storeN, storeN_one, ↓exec_bsX, ↓exec_sliceX, ↓exec_copyX, ↓exec_appNil, ↓exec_carryX, Nat.sub_zero, Nat.reduceLT, rep_len]; with_reducible first | exact EqP.at_ | exact EqP.cont | exact EqP.hcont | exact EqP.gate | exact EqP.hgate)) | ((first | refine AW_ift ?_ ?_ | fail); focus (simp only [ev_t, put_some, put_none, List.set_cons_succ, List.set_cons_zero, List.getD_cons_succ, List.getD_cons_zero]; done)) | ((first | refine AW_iff ?_ ?_ | fail); focus (simp only [ev_t, put_some, put_none, List.set_cons_succ, List.set_cons_zero, List.getD_cons_succ, List.getD_cons_zero]; done))))
  exact AW_ret ⟨_, rfl, i, rfl, h2, h1, rfl⟩
end
end PK
