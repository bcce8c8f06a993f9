/- Texts of this claim, put together: L23a KPestleref23 L23b L12f L01o L01p L12g L23c L23d L23e KSize L02a KRomix L24a L24b. -/
import Derived.Test.YtkmclhpnakphfaaG8
import Derived.Test.YtkmclhpnakphfaaG9
/- Where blocks go: shuffle.Places; ShufflePlaces, walked. -/

namespace PK
open Go PAbs
set_option linter.unusedSimpArgs false
set_option linter.unusedVariables false
set_option maxRecDepth 100000
set_option maxHeartbeats 2000000

def plc (r i : Nat) : Nat := i / 2 + (if i % 2 = 1 then r else 0)
theorem plc_lt {r i : Nat} (h : i < 2 * r) : plc r i < 2 * r := by simp only [plc]; split <;> omega
theorem zerosI (n : Nat) : (List.replicate n [Cell.int .i64 0]).flatten = I64 (List.replicate n 0) := by
  induction n with
  | zero => rfl
  | succ n ih => simp only [List.replicate_succ, List.flatten_cons, ih, I64, List.map_cons]; rfl
def plI (q r : Nat) (H0 : AHeap) (i : Nat) (fr : AFrame) (H : AHeap) : Prop := hown H q = some (I64 (upd (plc r) (List.replicate (2 * r) 0) i)) ∧ (∃ s : Nat → AV, fr = [.c (.int .i64 (r : Int)), s 1, s 2, s 3, .c (.slc q 0 (2 * r) 1), s 5, s 6, s 7, s 8, s 9, s 10, s 11, s 12, s 13, s 14, s 15, .c (.int .i64 ((2 * r : Nat) : Int)), .c (.int .i64 (i : Int)), s 18, s 19, s 20, s 21, s 22, s 23, s 24, s 25, s 26, s 27, s 28, s 29, s 30, s 31, s 32, s 33, s 34, s 35, s 36])

theorem AC_Places (H : AHeap) (z : Int) (hz : -9223372036854775808 ≤ z ∧ z ≤ 9223372036854775807) : AC A H.length F_shuffle_Places [.c (.int .i64 z)] H
    (fun v H' => ((z < 1 ∨ z > 512) ∧ v = .tup [.c .snil, .c (.int .i64 2)]) ∨ (1 ≤ z ∧ z ≤ 512 ∧ ∃ q, v = .tup [.c (.slc q 0 (2 * z.toNat) 1), .c (.int .i64 0)] ∧ H.length ≤ q ∧ hown H' q = some (I64 (upd (plc z.toNat) (List.replicate (2 * z.toNat) 0) (2 * z.toNat))))) := by
  refine AC_enter t_shuffle_Places ?_; simp only [c_shuffle_Places, enterA, List.replicate, List.length_cons, List.length_nil, Nat.reduceAdd, Nat.reduceSub, List.cons_append, List.nil_append]
  rcases Decidable.em (z < 1) with h1 | h1
  · (repeat (first | with_reducible refine thenQ_n ?_ | with_reducible refine blockQ_n ?_ | refine AW_skip ?_ | refine AW_seq ?_ | refine AW_ops ?_ | refine AW_blockS ?_ | refine AW_blockR ?_ | refine AW_blockD ?_ | refine AW_blockC ?_ | refine AO_nil ?_ | refine AW_draw ?_ | refine AW_draw3 ?_ | refine AW_blockD3 ?_ | refine AHd_nil ?_ | ((first | with_reducible apply AO_pre | with_reducible apply AHd_pre); focus (simp only [Sm, wantedA, execA, stepA, List.getElem?_cons_zero, List.getElem?_cons_succ, if_true, if_false, binA, binInt, unA, eqA, Option.map, eq_self, reduceCtorEq, ite_true, ite_false, cellsAV, fitsAll, CK.fits, fillA, AV.cells, writeN, readN, sliceCells, appendA, lenA, i64, loA, hiA, Nat.reduceAdd, Nat.reduceMul, Nat.reduceDiv, Nat.reduceSub, Nat.reduceLeDiff, Nat.reduceLT, Int.reduceLE, Int.reduceLT, foldA, maxA, minA, Int.reduceBEq, Int.reduceBNe, Int.reduceGT, Int.reduceGE, Int.reduceEq, Int.reduceNe, Int.reduceToNat, AOp.stops, ↓want_eq, ↓exec_lenX, decide_eq_true h1]; with_reducible rfl))))
    refine AW_cond (t := true) rfl (fun _ => ?_) (fun h => by cases h)
    (repeat (first | with_reducible refine thenQ_n ?_ | with_reducible refine blockQ_n ?_ | refine AW_skip ?_ | refine AW_seq ?_ | refine AW_ops ?_ | refine AW_blockS ?_ | refine AW_blockR ?_ | refine AW_blockD ?_ | refine AW_blockC ?_ | refine AO_nil ?_ | refine AW_draw ?_ | refine AW_draw3 ?_ | refine AW_blockD3 ?_ | refine AHd_nil ?_ | ((first | with_reducible apply AO_pre | with_reducible apply AHd_pre); focus (simp only [Sm, wantedA, execA, stepA, List.getElem?_cons_zero, List.getElem?_cons_succ, if_true, if_false, binA, binInt, unA, eqA, Option.map, eq_self, reduceCtorEq, ite_true, ite_false, cellsAV, fitsAll, CK.fits, fillA, AV.cells, writeN, readN, sliceCells, appendA, lenA, i64, loA, hiA, Nat.reduceAdd, Nat.reduceMul, Nat.reduceDiv, Nat.reduceSub, Nat.reduceLeDiff, Nat.reduceLT, Int.reduceLE, Int.reduceLT, foldA, maxA, minA, Int.reduceBEq, Int.reduceBNe, Int.reduceGT, Int.reduceGE, Int.reduceEq, Int.reduceNe, Int.reduceToNat, AOp.stops, ↓want_eq, ↓exec_lenX]; with_reducible rfl))))
    exact AW_ret ⟨_, rfl, .inl ⟨.inl h1, rfl⟩⟩
  rcases Decidable.em (z > 512) with h2 | h2
  · (repeat (first | with_reducible refine thenQ_n ?_ | with_reducible refine blockQ_n ?_ | refine AW_skip ?_ | refine AW_seq ?_ | refine AW_ops ?_ | refine AW_blockS ?_ | refine AW_blockR ?_ | refine AW_blockD ?_ | refine AW_blockC ?_ | refine AO_nil ?_ | refine AW_draw ?_ | refine AW_draw3 ?_ | refine AW_blockD3 ?_ | refine AHd_nil ?_ | ((first | with_reducible apply AO_pre | with_reducible apply AHd_pre); focus (simp only [Sm, wantedA, execA, stepA, List.getElem?_cons_zero, List.getElem?_cons_succ, if_true, if_false, binA, binInt, unA, eqA, Option.map, eq_self, reduceCtorEq, ite_true, ite_false, cellsAV, fitsAll, CK.fits, fillA, AV.cells, writeN, readN, sliceCells, appendA, lenA, i64, loA, hiA, Nat.reduceAdd, Nat.reduceMul, Nat.reduceDiv, Nat.reduceSub, Nat.reduceLeDiff, Nat.reduceLT, Int.reduceLE, Int.reduceLT, foldA, maxA, minA, Int.reduceBEq, Int.reduceBNe, Int.reduceGT, Int.reduceGE, Int.reduceEq, Int.reduceNe, Int.reduceToNat, AOp.stops, ↓want_eq, ↓exec_lenX, decide_eq_false h1, decide_eq_true h2]; with_reducible rfl))))
    refine AW_cond (t := true) rfl (fun _ => ?_) (fun h => by cases h)
    (repeat (first | with_reducible refine thenQ_n ?_ | with_reducible refine blockQ_n ?_ | refine AW_skip ?_ | refine AW_seq ?_ | refine AW_ops ?_ | refine AW_blockS ?_ | refine AW_blockR ?_ | refine AW_blockD ?_ | refine AW_blockC ?_ | refine AO_nil ?_ | refine AW_draw ?_ | refine AW_draw3 ?_ | refine AW_blockD3 ?_ | refine AHd_nil ?_ | ((first | with_reducible apply AO_pre | with_reducible apply AHd_pre); focus (simp only [Sm, wantedA, execA, stepA, List.getElem?_cons_zero, List.getElem?_cons_succ, if_true, if_false, binA, binInt, unA, eqA, Option.map, eq_self, reduceCtorEq, ite_true, ite_false, cellsAV, fitsAll, CK.fits, fillA, AV.cells, writeN, readN, sliceCells, appendA, lenA, i64, loA, hiA, Nat.reduceAdd, Nat.reduceMul, Nat.reduceDiv, Nat.reduceSub, Nat.reduceLeDiff, Nat.reduceLT, Int.reduceLE, Int.reduceLT, foldA, maxA, minA, Int.reduceBEq, Int.reduceBNe, Int.reduceGT, Int.reduceGE, Int.reduceEq, Int.reduceNe, Int.reduceToNat, AOp.stops, ↓want_eq, ↓exec_lenX]; with_reducible rfl))))
    exact AW_ret ⟨_, rfl, .inl ⟨.inr h2, rfl⟩⟩
  obtain ⟨r, rfl⟩ := Int.eq_ofNat_of_zero_le (show 0 ≤ z by omega)
  have hr : r ≤ 512 := by omega
  have hr1 : 1 ≤ r := by omega
  rw [Int.toNat_natCast]
  (repeat (first | with_reducible refine thenQ_n ?_ | with_reducible refine blockQ_n ?_ | refine AW_skip ?_ | refine AW_seq ?_ | refine AW_ops ?_ | refine AW_blockS ?_ | refine AW_blockR ?_ | refine AW_blockD ?_ | refine AW_blockC ?_ | refine AO_nil ?_ | refine AW_draw ?_ | refine AW_draw3 ?_ | refine AW_blockD3 ?_ | refine AHd_nil ?_ | ((first | with_reducible apply AO_pre | with_reducible apply AHd_pre); focus (simp only [Sm, wantedA, execA, stepA, List.getElem?_cons_zero, List.getElem?_cons_succ, if_true, if_false, binA, binInt, unA, eqA, Option.map, eq_self, reduceCtorEq, ite_true, ite_false, cellsAV, fitsAll, CK.fits, fillA, AV.cells, writeN, readN, sliceCells, appendA, lenA, i64, loA, hiA, Nat.reduceAdd, Nat.reduceMul, Nat.reduceDiv, Nat.reduceSub, Nat.reduceLeDiff, Nat.reduceLT, Int.reduceLE, Int.reduceLT, foldA, maxA, minA, Int.reduceBEq, Int.reduceBNe, Int.reduceGT, Int.reduceGE, Int.reduceEq, Int.reduceNe, Int.reduceToNat, AOp.stops, ↓want_eq, ↓exec_lenX, decide_eq_false h1, decide_eq_false h2]; with_reducible rfl))))
  refine AW_cond (t := false) rfl (fun h => by cases h) fun _ => ?_
  have e1 : IntKind.i64.wrap (2 * (r : Int)) = ((2 * r : Nat) : Int) := by rw [i64_of (by omega) (by omega)]; omega
  have e2 : ((2 * r : Nat) : Int) * 8 ≤ 140737488355328 := by omega
  (repeat (first | with_reducible refine thenQ_n ?_ | with_reducible refine blockQ_n ?_ | refine AW_skip ?_ | refine AW_seq ?_ | refine AW_ops ?_ | refine AW_blockS ?_ | refine AW_blockR ?_ | refine AW_blockD ?_ | refine AW_blockC ?_ | refine AO_nil ?_ | refine AW_draw ?_ | refine AW_draw3 ?_ | refine AW_blockD3 ?_ | refine AHd_nil ?_ | ((first | with_reducible apply AO_pre | with_reducible apply AHd_pre); focus (simp only [Sm, wantedA, execA, stepA, List.getElem?_cons_zero, List.getElem?_cons_succ, if_true, if_false, binA, binInt, unA, eqA, Option.map, eq_self, reduceCtorEq, ite_true, ite_false, cellsAV, fitsAll, CK.fits, fillA, AV.cells, writeN, readN, sliceCells, appendA, lenA, i64, loA, hiA, Nat.reduceAdd, Nat.reduceMul, Nat.reduceDiv, Nat.reduceSub, Nat.reduceLeDiff, Nat.reduceLT, Int.reduceLE, Int.reduceLT, foldA, maxA, minA, Int.reduceBEq, Int.reduceBNe, Int.reduceGT, Int.reduceGE, Int.reduceEq, Int.reduceNe, Int.reduceToNat, AOp.stops, ↓want_eq, ↓exec_lenX, e1, e2, Int.le_refl, zerosI]; with_reducible rfl))))
  have ho : hown (H ++ [Blk.own (I64 (List.replicate (2 * r) 0))]) H.length = some (I64 (List.replicate (2 * r) 0)) := hown_last
  generalize H ++ [Blk.own (I64 (List.replicate (2 * r) 0))] = H1 at *
  generalize H.length = q at *
  (repeat (first | with_reducible refine thenQ_n ?_ | with_reducible refine blockQ_n ?_ | refine AW_skip ?_ | refine AW_seq ?_ | refine AW_ops ?_ | refine AW_blockS ?_ | refine AW_blockR ?_ | refine AW_blockD ?_ | refine AW_blockC ?_ | refine AO_nil ?_ | refine AW_draw ?_ | refine AW_draw3 ?_ | refine AW_blockD3 ?_ | refine AHd_nil ?_ | ((first | with_reducible apply AO_pre | with_reducible apply AHd_pre); focus (simp only [Sm, wantedA, execA, stepA, List.getElem?_cons_zero, List.getElem?_cons_succ, if_true, if_false, binA, binInt, unA, eqA, Option.map, eq_self, reduceCtorEq, ite_true, ite_false, cellsAV, fitsAll, CK.fits, fillA, AV.cells, writeN, readN, sliceCells, appendA, lenA, i64, loA, hiA, Nat.reduceAdd, Nat.reduceMul, Nat.reduceDiv, Nat.reduceSub, Nat.reduceLeDiff, Nat.reduceLT, Int.reduceLE, Int.reduceLT, foldA, maxA, minA, Int.reduceBEq, Int.reduceBNe, Int.reduceGT, Int.reduceGE, Int.reduceEq, Int.reduceNe, Int.reduceToNat, AOp.stops, ↓want_eq, ↓exec_lenX, hcells_own ho]; with_reducible rfl))))
  refine AW_mid (fun e fr H' => e = .normal ∧ plI q r H1 (2 * r) fr H') ?_ ?_
  · refine AW_block (AW_up (plI q r H1) (2 * r) ⟨ho, stale _ _ rfl⟩ ?_)
    rintro i fr H2 hi ⟨ho2, st, rfl⟩
    (repeat (first | with_reducible refine thenQ_n ?_ | with_reducible refine blockQ_n ?_ | refine AW_skip ?_ | refine AW_seq ?_ | refine AW_ops ?_ | refine AW_blockS ?_ | refine AW_blockR ?_ | refine AW_blockD ?_ | refine AW_blockC ?_ | refine AO_nil ?_ | refine AW_draw ?_ | refine AW_draw3 ?_ | refine AW_blockD3 ?_ | refine AHd_nil ?_ | ((first | with_reducible apply AO_pre | with_reducible apply AHd_pre); focus (simp only [Sm, wantedA, execA, stepA, List.getElem?_cons_zero, List.getElem?_cons_succ, if_true, if_false, binA, binInt, unA, eqA, Option.map, eq_self, reduceCtorEq, ite_true, ite_false, cellsAV, fitsAll, CK.fits, fillA, AV.cells, writeN, readN, sliceCells, appendA, lenA, i64, loA, hiA, Nat.reduceAdd, Nat.reduceMul, Nat.reduceDiv, Nat.reduceSub, Nat.reduceLeDiff, Nat.reduceLT, Int.reduceLE, Int.reduceLT, foldA, maxA, minA, Int.reduceBEq, Int.reduceBNe, Int.reduceGT, Int.reduceGE, Int.reduceEq, Int.reduceNe, Int.reduceToNat, AOp.stops, ↓want_eq, ↓exec_lenX]; with_reducible rfl))))
    refine AW_cond rfl ?_ ?_ <;> intro ht
    · have ht : (i : Int) < ((2 * r : Nat) : Int) := of_decide_eq_true ht
      have hi2 : i < 2 * r := by omega
      have e3 : Int.tdiv (i : Int) 2 = ((i / 2 : Nat) : Int) := tdiv_nat
      have e4 : IntKind.i64.wrap ((i / 2 : Nat) : Int) = ((i / 2 : Nat) : Int) := i64_of (by omega) (by omega)
      have e5 : Int.tmod (i : Int) 2 = ((i % 2 : Nat) : Int) := tmod_nat
      have e6 : ¬ ((2 : Int) = 0) := by omega
      have ul : (I64 (upd (plc r) (List.replicate (2 * r) 0) i)).length = 2 * r := by rw [I64_length, upd_length]; simp
      have c0 : (((i % 2 : Nat) : Int) == 1) = decide (i % 2 = 1) := by rw [Bool.eq_iff_iff, beq_iff_eq, decide_eq_true_eq]; omega
      (repeat (first | with_reducible refine thenQ_n ?_ | with_reducible refine blockQ_n ?_ | refine AW_skip ?_ | refine AW_seq ?_ | refine AW_ops ?_ | refine AW_blockS ?_ | refine AW_blockR ?_ | refine AW_blockD ?_ | refine AW_blockC ?_ | refine AO_nil ?_ | refine AW_draw ?_ | refine AW_draw3 ?_ | refine AW_blockD3 ?_ | refine AHd_nil ?_ | ((first | with_reducible apply AO_pre | with_reducible apply AHd_pre); focus (simp only [Sm, wantedA, execA, stepA, List.getElem?_cons_zero, List.getElem?_cons_succ, if_true, if_false, binA, binInt, unA, eqA, Option.map, eq_self, reduceCtorEq, ite_true, ite_false, cellsAV, fitsAll, CK.fits, fillA, AV.cells, writeN, readN, sliceCells, appendA, lenA, i64, loA, hiA, Nat.reduceAdd, Nat.reduceMul, Nat.reduceDiv, Nat.reduceSub, Nat.reduceLeDiff, Nat.reduceLT, Int.reduceLE, Int.reduceLT, foldA, maxA, minA, Int.reduceBEq, Int.reduceBNe, Int.reduceGT, Int.reduceGE, Int.reduceEq, Int.reduceNe, Int.reduceToNat, AOp.stops, ↓want_eq, ↓exec_lenX, hcells_own ho2, ht, e3, e4, e6, ↓exec_storeX, storeX_own ho2 (Nat.le_refl _) (by rw [ul]; exact hi2 : i < _), Nat.zero_add]; with_reducible rfl))))
      have ho3 : hown (H2.set q (.own ((I64 (upd (plc r) (List.replicate (2 * r) 0) i)).set i (.int .i64 ((i / 2 : Nat) : Int))))) q = some (I64 ((upd (plc r) (List.replicate (2 * r) 0) i).set i (i / 2))) := by rw [hown_set (hown_lt ho2), I64_set]
      generalize H2.set q (.own ((I64 (upd (plc r) (List.replicate (2 * r) 0) i)).set i (.int .i64 ((i / 2 : Nat) : Int)))) = H3 at *
      have ul3 : (I64 ((upd (plc r) (List.replicate (2 * r) 0) i).set i (i / 2))).length = 2 * r := by rw [I64_length, List.length_set, upd_length]; simp
      have ho3c := hcells_own ho3
      refine AW_cond (t := decide (i % 2 = 1)) (?_ : _ = AV.c (.bool _)) ?_ ?_
      · simp only [ev_t, List.getD_cons_succ, List.getD_cons_zero, e5, c0]
      all_goals intro hd
      · have hodd : i % 2 = 1 := of_decide_eq_true hd
        have g1 : (I64 ((upd (plc r) (List.replicate (2 * r) 0) i).set i (i / 2)))[i]? = some (.int .i64 ((i / 2 : Nat) : Int)) := by
          rw [← I64_set, List.getElem?_set_self (by rw [ul]; exact hi2)]
        have e7 : IntKind.i64.wrap (((i / 2 : Nat) : Int) + (r : Int)) = ((i / 2 + r : Nat) : Int) := i64_add (by omega)
        (repeat (first | with_reducible refine thenQ_n ?_ | with_reducible refine blockQ_n ?_ | refine AW_skip ?_ | refine AW_seq ?_ | refine AW_ops ?_ | refine AW_blockS ?_ | refine AW_blockR ?_ | refine AW_blockD ?_ | refine AW_blockC ?_ | refine AO_nil ?_ | refine AW_draw ?_ | refine AW_draw3 ?_ | refine AW_blockD3 ?_ | refine AHd_nil ?_ | ((first | with_reducible apply AO_pre | with_reducible apply AHd_pre); focus (simp only [Sm, wantedA, execA, stepA, List.getElem?_cons_zero, List.getElem?_cons_succ, if_true, if_false, binA, binInt, unA, eqA, Option.map, eq_self, reduceCtorEq, ite_true, ite_false, cellsAV, fitsAll, CK.fits, fillA, AV.cells, writeN, readN, sliceCells, appendA, lenA, i64, loA, hiA, Nat.reduceAdd, Nat.reduceMul, Nat.reduceDiv, Nat.reduceSub, Nat.reduceLeDiff, Nat.reduceLT, Int.reduceLE, Int.reduceLT, foldA, maxA, minA, Int.reduceBEq, Int.reduceBNe, Int.reduceGT, Int.reduceGE, Int.reduceEq, Int.reduceNe, Int.reduceToNat, AOp.stops, ↓want_eq, ↓exec_lenX, ho3c, ht, g1, e7, ↓exec_storeX, storeX_own ho3 (Nat.le_refl _) (by rw [ul3]; exact hi2 : i < _), Nat.zero_add, i64_succ (show i < 9223372036854775807 by omega)]; with_reducible rfl))))
        refine ⟨hi2, ?_, stale _ _ rfl⟩
        rw [hown_set (hown_lt ho3), I64_set, List.set_set, show i / 2 + r = plc r i by simp only [plc, if_pos hodd]]; rfl
      · have hodd : ¬ i % 2 = 1 := of_decide_eq_false hd
        (repeat (first | with_reducible refine thenQ_n ?_ | with_reducible refine blockQ_n ?_ | refine AW_skip ?_ | refine AW_seq ?_ | refine AW_ops ?_ | refine AW_blockS ?_ | refine AW_blockR ?_ | refine AW_blockD ?_ | refine AW_blockC ?_ | refine AO_nil ?_ | refine AW_draw ?_ | refine AW_draw3 ?_ | refine AW_blockD3 ?_ | refine AHd_nil ?_ | ((first | with_reducible apply AO_pre | with_reducible apply AHd_pre); focus (simp only [Sm, wantedA, execA, stepA, List.getElem?_cons_zero, List.getElem?_cons_succ, if_true, if_false, binA, binInt, unA, eqA, Option.map, eq_self, reduceCtorEq, ite_true, ite_false, cellsAV, fitsAll, CK.fits, fillA, AV.cells, writeN, readN, sliceCells, appendA, lenA, i64, loA, hiA, Nat.reduceAdd, Nat.reduceMul, Nat.reduceDiv, Nat.reduceSub, Nat.reduceLeDiff, Nat.reduceLT, Int.reduceLE, Int.reduceLT, foldA, maxA, minA, Int.reduceBEq, Int.reduceBNe, Int.reduceGT, Int.reduceGE, Int.reduceEq, Int.reduceNe, Int.reduceToNat, AOp.stops, ↓want_eq, ↓exec_lenX, i64_succ (show i < 9223372036854775807 by omega)]; with_reducible rfl))))
        refine ⟨hi2, ?_, stale _ _ rfl⟩
        rw [ho3, show i / 2 = plc r i by simp only [plc, if_neg hodd, Nat.add_zero]]; rfl
    · obtain rfl : i = 2 * r := by have : ¬ (i : Int) < ((2 * r : Nat) : Int) := of_decide_eq_false ht; omega
      exact AW_exit ⟨rfl, ho2, stale _ _ rfl⟩
  rintro e fr H2 ⟨rfl, ho2, st, rfl⟩
  (repeat (first | with_reducible refine thenQ_n ?_ | with_reducible refine blockQ_n ?_ | refine AW_skip ?_ | refine AW_seq ?_ | refine AW_ops ?_ | refine AW_blockS ?_ | refine AW_blockR ?_ | refine AW_blockD ?_ | refine AW_blockC ?_ | refine AO_nil ?_ | refine AW_draw ?_ | refine AW_draw3 ?_ | refine AW_blockD3 ?_ | refine AHd_nil ?_ | ((first | with_reducible apply AO_pre | with_reducible apply AHd_pre); focus (simp only [Sm, wantedA, execA, stepA, List.getElem?_cons_zero, List.getElem?_cons_succ, if_true, if_false, binA, binInt, unA, eqA, Option.map, eq_self, reduceCtorEq, ite_true, ite_false, cellsAV, fitsAll, CK.fits, fillA, AV.cells, writeN, readN, sliceCells, appendA, lenA, i64, loA, hiA, Nat.reduceAdd, Nat.reduceMul, Nat.reduceDiv, Nat.reduceSub, Nat.reduceLeDiff, Nat.reduceLT, Int.reduceLE, Int.reduceLT, foldA, maxA, minA, Int.reduceBEq, Int.reduceBNe, Int.reduceGT, Int.reduceGE, Int.reduceEq, Int.reduceNe, Int.reduceToNat, AOp.stops, ↓want_eq, ↓exec_lenX]; with_reducible rfl))))
  exact AW_ret ⟨_, rfl, .inr ⟨by omega, by omega, q, rfl, Nat.le_refl _, ho2⟩⟩


end PK

/- Package pestleref23 as code of the abstract machine. -/
namespace PK
open Go PAbs

end PK

/- Package shuffle and the document's: Check, Why, Integer: walked. -/
namespace PK
open Go PAbs
set_option linter.unusedSimpArgs false
set_option linter.unusedVariables false
set_option maxRecDepth 100000
set_option maxHeartbeats 2000000

def whyE (z : Int) (n : Nat) : Int := if z < 1 ∨ z > 512 then 2 else if (n : Int) ≠ 32 * z then 9 else 0
section
variable (H : AHeap) (y : Cell) (ls : List Nat) (z : Int) (hy : Rd H y 1 (W32 ls))
include hy
theorem AC_shCheck : AC A H.length F_shuffle_Check [.c (.int .i64 z), .c y] H (fun v H' => v = .c (.int .i64 (whyE z ls.length)) ∧ H = H') := by
  have yl : (W32 ls).length = ls.length := W32_length
  refine AC_enter t_shuffle_Check ?_; simp only [c_shuffle_Check, enterA, List.replicate, List.length_cons, List.length_nil, Nat.reduceAdd, Nat.reduceSub, List.cons_append, List.nil_append]
  rcases Decidable.em (z < 1) with h1 | h1
  · (repeat (first | with_reducible refine thenQ_n ?_ | with_reducible refine blockQ_n ?_ | refine AW_skip ?_ | refine AW_seq ?_ | refine AW_ops ?_ | refine AW_blockS ?_ | refine AW_blockR ?_ | refine AW_blockD ?_ | refine AW_blockC ?_ | refine AO_nil ?_ | refine AW_draw ?_ | refine AW_draw3 ?_ | refine AW_blockD3 ?_ | refine AHd_nil ?_ | ((first | with_reducible apply AO_pre | with_reducible apply AHd_pre); focus (simp only [Sm, wantedA, execA, stepA, List.getElem?_cons_zero, List.getElem?_cons_succ, if_true, if_false, binA, binInt, unA, eqA, Option.map, eq_self, reduceCtorEq, ite_true, ite_false, cellsAV, fitsAll, CK.fits, fillA, AV.cells, writeN, readN, sliceCells, appendA, lenA, i64, loA, hiA, Nat.reduceAdd, Nat.reduceMul, Nat.reduceDiv, Nat.reduceSub, Nat.reduceLeDiff, Nat.reduceLT, Int.reduceLE, Int.reduceLT, foldA, maxA, minA, Int.reduceBEq, Int.reduceBNe, Int.reduceGT, Int.reduceGE, Int.reduceEq, Int.reduceNe, Int.reduceToNat, AOp.stops, ↓want_eq, ↓exec_lenX, decide_eq_true h1]; with_reducible rfl))))
    refine AW_cond (t := true) rfl (fun _ => ?_) (fun h => by cases h)
    (repeat (first | with_reducible refine thenQ_n ?_ | with_reducible refine blockQ_n ?_ | refine AW_skip ?_ | refine AW_seq ?_ | refine AW_ops ?_ | refine AW_blockS ?_ | refine AW_blockR ?_ | refine AW_blockD ?_ | refine AW_blockC ?_ | refine AO_nil ?_ | refine AW_draw ?_ | refine AW_draw3 ?_ | refine AW_blockD3 ?_ | refine AHd_nil ?_ | ((first | with_reducible apply AO_pre | with_reducible apply AHd_pre); focus (simp only [Sm, wantedA, execA, stepA, List.getElem?_cons_zero, List.getElem?_cons_succ, if_true, if_false, binA, binInt, unA, eqA, Option.map, eq_self, reduceCtorEq, ite_true, ite_false, cellsAV, fitsAll, CK.fits, fillA, AV.cells, writeN, readN, sliceCells, appendA, lenA, i64, loA, hiA, Nat.reduceAdd, Nat.reduceMul, Nat.reduceDiv, Nat.reduceSub, Nat.reduceLeDiff, Nat.reduceLT, Int.reduceLE, Int.reduceLT, foldA, maxA, minA, Int.reduceBEq, Int.reduceBNe, Int.reduceGT, Int.reduceGE, Int.reduceEq, Int.reduceNe, Int.reduceToNat, AOp.stops, ↓want_eq, ↓exec_lenX]; with_reducible rfl))))
    exact AW_ret ⟨_, rfl, by simp only [whyE, if_pos (Or.inl h1 : z < 1 ∨ z > 512)]; rfl, rfl⟩
  rcases Decidable.em (z > 512) with h2 | h2
  · (repeat (first | with_reducible refine thenQ_n ?_ | with_reducible refine blockQ_n ?_ | refine AW_skip ?_ | refine AW_seq ?_ | refine AW_ops ?_ | refine AW_blockS ?_ | refine AW_blockR ?_ | refine AW_blockD ?_ | refine AW_blockC ?_ | refine AO_nil ?_ | refine AW_draw ?_ | refine AW_draw3 ?_ | refine AW_blockD3 ?_ | refine AHd_nil ?_ | ((first | with_reducible apply AO_pre | with_reducible apply AHd_pre); focus (simp only [Sm, wantedA, execA, stepA, List.getElem?_cons_zero, List.getElem?_cons_succ, if_true, if_false, binA, binInt, unA, eqA, Option.map, eq_self, reduceCtorEq, ite_true, ite_false, cellsAV, fitsAll, CK.fits, fillA, AV.cells, writeN, readN, sliceCells, appendA, lenA, i64, loA, hiA, Nat.reduceAdd, Nat.reduceMul, Nat.reduceDiv, Nat.reduceSub, Nat.reduceLeDiff, Nat.reduceLT, Int.reduceLE, Int.reduceLT, foldA, maxA, minA, Int.reduceBEq, Int.reduceBNe, Int.reduceGT, Int.reduceGE, Int.reduceEq, Int.reduceNe, Int.reduceToNat, AOp.stops, ↓want_eq, ↓exec_lenX, decide_eq_false h1, decide_eq_true h2]; with_reducible rfl))))
    refine AW_cond (t := true) rfl (fun _ => ?_) (fun h => by cases h)
    (repeat (first | with_reducible refine thenQ_n ?_ | with_reducible refine blockQ_n ?_ | refine AW_skip ?_ | refine AW_seq ?_ | refine AW_ops ?_ | refine AW_blockS ?_ | refine AW_blockR ?_ | refine AW_blockD ?_ | refine AW_blockC ?_ | refine AO_nil ?_ | refine AW_draw ?_ | refine AW_draw3 ?_ | refine AW_blockD3 ?_ | refine AHd_nil ?_ | ((first | with_reducible apply AO_pre | with_reducible apply AHd_pre); focus (simp only [Sm, wantedA, execA, stepA, List.getElem?_cons_zero, List.getElem?_cons_succ, if_true, if_false, binA, binInt, unA, eqA, Option.map, eq_self, reduceCtorEq, ite_true, ite_false, cellsAV, fitsAll, CK.fits, fillA, AV.cells, writeN, readN, sliceCells, appendA, lenA, i64, loA, hiA, Nat.reduceAdd, Nat.reduceMul, Nat.reduceDiv, Nat.reduceSub, Nat.reduceLeDiff, Nat.reduceLT, Int.reduceLE, Int.reduceLT, foldA, maxA, minA, Int.reduceBEq, Int.reduceBNe, Int.reduceGT, Int.reduceGE, Int.reduceEq, Int.reduceNe, Int.reduceToNat, AOp.stops, ↓want_eq, ↓exec_lenX]; with_reducible rfl))))
    exact AW_ret ⟨_, rfl, by simp only [whyE, if_pos (Or.inr h2 : z < 1 ∨ z > 512)]; rfl, rfl⟩
  have hno : ¬ (z < 1 ∨ z > 512) := by omega
  have e : IntKind.i64.wrap (32 * z) = 32 * z := i64_of (by omega) (by omega)
  (repeat (first | with_reducible refine thenQ_n ?_ | with_reducible refine blockQ_n ?_ | refine AW_skip ?_ | refine AW_seq ?_ | refine AW_ops ?_ | refine AW_blockS ?_ | refine AW_blockR ?_ | refine AW_blockD ?_ | refine AW_blockC ?_ | refine AO_nil ?_ | refine AW_draw ?_ | refine AW_draw3 ?_ | refine AW_blockD3 ?_ | refine AHd_nil ?_ | ((first | with_reducible apply AO_pre | with_reducible apply AHd_pre); focus (simp only [Sm, wantedA, execA, stepA, List.getElem?_cons_zero, List.getElem?_cons_succ, if_true, if_false, binA, binInt, unA, eqA, Option.map, eq_self, reduceCtorEq, ite_true, ite_false, cellsAV, fitsAll, CK.fits, fillA, AV.cells, writeN, readN, sliceCells, appendA, lenA, i64, loA, hiA, Nat.reduceAdd, Nat.reduceMul, Nat.reduceDiv, Nat.reduceSub, Nat.reduceLeDiff, Nat.reduceLT, Int.reduceLE, Int.reduceLT, foldA, maxA, minA, Int.reduceBEq, Int.reduceBNe, Int.reduceGT, Int.reduceGE, Int.reduceEq, Int.reduceNe, Int.reduceToNat, AOp.stops, ↓want_eq, ↓exec_lenX, decide_eq_false h1, decide_eq_false h2]; with_reducible rfl))))
  refine AW_cond (t := false) rfl (fun h => by cases h) fun _ => ?_
  by_cases hn : (ls.length : Int) = 32 * z
  · have c : ((ls.length : Int) != 32 * z) = false := by rw [hn]; exact bne_self_eq_false _
    (repeat (first | with_reducible refine thenQ_n ?_ | with_reducible refine blockQ_n ?_ | refine AW_skip ?_ | refine AW_seq ?_ | refine AW_ops ?_ | refine AW_blockS ?_ | refine AW_blockR ?_ | refine AW_blockD ?_ | refine AW_blockC ?_ | refine AO_nil ?_ | refine AW_draw ?_ | refine AW_draw3 ?_ | refine AW_blockD3 ?_ | refine AHd_nil ?_ | ((first | with_reducible apply AO_pre | with_reducible apply AHd_pre); focus (simp only [Sm, wantedA, execA, stepA, List.getElem?_cons_zero, List.getElem?_cons_succ, if_true, if_false, binA, binInt, unA, eqA, Option.map, eq_self, reduceCtorEq, ite_true, ite_false, cellsAV, fitsAll, CK.fits, fillA, AV.cells, writeN, readN, sliceCells, appendA, lenA, i64, loA, hiA, Nat.reduceAdd, Nat.reduceMul, Nat.reduceDiv, Nat.reduceSub, Nat.reduceLeDiff, Nat.reduceLT, Int.reduceLE, Int.reduceLT, foldA, maxA, minA, Int.reduceBEq, Int.reduceBNe, Int.reduceGT, Int.reduceGE, Int.reduceEq, Int.reduceNe, Int.reduceToNat, AOp.stops, ↓want_eq, ↓exec_lenX, hy.len1 _ yl, e, c]; with_reducible rfl))))
    refine AW_cond (t := false) rfl (fun h => by cases h) fun _ => ?_
    (repeat (first | with_reducible refine thenQ_n ?_ | with_reducible refine blockQ_n ?_ | refine AW_skip ?_ | refine AW_seq ?_ | refine AW_ops ?_ | refine AW_blockS ?_ | refine AW_blockR ?_ | refine AW_blockD ?_ | refine AW_blockC ?_ | refine AO_nil ?_ | refine AW_draw ?_ | refine AW_draw3 ?_ | refine AW_blockD3 ?_ | refine AHd_nil ?_ | ((first | with_reducible apply AO_pre | with_reducible apply AHd_pre); focus (simp only [Sm, wantedA, execA, stepA, List.getElem?_cons_zero, List.getElem?_cons_succ, if_true, if_false, binA, binInt, unA, eqA, Option.map, eq_self, reduceCtorEq, ite_true, ite_false, cellsAV, fitsAll, CK.fits, fillA, AV.cells, writeN, readN, sliceCells, appendA, lenA, i64, loA, hiA, Nat.reduceAdd, Nat.reduceMul, Nat.reduceDiv, Nat.reduceSub, Nat.reduceLeDiff, Nat.reduceLT, Int.reduceLE, Int.reduceLT, foldA, maxA, minA, Int.reduceBEq, Int.reduceBNe, Int.reduceGT, Int.reduceGE, Int.reduceEq, Int.reduceNe, Int.reduceToNat, AOp.stops, ↓want_eq, ↓exec_lenX]; with_reducible rfl))))
    exact AW_ret ⟨_, rfl, by simp only [whyE, if_neg hno, ne_eq, hn, not_true_eq_false, if_false]; rfl, rfl⟩
  · have c : ((ls.length : Int) != 32 * z) = true := bne_iff_ne.mpr hn
    (repeat (first | with_reducible refine thenQ_n ?_ | with_reducible refine blockQ_n ?_ | refine AW_skip ?_ | refine AW_seq ?_ | refine AW_ops ?_ | refine AW_blockS ?_ | refine AW_blockR ?_ | refine AW_blockD ?_ | refine AW_blockC ?_ | refine AO_nil ?_ | refine AW_draw ?_ | refine AW_draw3 ?_ | refine AW_blockD3 ?_ | refine AHd_nil ?_ | ((first | with_reducible apply AO_pre | with_reducible apply AHd_pre); focus (simp only [Sm, wantedA, execA, stepA, List.getElem?_cons_zero, List.getElem?_cons_succ, if_true, if_false, binA, binInt, unA, eqA, Option.map, eq_self, reduceCtorEq, ite_true, ite_false, cellsAV, fitsAll, CK.fits, fillA, AV.cells, writeN, readN, sliceCells, appendA, lenA, i64, loA, hiA, Nat.reduceAdd, Nat.reduceMul, Nat.reduceDiv, Nat.reduceSub, Nat.reduceLeDiff, Nat.reduceLT, Int.reduceLE, Int.reduceLT, foldA, maxA, minA, Int.reduceBEq, Int.reduceBNe, Int.reduceGT, Int.reduceGE, Int.reduceEq, Int.reduceNe, Int.reduceToNat, AOp.stops, ↓want_eq, ↓exec_lenX, hy.len1 _ yl, e, c]; with_reducible rfl))))
    refine AW_cond (t := true) rfl (fun _ => ?_) (fun h => by cases h)
    (repeat (first | with_reducible refine thenQ_n ?_ | with_reducible refine blockQ_n ?_ | refine AW_skip ?_ | refine AW_seq ?_ | refine AW_ops ?_ | refine AW_blockS ?_ | refine AW_blockR ?_ | refine AW_blockD ?_ | refine AW_blockC ?_ | refine AO_nil ?_ | refine AW_draw ?_ | refine AW_draw3 ?_ | refine AW_blockD3 ?_ | refine AHd_nil ?_ | ((first | with_reducible apply AO_pre | with_reducible apply AHd_pre); focus (simp only [Sm, wantedA, execA, stepA, List.getElem?_cons_zero, List.getElem?_cons_succ, if_true, if_false, binA, binInt, unA, eqA, Option.map, eq_self, reduceCtorEq, ite_true, ite_false, cellsAV, fitsAll, CK.fits, fillA, AV.cells, writeN, readN, sliceCells, appendA, lenA, i64, loA, hiA, Nat.reduceAdd, Nat.reduceMul, Nat.reduceDiv, Nat.reduceSub, Nat.reduceLeDiff, Nat.reduceLT, Int.reduceLE, Int.reduceLT, foldA, maxA, minA, Int.reduceBEq, Int.reduceBNe, Int.reduceGT, Int.reduceGE, Int.reduceEq, Int.reduceNe, Int.reduceToNat, AOp.stops, ↓want_eq, ↓exec_lenX]; with_reducible rfl))))
    exact AW_ret ⟨_, rfl, by simp only [whyE, if_neg hno, ne_eq, hn, not_false_eq_true, if_true]; rfl, rfl⟩
end
end PK

/- Salsa's eight rounds; SalsaCores, walked. -/
namespace PK
open Go PAbs
set_option linter.unusedSimpArgs false
set_option linter.unusedVariables false
set_option maxRecDepth 100000
set_option maxHeartbeats 2000000

theorem fits_W32 : ∀ {n : Nat} {xs : List Nat}, xs.length = n → fitsAll (rep n (.int .u32)) (W32 xs) = true
  | 0, xs, h => by
    obtain rfl : xs = [] := List.length_eq_zero_iff.mp h
    rfl
  | n + 1, x :: xs, h => by
    have := fits_W32 (n := n) (xs := xs) (by simpa using h)
    simp only [rep, List.replicate_succ, W32, List.map_cons, fitsAll, CK.fits, decide_true, Bool.true_and] at this ⊢
    exact this
theorem Words.fits {x : List Nat} (h : Words x) : fitsAll (rep 16 (.int .u32)) (W32 x) = true := fits_W32 h.1
theorem Words.core {x : List Nat} (h : Words x) (n : Nat) : Words (core x n) := (h.dblN n).addS x 16

theorem AC_Eight (H : AHeap) (x : List Nat) (hx : Words x) : AC A H.length F_salsa_Eight [.agg (W32 x)] H (fun v H' => v = .agg (W32 (core x 4))) := by
  have hl := hx.len
  have hC := hx.core 4
  refine AC_enter t_salsa_Eight ?_; simp only [c_salsa_Eight, enterA, List.replicate, List.length_cons, List.length_nil, Nat.reduceAdd, Nat.reduceSub, List.cons_append, List.nil_append]
  refine AW_seq (AW_ops (AO_pre (by simp only [List.take_succ_cons, List.take_zero, List.drop_succ_cons, List.drop_zero, bne_self_eq_false, List.map_cons, List.map_nil, Bool.true_beq, Bool.false_beq, run_nil, run_cons, run_gate, cont_some, gate_true, gate_false, hrun_nil, hrun_cons, hrun_gate, hcont_some, hgate_true, hgate_false, put_some, put_none, ev_t, ev_k, wantedA, execA, stepA, List.set_cons_succ, List.set_cons_zero, List.getD_cons_succ, List.getD_cons_zero, List.getElem?_cons_zero, List.getElem?_cons_succ, if_true, if_false, binA, binInt, unA, eqA, Option.map, eq_self, true_or, or_true, true_and, and_true, and_self, beq_self_eq_true, Bool.not_true, Bool.not_false, reduceCtorEq, Bool.false_eq_true, ite_true, ite_false, cellsAV, fitsAll, CK.fits, decide_true, Bool.and_true, Bool.true_and, fillA, AV.cells, writeN, readN, sliceCells, appendA, lenA, i64, loA, hiA, hcells_last, hown_last, List.take_zero, List.drop_zero, List.nil_append, List.cons_append, List.append_nil, List.take_nil, List.drop_nil, List.length_cons, List.length_nil, List.length_append, Nat.zero_add, Nat.add_zero, Nat.reduceAdd, Nat.reduceMul, Nat.reduceDiv, Nat.reduceSub, Nat.mul_one, Nat.one_mul, Nat.div_one, Nat.le_refl, Nat.reduceLeDiff, Nat.reduceLT, Int.toNat_natCast, Int.toNat_zero, Nat.zero_le, Int.natCast_nonneg, Int.reduceLE, Int.reduceLT, Option.some.injEq, foldA, maxA, minA, Cell.int.injEq, AV.c.injEq, pre_nil, pre_cons, pre_gate, pre1_cons, pre1_gate, qstop_true, qstop_false, qstopg_false, qgate_true, qgate_false, pcont_some, pstop_true, pstop_false, pstopg_false, pgate_true, pgate_false, hpre_nil, hpre_cons, hpre_gate, hpre1_cons, hpre1_gate, hqstop_true, hqstop_false, hqstopg_false, hqgate_true, hqgate_false, hpcont_some, hpstop_true, hpstop_false, hpstopg_false, hpgate_true, hpgate_false, Int.reduceBEq, Int.reduceBNe, Int.reduceGT, Int.reduceGE, Int.reduceEq, Int.reduceNe, decide_false, nat_0, nat_1, nat_2, nat_3, nat_4, nat_8, nat_16, nat_64, nat_128, Int.reduceToNat, AOp.stops, pre1_nil, hpre1_nil, ↓want_eq, wantV_bool, wantV_undef, ↓exec_lenX, lenX_snil, lenX_slc]; with_reducible rfl) (AO_nil ?_)))
  have ho : hown (H ++ [Blk.own (W32 x)] ++ [Blk.own (rep 16 (.int .u32 0))]) H.length = some (W32 x) := hown_app hown_last
  have hz : hown (H ++ [Blk.own (W32 x)] ++ [Blk.own (rep 16 (.int .u32 0))]) (H ++ [Blk.own (W32 x)]).length = some (rep 16 (.int .u32 0)) := hown_last
  have hq1 : (H ++ [Blk.own (W32 x)]).length = H.length + 1 := by simp
  rw [hq1] at hz
  try simp only [List.length_append, List.length_cons, List.length_nil, Nat.zero_add]
  have hfl : (H ++ [Blk.own (W32 x)] ++ [Blk.own (rep 16 (.int .u32 0))]).length = H.length + 2 := by simp
  generalize H ++ [Blk.own (W32 x)] ++ [Blk.own (rep 16 (.int .u32 0))] = H1 at *
  generalize H.length = p at *
  have hr : readN H1 p 0 16 = some (W32 x) := by
    have := readN_all (hcells_own ho)
    rw [hl] at this; exact this
  (repeat (first | with_reducible refine thenQ_n ?_ | with_reducible refine blockQ_n ?_ | refine AW_skip ?_ | refine AW_seq ?_ | refine AW_ops ?_ | refine AW_blockS ?_ | refine AW_blockR ?_ | refine AW_blockD ?_ | refine AW_blockC ?_ | refine AO_nil ?_ | refine AW_draw ?_ | refine AW_draw3 ?_ | refine AW_blockD3 ?_ | refine AHd_nil ?_ | ((first | with_reducible apply AO_pre | with_reducible apply AHd_pre); focus (simp only [Sm, wantedA, execA, stepA, List.getElem?_cons_zero, List.getElem?_cons_succ, if_true, if_false, binA, binInt, unA, eqA, Option.map, eq_self, reduceCtorEq, ite_true, ite_false, cellsAV, fitsAll, CK.fits, fillA, AV.cells, writeN, readN, sliceCells, appendA, lenA, i64, loA, hiA, Nat.reduceAdd, Nat.reduceMul, Nat.reduceDiv, Nat.reduceSub, Nat.reduceLeDiff, Nat.reduceLT, Int.reduceLE, Int.reduceLT, foldA, maxA, minA, Int.reduceBEq, Int.reduceBNe, Int.reduceGT, Int.reduceGE, Int.reduceEq, Int.reduceNe, Int.reduceToNat, AOp.stops, ↓want_eq, ↓exec_lenX, ↓hr]; with_reducible rfl))))
  refine AO_call rfl ((AC_Core H1 x hx 4 (by omega)).kept (by omega)) ?_
  rintro v H2 ⟨h, k2⟩
  have c2 := Chg.of_kept k2
  have hl2 := c2.1
  rcases h with ⟨h, _⟩ | ⟨_, _, rfl⟩
  · omega
  have hz2 := c2.hown (fun h => h) hz
  rw [show (4 : Int).toNat = 4 from rfl]
  (repeat (first | with_reducible refine thenQ_n ?_ | with_reducible refine blockQ_n ?_ | refine AW_skip ?_ | refine AW_seq ?_ | refine AW_ops ?_ | refine AW_blockS ?_ | refine AW_blockR ?_ | refine AW_blockD ?_ | refine AW_blockC ?_ | refine AO_nil ?_ | refine AW_draw ?_ | refine AW_draw3 ?_ | refine AW_blockD3 ?_ | refine AHd_nil ?_ | ((first | with_reducible apply AO_pre | with_reducible apply AHd_pre); focus (simp only [Sm, wantedA, execA, stepA, List.getElem?_cons_zero, List.getElem?_cons_succ, if_true, if_false, binA, binInt, unA, eqA, Option.map, eq_self, reduceCtorEq, ite_true, ite_false, cellsAV, fitsAll, CK.fits, fillA, AV.cells, writeN, readN, sliceCells, appendA, lenA, i64, loA, hiA, Nat.reduceAdd, Nat.reduceMul, Nat.reduceDiv, Nat.reduceSub, Nat.reduceLeDiff, Nat.reduceLT, Int.reduceLE, Int.reduceLT, foldA, maxA, minA, Int.reduceBEq, Int.reduceBNe, Int.reduceGT, Int.reduceGE, Int.reduceEq, Int.reduceNe, Int.reduceToNat, AOp.stops, ↓want_eq, ↓exec_lenX, ↓exec_storeN, storeN_last (by omega : p ≤ H2.length), rep_len, hC.len]; with_reducible rfl))))
  have c3 : Chg none_ H2 (H2 ++ [Blk.own (W32 (core x 4))]) := Chg.push _ _ _
  have hz3 := c3.hown (fun h => h) hz2
  have hr3 : readN (H2 ++ [Blk.own (W32 (core x 4))]) H2.length 0 16 = some (W32 (core x 4)) := by
    have := readN_all (hcells_last (H := H2) (cs := W32 (core x 4)))
    rw [hC.len] at this; exact this
  generalize H2 ++ [Blk.own (W32 (core x 4))] = H3 at *
  (repeat (first | with_reducible refine thenQ_n ?_ | with_reducible refine blockQ_n ?_ | refine AW_skip ?_ | refine AW_seq ?_ | refine AW_ops ?_ | refine AW_blockS ?_ | refine AW_blockR ?_ | refine AW_blockD ?_ | refine AW_blockC ?_ | refine AO_nil ?_ | refine AW_draw ?_ | refine AW_draw3 ?_ | refine AW_blockD3 ?_ | refine AHd_nil ?_ | ((first | with_reducible apply AO_pre | with_reducible apply AHd_pre); focus (simp only [Sm, wantedA, execA, stepA, List.getElem?_cons_zero, List.getElem?_cons_succ, if_true, if_false, binA, binInt, unA, eqA, Option.map, eq_self, reduceCtorEq, ite_true, ite_false, cellsAV, fitsAll, CK.fits, fillA, AV.cells, writeN, readN, sliceCells, appendA, lenA, i64, loA, hiA, Nat.reduceAdd, Nat.reduceMul, Nat.reduceDiv, Nat.reduceSub, Nat.reduceLeDiff, Nat.reduceLT, Int.reduceLE, Int.reduceLT, foldA, maxA, minA, Int.reduceBEq, Int.reduceBNe, Int.reduceGT, Int.reduceGE, Int.reduceEq, Int.reduceNe, Int.reduceToNat, AOp.stops, ↓want_eq, ↓exec_lenX, ↓hr3, ↓exec_storeN, storeN_all hz3 (by omega : p ≤ p + 1) rep_len hC.len]; with_reducible rfl))))
  have hr6 : readN (H3.set (p + 1) (.own (W32 (core x 4)))) (p + 1) 0 16 = some (W32 (core x 4)) := by
    have := readN_all (hcells_set (cs := W32 (core x 4)) (hown_lt hz3))
    rw [hC.len] at this; exact this
  exact AW_ret ⟨_, by simp only [outA, resA, ressA, AV.tv, Option.map_some, List.take_succ_cons, List.take_zero, List.drop_succ_cons, List.drop_zero, bne_self_eq_false, List.map_cons, List.map_nil, Bool.true_beq, Bool.false_beq, run_nil, run_cons, run_gate, cont_some, gate_true, gate_false, hrun_nil, hrun_cons, hrun_gate, hcont_some, hgate_true, hgate_false, put_some, put_none, ev_t, ev_k, wantedA, execA, stepA, List.set_cons_succ, List.set_cons_zero, List.getD_cons_succ, List.getD_cons_zero, List.getElem?_cons_zero, List.getElem?_cons_succ, if_true, if_false, binA, binInt, unA, eqA, Option.map, eq_self, true_or, or_true, true_and, and_true, and_self, beq_self_eq_true, Bool.not_true, Bool.not_false, reduceCtorEq, Bool.false_eq_true, ite_true, ite_false, cellsAV, fitsAll, CK.fits, decide_true, Bool.and_true, Bool.true_and, fillA, AV.cells, writeN, readN, sliceCells, appendA, lenA, i64, loA, hiA, hcells_last, hown_last, List.take_zero, List.drop_zero, List.nil_append, List.cons_append, List.append_nil, List.take_nil, List.drop_nil, List.length_cons, List.length_nil, List.length_append, Nat.zero_add, Nat.add_zero, Nat.reduceAdd, Nat.reduceMul, Nat.reduceDiv, Nat.reduceSub, Nat.mul_one, Nat.one_mul, Nat.div_one, Nat.le_refl, Nat.reduceLeDiff, Nat.reduceLT, Int.toNat_natCast, Int.toNat_zero, Nat.zero_le, Int.natCast_nonneg, Int.reduceLE, Int.reduceLT, Option.some.injEq, foldA, maxA, minA, Cell.int.injEq, AV.c.injEq, pre_nil, pre_cons, pre_gate, pre1_cons, pre1_gate, qstop_true, qstop_false, qstopg_false, qgate_true, qgate_false, pcont_some, pstop_true, pstop_false, pstopg_false, pgate_true, pgate_false, hpre_nil, hpre_cons, hpre_gate, hpre1_cons, hpre1_gate, hqstop_true, hqstop_false, hqstopg_false, hqgate_true, hqgate_false, hpcont_some, hpstop_true, hpstop_false, hpstopg_false, hpgate_true, hpgate_false, Int.reduceBEq, Int.reduceBNe, Int.reduceGT, Int.reduceGE, Int.reduceEq, Int.reduceNe, decide_false, nat_0, nat_1, nat_2, nat_3, nat_4, nat_8, nat_16, nat_64, nat_128, Int.reduceToNat, AOp.stops, pre1_nil, hpre1_nil, ↓want_eq, wantV_bool, wantV_undef, ↓exec_lenX, lenX_snil, lenX_slc, ↓hr6] <;> with_reducible rfl, by rfl⟩

end PK

/- The document's bytes swapped: walked. -/
namespace PK
open Go PAbs
set_option linter.unusedSimpArgs false
set_option linter.unusedVariables false
set_option maxRecDepth 100000

end PK

/- Plain law: words taken byte by byte are the document's. -/
namespace PK
open Go PAbs
set_option linter.unusedSimpArgs false
set_option linter.unusedVariables false
set_option maxRecDepth 100000

def partB (k : Nat) (at_ : Nat → Nat) (bs : List Nat) (p : Nat) : Nat → Nat
  | 0 => 0
  | m + 1 => partB k at_ bs p m ||| (bs.getD (p + m) 0 * 2 ^ (8 * at_ m) % 2 ^ (8 * k))
def lowv (bs : List Nat) (p : Nat) : Nat → Nat
  | 0 => 0
  | m + 1 => lowv bs p m + bs.getD (p + m) 0 * 256 ^ m
theorem lowv_lt {bs : List Nat} (h : ∀ k, bs.getD k 0 < 256) (p : Nat) : ∀ m, lowv bs p m < 256 ^ m
  | 0 => by simp [lowv]
  | m + 1 => by
    have h1 := lowv_lt h p m
    have h2 : bs.getD (p + m) 0 * 256 ^ m ≤ 255 * 256 ^ m := Nat.mul_le_mul_right _ (by have := h (p + m); omega)
    simp only [lowv, Nat.pow_succ]; omega

theorem tk_partB {k : Nat} {at_ : Nat → Nat} (hk : 0 < k) (bs : List Nat) (n : Nat) (hn : bs.length / k = n) : ∀ i, i ≤ n * k → ∀ j, j < n → (tk k at_ bs i).getD j 0 = partB k at_ bs (k * j) (min k (i - k * j))
  | 0, _, j, hj => by
    simp only [tk, Nat.zero_sub, Nat.min_zero, partB, List.getD_eq_getElem?_getD, List.getElem?_replicate]
    split <;> rfl
  | i + 1, hi, j, hj => by
    have ih := tk_partB (at_ := at_) hk bs n hn i (by omega)
    have hl : (tk k at_ bs i).length = n := by rw [tk_length, hn]
    have hd := Nat.div_add_mod i k
    have hm := Nat.mod_lt i hk
    simp only [tk, getD_set', hl]
    by_cases h : i / k = j
    · rw [if_pos ⟨h, by omega⟩, h, ih j hj]
      rw [h] at hd
      have e1 : min k (i - k * j) = i % k := by omega
      have e2 : min k (i + 1 - k * j) = i % k + 1 := by omega
      rw [e1, e2]; simp only [partB, hd]
    · rw [if_neg (fun hc => h hc.1), ih j hj]
      congr 1
      rcases Nat.lt_or_gt_of_ne h with h1 | h1
      · have : k * (i / k + 1) ≤ k * j := Nat.mul_le_mul_left _ h1
        rw [Nat.mul_add, Nat.mul_one] at this
        omega
      · have : k * (j + 1) ≤ k * (i / k) := Nat.mul_le_mul_left _ h1
        rw [Nat.mul_add, Nat.mul_one] at this
        omega

theorem partB_le {k : Nat} {bs : List Nat} (hb : ∀ k, bs.getD k 0 < 256) (p : Nat) : ∀ m, m ≤ k → partB k id bs p m = lowv bs p m
  | 0, _ => rfl
  | m + 1, h => by
    have ih := partB_le (k := k) hb p m (by omega)
    have hlt : bs.getD (p + m) 0 < 2 ^ 8 := hb _
    have hp : bs.getD (p + m) 0 * 2 ^ (8 * m) < 2 ^ (8 * k) := by
      calc bs.getD (p + m) 0 * 2 ^ (8 * m) < 2 ^ 8 * 2 ^ (8 * m) := Nat.mul_lt_mul_of_pos_right hlt (Nat.two_pow_pos _)
        _ = 2 ^ (8 * (m + 1)) := by rw [← Nat.pow_add]; congr 1; omega
        _ ≤ 2 ^ (8 * k) := Nat.pow_le_pow_right (by omega) (by omega)
    have hv : lowv bs p m < 2 ^ (8 * m) := by rw [pow8]; exact lowv_lt hb p m
    simp only [partB, ih, id, lowv]
    rw [Nat.mod_eq_of_lt hp, Nat.or_comm, ← Nat.shiftLeft_eq, ← Nat.shiftLeft_add_eq_or_of_lt hv, Nat.shiftLeft_eq, pow8, Nat.add_comm]

theorem lowv_topv (bs : List Nat) (p each : Nat) : ∀ j, j ≤ each → lowv bs p each = lowv bs p (each - j) + 256 ^ (each - j) * topv bs p each j
  | 0, _ => by simp [topv]
  | j + 1, h => by
    have ih := lowv_topv bs p each j (by omega)
    have e : each - j = (each - (j + 1)) + 1 := by omega
    rw [ih, e]
    simp only [lowv, topv, Nat.pow_succ, show each - 1 - j = each - (j + 1) by omega, Nat.mul_add]
    rw [Nat.mul_comm (bs.getD _ 0), Nat.mul_assoc]; omega
theorem low_top (bs : List Nat) (p each : Nat) : lowv bs p each = topv bs p each each := by
  have := lowv_topv bs p each each (Nat.le_refl _)
  simpa [lowv] using this

theorem wordsL_get (bs : List Nat) (each : Nat) : ∀ n j, j < n → (wordsL bs each n).getD j 0 = topv bs (j * each) each each
  | 0, j, h => by omega
  | n + 1, j, h => by
    simp only [wordsL, List.getD_eq_getElem?_getD, List.getElem?_append, wordsL_length]
    by_cases hj : j < n
    · rw [if_pos hj, ← List.getD_eq_getElem?_getD, wordsL_get bs each n j hj]
    · obtain rfl : j = n := by omega
      simp

theorem tk_words {k : Nat} (hk : 0 < k) (bs : List Nat) (hb : ∀ k, bs.getD k 0 < 256) (h0 : bs.length % k = 0) : tk k id bs bs.length = wordsL bs k (bs.length / k) := by
  have hn : bs.length = bs.length / k * k := by have := Nat.div_add_mod bs.length k; rw [h0, Nat.add_zero, Nat.mul_comm] at this; exact this.symm
  apply List.ext_getElem (by rw [tk_length, wordsL_length])
  intro j h1 h2
  have hj : j < bs.length / k := by rw [tk_length] at h1; exact h1
  have h := tk_partB (at_ := id) hk bs _ rfl bs.length (by omega) j hj
  have e : min k (bs.length - k * j) = k := by
    have : k * (j + 1) ≤ k * (bs.length / k) := Nat.mul_le_mul_left _ hj
    rw [Nat.mul_add, Nat.mul_one, Nat.mul_comm k (bs.length / k)] at this
    omega
  rw [e, partB_le hb _ k (Nat.le_refl _), low_top] at h
  have hw := wordsL_get bs k _ j hj
  rw [Nat.mul_comm j k, ← h] at hw
  simpa [List.getD_eq_getElem?_getD, h1, h2] using hw.symm

end PK

/- Salsa of 64 bytes; SalsaBytes, walked. -/
namespace PK
open Go PAbs
set_option linter.unusedSimpArgs false
set_option linter.unusedVariables false
set_option maxRecDepth 100000
set_option maxHeartbeats 2000000

end PK

/- shuffle.Mix and Integer, walked. -/
namespace PK
open Go PAbs
set_option linter.unusedSimpArgs false
set_option linter.unusedVariables false
set_option maxRecDepth 100000
set_option maxHeartbeats 2000000

def mixIn (x ls : List Nat) (i : Nat) : Nat → List Nat := upd (fun k => x.getD k 0 ^^^ ls.getD (16 * i + k) 0) x
def lastW (ls : List Nat) : List Nat := (ls.drop (ls.length - 16)).take 16
def xsK (ls : List Nat) : Nat → List Nat
  | 0 => lastW ls
  | i + 1 => core (mixIn (xsK ls i) ls i 16) 4
def ordr (r j : Nat) : Nat := if j < r then 2 * j else 2 * (j - r) + 1
theorem ordr_plc {r i : Nat} (h : i < 2 * r) : ordr r (plc r i) = i := by
  simp only [ordr, plc]; split <;> split at * <;> omega
theorem plc_ordr {r j : Nat} (h : j < 2 * r) : plc r (ordr r j) = j ∧ ordr r j < 2 * r := by
  simp only [ordr, plc]; split <;> split <;> omega
def mixW (r : Nat) (ls : List Nat) : List Nat := joinN (fun j => xsK ls (ordr r j + 1)) (2 * r)
def outG (r : Nat) (f : Nat → List Nat) : Nat → List Nat
  | 0 => List.replicate (32 * r) 0
  | i + 1 => putL (outG r f i) (16 * plc r i) (f i)
theorem outG_length {r : Nat} {f : Nat → List Nat} (hf : ∀ i, (f i).length = 16) : ∀ i, i ≤ 2 * r → (outG r f i).length = 32 * r
  | 0, _ => by simp [outG]
  | i + 1, hi => by
    have hp := plc_lt (r := r) (i := i) (by omega)
    have ih := outG_length (r := r) hf i (by omega)
    have hx := hf i
    rw [outG, putL_length (l := outG r f i) (o := 16 * plc r i) (m := f i) (by rw [ih, hx]; omega), ih]
theorem outG_get {r : Nat} {f : Nat → List Nat} (hf : ∀ i, (f i).length = 16) : ∀ i, i ≤ 2 * r → ∀ j q, j < 2 * r → q < 16 → ordr r j < i → (outG r f i)[16 * j + q]? = (f (ordr r j))[q]?
  | 0, _, j, q, _, _, hj => by omega
  | i + 1, hi, j, q, hj, hq, ho => by
    have hp := plc_lt (r := r) (i := i) (by omega)
    have hx := hf i
    have ih := outG_length (r := r) hf i (by omega)
    rw [outG, putL_get (l := outG r f i) (o := 16 * plc r i) (m := f i) (by rw [ih, hx]; omega), hx]
    rcases Nat.lt_or_ge (ordr r j) i with h1 | h1
    · have hne : plc r i ≠ j := fun e => by have := ordr_plc (r := r) (i := i) (by omega); rw [e] at this; omega
      rw [if_neg (by omega)]
      exact outG_get hf i (by omega) j q hj hq h1
    · have e1 : ordr r j = i := by omega
      have e2 : plc r i = j := by rw [← e1]; exact (plc_ordr hj).1
      rw [if_pos (by omega), e2, e1]
      congr 1; omega
theorem outG_all {r : Nat} {f : Nat → List Nat} (hf : ∀ i, (f i).length = 16) : outG r f (2 * r) = joinN (fun j => f (ordr r j)) (2 * r) := by
  have hl : (joinN (fun j => f (ordr r j)) (2 * r)).length = 2 * r * 16 := joinN_length (fun i => hf _) _
  apply List.ext_getElem?
  intro k
  rcases Nat.lt_or_ge k (32 * r) with hk | hk
  · have e : k = 16 * (k / 16) + k % 16 := by omega
    rw [e, outG_get hf (2 * r) (Nat.le_refl _) (k / 16) (k % 16) (by omega) (by omega) (plc_ordr (by omega)).2, joinN_get (fun i => hf _) _ _ _ (by omega) (by omega)]
  · rw [List.getElem?_eq_none (by rw [outG_length hf _ (Nat.le_refl _)]; exact hk), List.getElem?_eq_none (by rw [hl]; omega)]
theorem joinN_get16 {r k : Nat} {f : Nat → List Nat} (hf : ∀ i, (f i).length = 16) (hk : k < 32 * r) : (joinN f (2 * r)).getD k 0 = (f (k / 16)).getD (k % 16) 0 := by
  have e : k = 16 * (k / 16) + k % 16 := by omega
  have e2 : (joinN f (2 * r))[k]? = (f (k / 16))[k % 16]? := by
    conv => lhs; rw [e]
    exact joinN_get hf _ _ _ (by omega) (by omega)
  exact getD_of_get e2
def outK (r : Nat) (ls : List Nat) (i : Nat) : List Nat := outG r (fun i => xsK ls (i + 1)) i

structure Row (r : Nat) (ls : List Nat) : Prop where
  len : ls.length = 32 * r
  pos : 1 ≤ r
  le : r ≤ 512
  lt : ∀ k, ls.getD k 0 < 4294967296

theorem getD_take {l : List Nat} {n k : Nat} : (l.take n).getD k 0 = if k < n then l.getD k 0 else 0 := by
  rw [List.getD_eq_getElem?_getD, List.getElem?_take, List.getD_eq_getElem?_getD]
  split <;> rfl
theorem getD_drop {l : List Nat} {n k : Nat} : (l.drop n).getD k 0 = l.getD (n + k) 0 := by
  rw [List.getD_eq_getElem?_getD, List.getElem?_drop, List.getD_eq_getElem?_getD]

section
variable {r : Nat} {ls : List Nat} (h : Row r ls)
include h
theorem Row.last : Words (lastW ls) := by
  have h1 := h.len; have h2 := h.pos
  refine ⟨by simp only [lastW, List.length_take, List.length_drop]; omega, fun k => ?_⟩
  simp only [lastW, getD_take, getD_drop]
  split
  · exact h.lt _
  · omega
theorem Row.mixIn {x : List Nat} (hx : Words x) (i : Nat) : ∀ k, Words (PK.mixIn x ls i k)
  | 0 => hx
  | k + 1 => (Row.mixIn hx i k).set (x32_lt (hx.2 _) (h.lt _))
theorem Row.xs : ∀ i, Words (xsK ls i)
  | 0 => h.last
  | i + 1 => (h.mixIn (Row.xs i) i 16).core 4
theorem Row.outK_length (i : Nat) (hi : i ≤ 2 * r) : (outK r ls i).length = 32 * r := outG_length (fun i => (h.xs _).1) i hi
theorem Row.outK_all : outK r ls (2 * r) = mixW r ls := outG_all (fun i => (h.xs _).1)
theorem mixW_length : (mixW r ls).length = 32 * r := by rw [mixW, joinN_length (fun i => (h.xs _).1)]; omega
theorem Row.mix : Row r (mixW r ls) := by
  refine ⟨mixW_length h, h.pos, h.le, fun k => ?_⟩
  rcases Nat.lt_or_ge k (32 * r) with hk | hk
  · rw [mixW, joinN_get16 (fun i => (h.xs _).1) hk]; exact (h.xs _).2 _
  · rw [List.getD_eq_getElem?_getD, List.getElem?_eq_none (by rw [mixW_length h]; exact hk)]; decide
end

theorem mixIn_self {x ls : List Nat} {i k : Nat} (h : k < x.length) : (mixIn x ls i k).getD k 0 = x.getD k 0 := getD_of_get (upd_self k h)
theorem mixIn_step {x ls : List Nat} {i k : Nat} : (mixIn x ls i k).set k (x.getD k 0 ^^^ ls.getD (16 * i + k) 0) = mixIn x ls i (k + 1) := rfl

def mxI (y : Cell) (q o r : Nat) (ls : List Nat) (H0 : AHeap) (i : Nat) (fr : AFrame) (H : AHeap) : Prop :=
  Chg (fun b => b = o ∨ b = o + 1) H0 H ∧ hown H o = some (W32 (outK r ls i)) ∧ hown H (o + 1) = some (W32 (xsK ls i)) ∧ (∃ s : Nat → AV, fr = [s 0, .c y, s 2, s 3, s 4, s 5, s 6, .c (.slc q 0 (2 * r) 1), s 8, .c (.slc o 0 (32 * r) 1), .c (.ptr (o + 1) 0), s 11, s 12, s 13, s 14, s 15, s 16, s 17, s 18, s 19, s 20, s 21, s 22, s 23, s 24, s 25, s 26, s 27, s 28, s 29, s 30, s 31, s 32, s 33, s 34, .c (.int .i64 ((2 * r : Nat) : Int)), .c (.int .i64 (i : Int)), s 37, s 38, s 39, s 40, s 41, s 42, s 43, s 44, s 45, s 46, s 47, s 48, s 49, s 50, s 51, s 52, s 53, s 54, s 55, s 56, s 57, s 58, s 59, s 60, s 61, s 62, s 63, s 64, s 65, s 66, s 67])

def mxJ (y : Cell) (q o r i : Nat) (x ls : List Nat) (H0 : AHeap) (k : Nat) (fr : AFrame) (H : AHeap) : Prop :=
  Chg (· = o + 1) H0 H ∧ hown H (o + 1) = some (W32 (mixIn x ls i k)) ∧ (∃ s : Nat → AV, fr = [s 0, .c y, s 2, s 3, s 4, s 5, s 6, .c (.slc q 0 (2 * r) 1), s 8, .c (.slc o 0 (32 * r) 1), .c (.ptr (o + 1) 0), .c (.int .i64 (i : Int)), s 12, s 13, s 14, s 15, s 16, s 17, s 18, s 19, s 20, s 21, s 22, s 23, s 24, s 25, s 26, s 27, s 28, s 29, s 30, s 31, s 32, s 33, s 34, .c (.int .i64 ((2 * r : Nat) : Int)), .c (.int .i64 (i : Int)), s 37, s 38, .c (.int .i64 (k : Int)), s 40, s 41, s 42, s 43, s 44, s 45, s 46, s 47, s 48, s 49, s 50, s 51, s 52, s 53, s 54, s 55, s 56, s 57, s 58, s 59, s 60, s 61, s 62, s 63, s 64, s 65, s 66, s 67])

theorem whyE_ok {r n : Nat} (h1 : 1 ≤ r) (h2 : r ≤ 512) (h : n = 32 * r) : whyE (r : Int) n = 0 := by
  simp only [whyE]; rw [if_neg (by omega), if_neg (by omega)]

theorem AC_shMix (H : AHeap) (y : Cell) (ls : List Nat) (r : Nat) (hy : Rd H y 1 (W32 ls)) (h : Row r ls) :
    AC A H.length F_shuffle_Mix [.c (.int .i64 (r : Int)), .c y] H (fun v H' => ∃ o, v = .tup [.c (.slc o 0 (32 * r) 1), .c (.int .i64 0)] ∧ H.length ≤ o ∧ hown H' o = some (W32 (mixW r ls))) := by
  have yl : (W32 ls).length = ls.length := W32_length
  have hl := h.len; have hp := h.pos; have hle := h.le
  refine AC_enter t_shuffle_Mix ?_; simp only [c_shuffle_Mix, enterA, List.replicate, List.length_cons, List.length_nil, Nat.reduceAdd, Nat.reduceSub, List.cons_append, List.nil_append]
  (repeat (first | with_reducible refine thenQ_n ?_ | with_reducible refine blockQ_n ?_ | refine AW_skip ?_ | refine AW_seq ?_ | refine AW_ops ?_ | refine AW_blockS ?_ | refine AW_blockR ?_ | refine AW_blockD ?_ | refine AW_blockC ?_ | refine AO_nil ?_ | refine AW_draw ?_ | refine AW_draw3 ?_ | refine AW_blockD3 ?_ | refine AHd_nil ?_ | ((first | with_reducible apply AO_pre | with_reducible apply AHd_pre); focus (simp only [Sm, wantedA, execA, stepA, List.getElem?_cons_zero, List.getElem?_cons_succ, if_true, if_false, binA, binInt, unA, eqA, Option.map, eq_self, reduceCtorEq, ite_true, ite_false, cellsAV, fitsAll, CK.fits, fillA, AV.cells, writeN, readN, sliceCells, appendA, lenA, i64, loA, hiA, Nat.reduceAdd, Nat.reduceMul, Nat.reduceDiv, Nat.reduceSub, Nat.reduceLeDiff, Nat.reduceLT, Int.reduceLE, Int.reduceLT, foldA, maxA, minA, Int.reduceBEq, Int.reduceBNe, Int.reduceGT, Int.reduceGE, Int.reduceEq, Int.reduceNe, Int.reduceToNat, AOp.stops, ↓want_eq, ↓exec_lenX]; with_reducible rfl))))
  refine AO_call rfl (AC_shCheck H y ls r hy) ?_
  rintro _ _ ⟨rfl, rfl⟩
  rw [whyE_ok hp hle hl]
  (repeat (first | with_reducible refine thenQ_n ?_ | with_reducible refine blockQ_n ?_ | refine AW_skip ?_ | refine AW_seq ?_ | refine AW_ops ?_ | refine AW_blockS ?_ | refine AW_blockR ?_ | refine AW_blockD ?_ | refine AW_blockC ?_ | refine AO_nil ?_ | refine AW_draw ?_ | refine AW_draw3 ?_ | refine AW_blockD3 ?_ | refine AHd_nil ?_ | ((first | with_reducible apply AO_pre | with_reducible apply AHd_pre); focus (simp only [Sm, wantedA, execA, stepA, List.getElem?_cons_zero, List.getElem?_cons_succ, if_true, if_false, binA, binInt, unA, eqA, Option.map, eq_self, reduceCtorEq, ite_true, ite_false, cellsAV, fitsAll, CK.fits, fillA, AV.cells, writeN, readN, sliceCells, appendA, lenA, i64, loA, hiA, Nat.reduceAdd, Nat.reduceMul, Nat.reduceDiv, Nat.reduceSub, Nat.reduceLeDiff, Nat.reduceLT, Int.reduceLE, Int.reduceLT, foldA, maxA, minA, Int.reduceBEq, Int.reduceBNe, Int.reduceGT, Int.reduceGE, Int.reduceEq, Int.reduceNe, Int.reduceToNat, AOp.stops, ↓want_eq, ↓exec_lenX]; with_reducible rfl))))
  refine AW_cond (t := false) rfl (fun h => by cases h) fun _ => ?_
  (repeat (first | with_reducible refine thenQ_n ?_ | with_reducible refine blockQ_n ?_ | refine AW_skip ?_ | refine AW_seq ?_ | refine AW_ops ?_ | refine AW_blockS ?_ | refine AW_blockR ?_ | refine AW_blockD ?_ | refine AW_blockC ?_ | refine AO_nil ?_ | refine AW_draw ?_ | refine AW_draw3 ?_ | refine AW_blockD3 ?_ | refine AHd_nil ?_ | ((first | with_reducible apply AO_pre | with_reducible apply AHd_pre); focus (simp only [Sm, wantedA, execA, stepA, List.getElem?_cons_zero, List.getElem?_cons_succ, if_true, if_false, binA, binInt, unA, eqA, Option.map, eq_self, reduceCtorEq, ite_true, ite_false, cellsAV, fitsAll, CK.fits, fillA, AV.cells, writeN, readN, sliceCells, appendA, lenA, i64, loA, hiA, Nat.reduceAdd, Nat.reduceMul, Nat.reduceDiv, Nat.reduceSub, Nat.reduceLeDiff, Nat.reduceLT, Int.reduceLE, Int.reduceLT, foldA, maxA, minA, Int.reduceBEq, Int.reduceBNe, Int.reduceGT, Int.reduceGE, Int.reduceEq, Int.reduceNe, Int.reduceToNat, AOp.stops, ↓want_eq, ↓exec_lenX]; with_reducible rfl))))
  refine AO_call rfl ((AC_Places H (r : Int) (by omega)).kept (Nat.le_refl _)) ?_
  rintro v H1 ⟨hv, k1⟩
  rcases hv with ⟨hv, _⟩ | ⟨_, _, q, rfl, hq, ho⟩
  · omega
  rw [Int.toNat_natCast] at ho ⊢
  have hy1 := hy.kept k1
  have hl1 := k1.1
  have b1 : ((32 * r : Nat) : Int) * 4 ≤ 140737488355328 := by omega
  have e1 : IntKind.i64.wrap (((32 * r : Nat) : Int) - 16) = ((32 * r - 16 : Nat) : Int) := by rw [i64_of (by omega) (by omega)]; omega
  have hyl : ∀ b, inX y b → b < H.length := fun b hb => hy.lt hb
  (repeat (first | with_reducible refine thenQ_n ?_ | with_reducible refine blockQ_n ?_ | refine AW_skip ?_ | refine AW_seq ?_ | refine AW_ops ?_ | refine AW_blockS ?_ | refine AW_blockR ?_ | refine AW_blockD ?_ | refine AW_blockC ?_ | refine AO_nil ?_ | refine AW_draw ?_ | refine AW_draw3 ?_ | refine AW_blockD3 ?_ | refine AHd_nil ?_ | ((first | with_reducible apply AO_pre | with_reducible apply AHd_pre); focus (simp only [Sm, wantedA, execA, stepA, List.getElem?_cons_zero, List.getElem?_cons_succ, if_true, if_false, binA, binInt, unA, eqA, Option.map, eq_self, reduceCtorEq, ite_true, ite_false, cellsAV, fitsAll, CK.fits, fillA, AV.cells, writeN, readN, sliceCells, appendA, lenA, i64, loA, hiA, Nat.reduceAdd, Nat.reduceMul, Nat.reduceDiv, Nat.reduceSub, Nat.reduceLeDiff, Nat.reduceLT, Int.reduceLE, Int.reduceLT, foldA, maxA, minA, Int.reduceBEq, Int.reduceBNe, Int.reduceGT, Int.reduceGE, Int.reduceEq, Int.reduceNe, Int.reduceToNat, AOp.stops, ↓want_eq, ↓exec_lenX, hy1.len1 _ (yl.trans hl), b1, Int.le_refl, zeros32]; with_reducible rfl))))
  have hy2 : Rd (H1 ++ [Blk.own (W32 (List.replicate (32 * r) 0))]) y 1 (W32 ls) := hy1.kept (Kept.push _ _ _)
  obtain ⟨y', hs, hy', hin⟩ := hy2.slice_from (k := 32 * r - 16) (by rw [yl]; omega)
  have hlast : (W32 ls).drop (32 * r - 16) = W32 (lastW ls) := by
    simp only [lastW, W32, ← List.map_drop, hl]
    rw [List.take_of_length_le (by rw [List.length_drop]; omega)]
  rw [hlast] at hy'
  have hL := h.last
  rcases hy' with ⟨_, h1⟩ | ⟨u, uo, n, rfl, hn, hr⟩
  · have := hL.len; rw [h1] at this; simp at this
  obtain rfl : n = 16 := by have := hL.len; omega
  rw [Nat.mul_one] at hr
  have hu : u < H1.length + 1 := by have := hyl u (hin u ⟨_, _, _, rfl⟩); omega
  have ho2 := hown_app (l := [Blk.own (W32 (List.replicate (32 * r) 0))]) ho
  have hql := hown_lt ho
  have e2 : IntKind.i64.wrap (2 * (r : Int)) = ((2 * r : Nat) : Int) := by rw [i64_of (by omega) (by omega)]; omega
  obtain ⟨full, hcu⟩ : ∃ full, hcells (H1 ++ [Blk.own (W32 (List.replicate (32 * r) 0))]) u = some full := by
    cases hcu : hcells (H1 ++ [Blk.own (W32 (List.replicate (32 * r) 0))]) u with
    | none => simp only [readN, hcu] at hr; cases hr
    | some full => exact ⟨full, rfl⟩
  (repeat (first | refine GOS ?_ | (with_reducible (first | apply AO_any | apply AHd_any | apply AP_go | apply AHP_go); focus (simp only [Sm, wantedA, execA, stepA, List.getElem?_cons_zero, List.getElem?_cons_succ, if_true, if_false, binA, binInt, unA, eqA, Option.map, eq_self, reduceCtorEq, ite_true, ite_false, cellsAV, fitsAll, CK.fits, fillA, AV.cells, writeN, sliceCells, appendA, lenA, i64, loA, hiA, Nat.reduceAdd, Nat.reduceMul, Nat.reduceDiv, Nat.reduceSub, Nat.reduceLeDiff, Nat.reduceLT, Int.reduceLE, Int.reduceLT, foldA, maxA, minA, Int.reduceBEq, Int.reduceBNe, Int.reduceGT, Int.reduceGE, Int.reduceEq, Int.reduceNe, Int.reduceToNat, AOp.stops, ↓want_eq, ↓exec_lenX, ↓exec_storeX, ↓exec_storeN, storeN_one, ↓exec_bsX, ↓exec_sliceX, ↓exec_copyX, ↓exec_appNil, ↓exec_carryX, Nat.sub_zero, rep_len, hy2.len1 _ (yl.trans hl), e1, e2, hs, hcu, ↓hr, storeN_lastp (by simp : H1.length + 1 = (H1 ++ [Blk.own (W32 (List.replicate (32 * r) 0))]).length) (by omega : H.length ≤ H1.length + 1), rep_len, hL.len]; with_reducible first | exact EqP.at_ | exact EqP.cont | exact EqP.hcont | exact EqP.gate | exact EqP.hgate))))
  have ho3 := hown_app (l := [Blk.own (W32 (lastW ls))]) ho2
  have hy3 : Rd (H1 ++ [Blk.own (W32 (List.replicate (32 * r) 0))] ++ [Blk.own (W32 (lastW ls))]) y 1 (W32 ls) := hy2.kept (Kept.push _ _ _)
  have g0 : hown (H1 ++ [Blk.own (W32 (List.replicate (32 * r) 0))] ++ [Blk.own (W32 (lastW ls))]) H1.length = some (W32 (List.replicate (32 * r) 0)) := hown_app hown_last
  have g1 : hown (H1 ++ [Blk.own (W32 (List.replicate (32 * r) 0))] ++ [Blk.own (W32 (lastW ls))]) (H1.length + 1) = some (W32 (lastW ls)) := by
    have := hown_last (H := H1 ++ [Blk.own (W32 (List.replicate (32 * r) 0))]) (cs := W32 (lastW ls))
    simpa using this
  clear ho ho2 hy2 hr hcu hs
  generalize H1 ++ [Blk.own (W32 (List.replicate (32 * r) 0))] ++ [Blk.own (W32 (lastW ls))] = H2 at *
  have hyo : ∀ b, inX y b → ¬ (b = H1.length ∨ b = H1.length + 1) := fun b hb => by have := hyl b hb; omega
  have hqo : ¬ (q = H1.length ∨ q = H1.length + 1) := by omega
  clear hy1 k1 hu hql hin
  generalize hoe : H1.length = o at *
  refine AW_mid (fun e fr H' => e = .normal ∧ mxI y q o r ls H2 (2 * r) fr H') ?_ ?_
  · refine AW_block (AW_up (mxI y q o r ls H2) (2 * r) ⟨Chg.refl _ _, g0, g1, stale _ _ rfl⟩ ?_)
    rintro i fr H3 hi ⟨c3, o3, x3, st, rfl⟩
    (repeat (first | with_reducible refine thenQ_n ?_ | with_reducible refine blockQ_n ?_ | refine AW_skip ?_ | refine AW_seq ?_ | refine AW_ops ?_ | refine AW_blockS ?_ | refine AW_blockR ?_ | refine AW_blockD ?_ | refine AW_blockC ?_ | refine AO_nil ?_ | refine AW_draw ?_ | refine AW_draw3 ?_ | refine AW_blockD3 ?_ | refine AHd_nil ?_ | ((first | with_reducible apply AO_pre | with_reducible apply AHd_pre); focus (simp only [Sm, wantedA, execA, stepA, List.getElem?_cons_zero, List.getElem?_cons_succ, if_true, if_false, binA, binInt, unA, eqA, Option.map, eq_self, reduceCtorEq, ite_true, ite_false, cellsAV, fitsAll, CK.fits, fillA, AV.cells, writeN, readN, sliceCells, appendA, lenA, i64, loA, hiA, Nat.reduceAdd, Nat.reduceMul, Nat.reduceDiv, Nat.reduceSub, Nat.reduceLeDiff, Nat.reduceLT, Int.reduceLE, Int.reduceLT, foldA, maxA, minA, Int.reduceBEq, Int.reduceBNe, Int.reduceGT, Int.reduceGE, Int.reduceEq, Int.reduceNe, Int.reduceToNat, AOp.stops, ↓want_eq, ↓exec_lenX]; with_reducible rfl))))
    refine AW_cond rfl ?_ ?_ <;> intro ht
    · have ht : (i : Int) < ((2 * r : Nat) : Int) := of_decide_eq_true ht
      have hi2 : i < 2 * r := by omega
      have hX := h.xs i
      (repeat (first | with_reducible refine thenQ_n ?_ | with_reducible refine blockQ_n ?_ | refine AW_skip ?_ | refine AW_seq ?_ | refine AW_ops ?_ | refine AW_blockS ?_ | refine AW_blockR ?_ | refine AW_blockD ?_ | refine AW_blockC ?_ | refine AO_nil ?_ | refine AW_draw ?_ | refine AW_draw3 ?_ | refine AW_blockD3 ?_ | refine AHd_nil ?_ | ((first | with_reducible apply AO_pre | with_reducible apply AHd_pre); focus (simp only [Sm, wantedA, execA, stepA, List.getElem?_cons_zero, List.getElem?_cons_succ, if_true, if_false, binA, binInt, unA, eqA, Option.map, eq_self, reduceCtorEq, ite_true, ite_false, cellsAV, fitsAll, CK.fits, fillA, AV.cells, writeN, readN, sliceCells, appendA, lenA, i64, loA, hiA, Nat.reduceAdd, Nat.reduceMul, Nat.reduceDiv, Nat.reduceSub, Nat.reduceLeDiff, Nat.reduceLT, Int.reduceLE, Int.reduceLT, foldA, maxA, minA, Int.reduceBEq, Int.reduceBNe, Int.reduceGT, Int.reduceGE, Int.reduceEq, Int.reduceNe, Int.reduceToNat, AOp.stops, ↓want_eq, ↓exec_lenX]; with_reducible rfl))))
      refine AW_mid (fun e fr H' => e = .normal ∧ mxJ y q o r i (xsK ls i) ls H3 16 fr H') ?_ ?_
      · refine AW_block (AW_up (mxJ y q o r i (xsK ls i) ls H3) 16 ⟨Chg.refl _ _, x3, stale _ _ rfl⟩ ?_)
        rintro k fr H4 hk ⟨c4, x4, st, rfl⟩
        (repeat (first | with_reducible refine thenQ_n ?_ | with_reducible refine blockQ_n ?_ | refine AW_skip ?_ | refine AW_seq ?_ | refine AW_ops ?_ | refine AW_blockS ?_ | refine AW_blockR ?_ | refine AW_blockD ?_ | refine AW_blockC ?_ | refine AO_nil ?_ | refine AW_draw ?_ | refine AW_draw3 ?_ | refine AW_blockD3 ?_ | refine AHd_nil ?_ | ((first | with_reducible apply AO_pre | with_reducible apply AHd_pre); focus (simp only [Sm, wantedA, execA, stepA, List.getElem?_cons_zero, List.getElem?_cons_succ, if_true, if_false, binA, binInt, unA, eqA, Option.map, eq_self, reduceCtorEq, ite_true, ite_false, cellsAV, fitsAll, CK.fits, fillA, AV.cells, writeN, readN, sliceCells, appendA, lenA, i64, loA, hiA, Nat.reduceAdd, Nat.reduceMul, Nat.reduceDiv, Nat.reduceSub, Nat.reduceLeDiff, Nat.reduceLT, Int.reduceLE, Int.reduceLT, foldA, maxA, minA, Int.reduceBEq, Int.reduceBNe, Int.reduceGT, Int.reduceGE, Int.reduceEq, Int.reduceNe, Int.reduceToNat, AOp.stops, ↓want_eq, ↓exec_lenX]; with_reducible rfl))))
        refine AW_cond rfl ?_ ?_ <;> intro ht4
        · have ht4 : (k : Int) < 16 := of_decide_eq_true ht4
          have hk2 : k < 16 := by omega
          have hy4 : Rd H4 y 1 (W32 ls) := (hy3.chg c3 hyo).chg c4 fun b hb e => hyo b hb (.inr e)
          have e3 : IntKind.i64.wrap (16 * (i : Int)) = ((16 * i : Nat) : Int) := by rw [i64_of (by omega) (by omega)]; omega
          have e4 : IntKind.i64.wrap (((16 * i : Nat) : Int) + (k : Int)) = ((16 * i + k : Nat) : Int) := i64_add (by omega)
          have hM := h.mixIn hX i k
          have gx := hM.get hk2
          rw [mixIn_self (by rw [hX.1]; exact hk2)] at gx
          obtain ⟨u, uo, full, rfl, hf, hg⟩ := hy4.get (i := 16 * i + k) (by rw [yl]; omega)
          rw [W32_get (by omega)] at hg
          have b3 : ((16 * i + k : Nat) : Int) < (((W32 ls).length : Nat) : Int) := by rw [yl]; omega
          have ex := xor32 (hX.2 k) (h.lt (16 * i + k))
          (repeat (first | with_reducible refine thenQ_n ?_ | with_reducible refine blockQ_n ?_ | refine AW_skip ?_ | refine AW_seq ?_ | refine AW_ops ?_ | refine AW_blockS ?_ | refine AW_blockR ?_ | refine AW_blockD ?_ | refine AW_blockC ?_ | refine AO_nil ?_ | refine AW_draw ?_ | refine AW_draw3 ?_ | refine AW_blockD3 ?_ | refine AHd_nil ?_ | ((first | with_reducible apply AO_pre | with_reducible apply AHd_pre); focus (simp only [Sm, wantedA, execA, stepA, List.getElem?_cons_zero, List.getElem?_cons_succ, if_true, if_false, binA, binInt, unA, eqA, Option.map, eq_self, reduceCtorEq, ite_true, ite_false, cellsAV, fitsAll, CK.fits, fillA, AV.cells, writeN, readN, sliceCells, appendA, lenA, i64, loA, hiA, Nat.reduceAdd, Nat.reduceMul, Nat.reduceDiv, Nat.reduceSub, Nat.reduceLeDiff, Nat.reduceLT, Int.reduceLE, Int.reduceLT, foldA, maxA, minA, Int.reduceBEq, Int.reduceBNe, Int.reduceGT, Int.reduceGE, Int.reduceEq, Int.reduceNe, Int.reduceToNat, AOp.stops, ↓want_eq, ↓exec_lenX, hcells_own x4, ht4, gx, e3, e4, hf, hg, b3, ex, ↓exec_storeX, storeX_own x4 (by omega : H.length ≤ o + 1) (by rw [hM.len]; exact hk2 : k < _), Nat.zero_add, i64_succ (show k < 9223372036854775807 by omega)]; with_reducible rfl))))
          refine ⟨hk2, c4.trans (Chg.set (S := (· = o + 1)) rfl) fun _ _ h => h, ?_, stale _ _ rfl⟩
          rw [hown_set (hown_lt x4), W32_setL, mixIn_step]
        · obtain rfl : k = 16 := by have : ¬ (k : Int) < 16 := of_decide_eq_false ht4; omega
          exact AW_exit ⟨rfl, c4, x4, stale _ _ rfl⟩
      rintro e fr H4 ⟨rfl, c4, x4, st, rfl⟩
      have hM := h.mixIn hX i 16
      have hr4 : readN H4 (o + 1) 0 16 = some (W32 (mixIn (xsK ls i) ls i 16)) := by have := readN_all (hcells_own x4); rw [hM.len] at this; exact this
      (repeat (first | with_reducible refine thenQ_n ?_ | with_reducible refine blockQ_n ?_ | refine AW_skip ?_ | refine AW_seq ?_ | refine AW_ops ?_ | refine AW_blockS ?_ | refine AW_blockR ?_ | refine AW_blockD ?_ | refine AW_blockC ?_ | refine AO_nil ?_ | refine AW_draw ?_ | refine AW_draw3 ?_ | refine AW_blockD3 ?_ | refine AHd_nil ?_ | ((first | with_reducible apply AO_pre | with_reducible apply AHd_pre); focus (simp only [Sm, wantedA, execA, stepA, List.getElem?_cons_zero, List.getElem?_cons_succ, if_true, if_false, binA, binInt, unA, eqA, Option.map, eq_self, reduceCtorEq, ite_true, ite_false, cellsAV, fitsAll, CK.fits, fillA, AV.cells, writeN, readN, sliceCells, appendA, lenA, i64, loA, hiA, Nat.reduceAdd, Nat.reduceMul, Nat.reduceDiv, Nat.reduceSub, Nat.reduceLeDiff, Nat.reduceLT, Int.reduceLE, Int.reduceLT, foldA, maxA, minA, Int.reduceBEq, Int.reduceBNe, Int.reduceGT, Int.reduceGE, Int.reduceEq, Int.reduceNe, Int.reduceToNat, AOp.stops, ↓want_eq, ↓exec_lenX, ↓hr4]; with_reducible rfl))))
      refine AO_call rfl ((AC_Eight H4 _ hM).kept (by have := c3.1; have := c4.1; have := hown_lt x4; omega)) ?_
      rintro _ H5 ⟨rfl, k5⟩
      have c5 := Chg.of_kept k5
      have x5 := c5.hown (fun h => h) x4
      have o5 := c5.hown (fun h => h) (c4.hown (by omega : ¬ o = o + 1) o3)
      have q5 := c5.hown (fun h => h) (c4.hown (by omega : ¬ q = o + 1) (c3.hown hqo ho3))
      have hC : Words (core (mixIn (xsK ls i) ls i 16) 4) := h.xs (i + 1)
      have eC : xsK ls (i + 1) = core (mixIn (xsK ls i) ls i 16) 4 := rfl
      have hol := h.outK_length i (by omega)
      have hput := putL_length (l := outK r ls i) (m := xsK ls (i + 1)) (o := 16 * plc r i) (by rw [eC, hC.1, hol]; have := plc_lt hi2; omega)
      have hout : outK r ls (i + 1) = putL (outK r ls i) (16 * plc r i) (xsK ls (i + 1)) := rfl
      rw [eC] at hout hput
      generalize core (mixIn (xsK ls i) ls i 16) 4 = C at *
      have hp := plc_lt hi2
      (repeat (first | with_reducible refine thenQ_n ?_ | with_reducible refine blockQ_n ?_ | refine AW_skip ?_ | refine AW_seq ?_ | refine AW_ops ?_ | refine AW_blockS ?_ | refine AW_blockR ?_ | refine AW_blockD ?_ | refine AW_blockC ?_ | refine AO_nil ?_ | refine AW_draw ?_ | refine AW_draw3 ?_ | refine AW_blockD3 ?_ | refine AHd_nil ?_ | ((first | with_reducible apply AO_pre | with_reducible apply AHd_pre); focus (simp only [Sm, wantedA, execA, stepA, List.getElem?_cons_zero, List.getElem?_cons_succ, if_true, if_false, binA, binInt, unA, eqA, Option.map, eq_self, reduceCtorEq, ite_true, ite_false, cellsAV, fitsAll, CK.fits, fillA, AV.cells, writeN, readN, sliceCells, appendA, lenA, i64, loA, hiA, Nat.reduceAdd, Nat.reduceMul, Nat.reduceDiv, Nat.reduceSub, Nat.reduceLeDiff, Nat.reduceLT, Int.reduceLE, Int.reduceLT, foldA, maxA, minA, Int.reduceBEq, Int.reduceBNe, Int.reduceGT, Int.reduceGE, Int.reduceEq, Int.reduceNe, Int.reduceToNat, AOp.stops, ↓want_eq, ↓exec_lenX, ↓exec_storeN, storeN_all x5 (by omega : H.length ≤ o + 1) hM.len hC.len]; with_reducible rfl))))
      have o6 : hown (H5.set (o + 1) (.own (W32 C))) o = some (W32 (outK r ls i)) := by rw [hown_set_ne (by omega)]; exact o5
      have q6 : hown (H5.set (o + 1) (.own (W32 C))) q = some (I64 (upd (plc r) (List.replicate (2 * r) 0) (2 * r))) := by rw [hown_set_ne (by omega)]; exact q5
      have x6 : hown (H5.set (o + 1) (.own (W32 C))) (o + 1) = some (W32 C) := hown_set (hown_lt x5)
      have c6 : Chg (fun b => b = o ∨ b = o + 1) H2 (H5.set (o + 1) (.own (W32 C))) := ((c3.trans c4 fun _ _ h => .inr h).trans c5 fun _ _ h => h.elim).trans (Chg.set (S := (· = o + 1)) rfl) fun _ _ h => .inr h
      clear o5 q5 x5 c5 k5 c4 x4 c3 o3 x3 hr4
      generalize H5.set (o + 1) (.own (W32 C)) = H6 at *
      have gq : (I64 (upd (plc r) (List.replicate (2 * r) 0) (2 * r)))[i]? = some (.int .i64 ((plc r i : Nat) : Int)) := by
        have ul : (upd (plc r) (List.replicate (2 * r) 0) (2 * r)).length = 2 * r := by rw [upd_length]; simp
        rw [I64_get (by rw [ul]; exact hi2), List.getD_eq_getElem?_getD, upd_get _ _ (by simpa using hi2), if_pos hi2]; rfl
      have e5 : IntKind.i64.wrap (16 * ((plc r i : Nat) : Int)) = ((16 * plc r i : Nat) : Int) := by rw [i64_of (by omega) (by omega)]; omega
      have l6 : (W32 (outK r ls i)).length = 32 * r := by rw [W32_length, hol]
      have a6 : 0 + 16 * 1 ≤ (W32 C).length := by rw [hC.len]; omega
      (repeat (first | with_reducible refine thenQ_n ?_ | with_reducible refine blockQ_n ?_ | refine AW_skip ?_ | refine AW_seq ?_ | refine AW_ops ?_ | refine AW_blockS ?_ | refine AW_blockR ?_ | refine AW_blockD ?_ | refine AW_blockC ?_ | refine AO_nil ?_ | refine AW_draw ?_ | refine AW_draw3 ?_ | refine AW_blockD3 ?_ | refine AHd_nil ?_ | ((first | with_reducible apply AO_pre | with_reducible apply AHd_pre); focus (simp only [Sm, wantedA, execA, stepA, List.getElem?_cons_zero, List.getElem?_cons_succ, if_true, if_false, binA, binInt, unA, eqA, Option.map, eq_self, reduceCtorEq, ite_true, ite_false, cellsAV, fitsAll, CK.fits, fillA, AV.cells, writeN, readN, sliceCells, appendA, lenA, i64, loA, hiA, Nat.reduceAdd, Nat.reduceMul, Nat.reduceDiv, Nat.reduceSub, Nat.reduceLeDiff, Nat.reduceLT, Int.reduceLE, Int.reduceLT, foldA, maxA, minA, Int.reduceBEq, Int.reduceBNe, Int.reduceGT, Int.reduceGE, Int.reduceEq, Int.reduceNe, Int.reduceToNat, AOp.stops, ↓want_eq, ↓exec_lenX, hcells_own q6, ht, gq, e5, Nat.zero_add, Nat.mul_one, ↓exec_sliceX, sliceX_from (hcells_own o6) (by omega : 16 * plc r i ≤ 32 * r), hcells_own x6, hC.len, Nat.sub_zero, ↓exec_copyX, copyX_own o6 (by omega : H.length ≤ o) (Rd.all (hcells_own x6) hC.len) (by rw [hC.len]; omega : min _ (32 * r - 16 * plc r i) = 16) (by rw [l6]; omega : 16 * plc r i + 16 ≤ _), i64_succ (show i < 9223372036854775807 by omega)]; with_reducible rfl))))
      have e8 : (W32 C).take 16 = W32 C := List.take_of_length_le (by rw [hC.len]; omega)
      have e7 : List.take (16 * plc r i) (W32 (outK r ls i)) ++ List.take 16 (W32 C) ++ List.drop (16 * plc r i + 16) (W32 (outK r ls i)) = W32 (outK r ls (i + 1)) := by
        rw [hout, e8]
        simp only [putL, W32, List.map_append, List.map_take, List.map_drop, hC.1]
      rw [e7]
      refine ⟨hi2, c6.trans (Chg.set (S := (· = o)) rfl) fun _ _ h => .inl h, ?_, ?_, stale _ _ rfl⟩
      · exact hown_set (hown_lt o6)
      · rw [hown_set_ne (by omega), eC]; exact x6
    · obtain rfl : i = 2 * r := by have : ¬ (i : Int) < ((2 * r : Nat) : Int) := of_decide_eq_false ht; omega
      exact AW_exit ⟨rfl, c3, o3, x3, stale _ _ rfl⟩
  rintro e fr H3 ⟨rfl, c3, o3, x3, st, rfl⟩
  rw [h.outK_all] at o3
  (repeat (first | with_reducible refine thenQ_n ?_ | with_reducible refine blockQ_n ?_ | refine AW_skip ?_ | refine AW_seq ?_ | refine AW_ops ?_ | refine AW_blockS ?_ | refine AW_blockR ?_ | refine AW_blockD ?_ | refine AW_blockC ?_ | refine AO_nil ?_ | refine AW_draw ?_ | refine AW_draw3 ?_ | refine AW_blockD3 ?_ | refine AHd_nil ?_ | ((first | with_reducible apply AO_pre | with_reducible apply AHd_pre); focus (simp only [Sm, wantedA, execA, stepA, List.getElem?_cons_zero, List.getElem?_cons_succ, if_true, if_false, binA, binInt, unA, eqA, Option.map, eq_self, reduceCtorEq, ite_true, ite_false, cellsAV, fitsAll, CK.fits, fillA, AV.cells, writeN, readN, sliceCells, appendA, lenA, i64, loA, hiA, Nat.reduceAdd, Nat.reduceMul, Nat.reduceDiv, Nat.reduceSub, Nat.reduceLeDiff, Nat.reduceLT, Int.reduceLE, Int.reduceLT, foldA, maxA, minA, Int.reduceBEq, Int.reduceBNe, Int.reduceGT, Int.reduceGE, Int.reduceEq, Int.reduceNe, Int.reduceToNat, AOp.stops, ↓want_eq, ↓exec_lenX]; with_reducible rfl))))
  exact AW_ret ⟨_, rfl, o, rfl, by omega, o3⟩
end PK

/- The document's mixing of rows, walked; Integer. -/
namespace PK
open Go PAbs
set_option linter.unusedSimpArgs false
set_option linter.unusedVariables false
set_option maxRecDepth 100000
set_option maxHeartbeats 2000000

end PK

/- Integer; ShuffleMixes, walked. -/
namespace PK
open Go PAbs
set_option linter.unusedSimpArgs false
set_option linter.unusedVariables false
set_option maxRecDepth 100000
set_option maxHeartbeats 2000000

def intV (r : Nat) (ls : List Nat) : Nat := ls.getD (32 * r - 16) 0 + 4294967296 * ls.getD (32 * r - 15) 0
theorem AC_shInteger (H : AHeap) (y : Cell) (ls : List Nat) (r : Nat) (hy : Rd H y 1 (W32 ls)) (h : Row r ls) :
    AC A H.length F_shuffle_Integer [.c (.int .i64 (r : Int)), .c y] H (fun v H' => v = .tup [.c (.int .u64 ((intV r ls : Nat) : Int)), .c (.int .i64 0)] ∧ H = H') := by
  have yl : (W32 ls).length = ls.length := W32_length
  have hl := h.len; have hp := h.pos; have hle := h.le
  refine AC_enter t_shuffle_Integer ?_; simp only [c_shuffle_Integer, enterA, List.replicate, List.length_cons, List.length_nil, Nat.reduceAdd, Nat.reduceSub, List.cons_append, List.nil_append]
  refine GO ?_
  refine AO_call rfl (AC_shCheck H y ls r hy) ?_
  rintro _ _ ⟨rfl, rfl⟩
  rw [whyE_ok hp hle hl]
  have e2 : IntKind.i64.wrap (2 * (r : Int)) = ((2 * r : Nat) : Int) := by rw [i64_of (by omega) (by omega)]; omega
  have e3 : IntKind.i64.wrap (((2 * r : Nat) : Int) - 1) = ((2 * r - 1 : Nat) : Int) := by rw [i64_of (by omega) (by omega)]; omega
  have e4 : IntKind.i64.wrap (16 * ((2 * r - 1 : Nat) : Int)) = ((32 * r - 16 : Nat) : Int) := by rw [i64_of (by omega) (by omega)]; omega
  have e5 : IntKind.i64.wrap (((32 * r - 16 : Nat) : Int) + 1) = ((32 * r - 15 : Nat) : Int) := by rw [i64_of (by omega) (by omega)]; omega
  obtain ⟨u, o, full, rfl, hf, hg⟩ := hy.get (i := 32 * r - 16) (by rw [yl]; omega)
  obtain ⟨full', hf', hg', _, _⟩ := hy.at1 (32 * r - 15) (by rw [yl]; omega)
  rw [hf] at hf'
  cases hf'
  rw [W32_get (by omega)] at hg hg'
  have b3 : ((32 * r - 16 : Nat) : Int) < (((W32 ls).length : Nat) : Int) := by rw [yl]; omega
  have b4 : ((32 * r - 15 : Nat) : Int) < (((W32 ls).length : Nat) : Int) := by rw [yl]; omega
  have w1 := h.lt (32 * r - 16)
  have w2 := h.lt (32 * r - 15)
  have ei : intV r ls = ls.getD (32 * r - 16) 0 + 4294967296 * ls.getD (32 * r - 15) 0 := rfl
  generalize ls.getD (32 * r - 16) 0 = a at *
  generalize ls.getD (32 * r - 15) 0 = b at *
  have c1 : IntKind.u64.wrap (a : Int) = (a : Int) := by rw [wrap_u64]; omega
  have c2 : IntKind.u64.wrap (b : Int) = (b : Int) := by rw [wrap_u64]; omega
  have s1 : shlA .u64 (b : Int) 32 = ((b * 4294967296 : Nat) : Int) := by
    have := shl_of (k := .u64) rfl (x := b) (p := 32) (by decide)
    refine this.trans ?_
    show ((b * 2 ^ 32 % 2 ^ 64 : Nat) : Int) = _
    congr 1; omega
  have s2 : bitsA .or .u64 (a : Int) ((b * 4294967296 : Nat) : Int) = ((intV r ls : Nat) : Int) := by
    rw [or_of rfl (by show a < 2 ^ 64; omega) (by show b * 4294967296 < 2 ^ 64; omega), ei, Nat.or_comm, ← orAdd (i := 32) rfl w1]
    congr 1; omega
  have n32 : ¬ ((32 : Int) < 0) := by omega
  (repeat (first | refine GOS ?_ | (with_reducible (first | apply AO_any | apply AHd_any | apply AP_go | apply AHP_go); focus (simp only [Sm, wantedA, execA, stepA, List.getElem?_cons_zero, List.getElem?_cons_succ, if_true, if_false, binA, binInt, unA, eqA, Option.map, eq_self, reduceCtorEq, ite_true, ite_false, cellsAV, fitsAll, CK.fits, fillA, AV.cells, writeN, sliceCells, appendA, lenA, i64, loA, hiA, Nat.reduceAdd, Nat.reduceMul, Nat.reduceDiv, Nat.reduceSub, Nat.reduceLeDiff, Nat.reduceLT, Int.reduceLE, Int.reduceLT, foldA, maxA, minA, Int.reduceBEq, Int.reduceBNe, Int.reduceGT, Int.reduceGE, Int.reduceEq, Int.reduceNe, Int.reduceToNat, AOp.stops, ↓want_eq, ↓exec_lenX, ↓exec_storeX, ↓exec_storeN, storeN_one, ↓exec_bsX, ↓exec_sliceX, ↓exec_copyX, ↓exec_appNil, ↓exec_carryX, Nat.sub_zero, rep_len, e2, e3, e4, e5, hf, hg, hg', b3, b4, c1, c2, s1, s2, n32]; with_reducible first | exact EqP.at_ | exact EqP.cont | exact EqP.hcont | exact EqP.gate | exact EqP.hgate))))
  exact AW_ret ⟨_, rfl, rfl, rfl⟩
end PK

/- Package size as code of the abstract machine. -/
namespace PK
open Go PAbs

noncomputable def c_size_Power : AFn := AFn.mk 12 [.tmp 2, .tmp 3]
  (.seq (.region
      [⟨some 2, .mv (.k (.c (.int .i64 0))), none⟩,
        ⟨some 3, .mv (.k (.c (.int .i64 0))), none⟩])
  (.seq (.block 0
      (.seq (.region
          [⟨some 5, .mv (.t 0), none⟩,
            ⟨some 6, .bin .lss (.t 5) (.k (.c (.int .i64 0))), none⟩,
            ⟨some 4, .mv (.t 6), none⟩])
      (.cond (.t 4)
        (.seq (.region
            [⟨some 2, .mv (.k (.c (.int .i64 0))), none⟩,
              ⟨some 3, .mv (.k (.c (.int .i64 1))), none⟩])
        (.ret))
        (.seq (.region
            [⟨some 8, .mv (.t 0), none⟩,
              ⟨some 9, .bin .gtr (.t 8) (.k (.c (.int .i64 62))), none⟩,
              ⟨some 7, .mv (.t 9), none⟩])
        (.cond (.t 7)
          (.seq (.region
              [⟨some 2, .mv (.k (.c (.int .i64 0))), none⟩,
                ⟨some 3, .mv (.k (.c (.int .i64 10))), none⟩])
          (.ret))
          (.skip))))))
  (.seq (.region
      [⟨some 10, .mv (.t 0), none⟩,
        ⟨some 11, .bin .shl (.k (.c (.int .i64 1))) (.t 10), none⟩,
        ⟨some 2, .mv (.t 11), none⟩,
        ⟨some 3, .mv (.k (.c (.int .i64 0))), none⟩])
  (.ret))))
theorem t_size_Power : A F_size_Power = some c_size_Power := by kernel_rfl

noncomputable def c_size_Within : AFn := AFn.mk 15 [.tmp 6]
  (.seq (.region
      [⟨some 6, .mv (.k (.c (.bool false))), none⟩])
  (.seq (.region
      [⟨some 7, .mv (.t 0), none⟩,
        ⟨some 8, .mv (.t 1), none⟩,
        ⟨some 9, .bin .geq (.t 7) (.t 8), none⟩,
        ⟨some 10, .mv (.t 9), none⟩,
        ⟨some 11, .mv (.t 0), some (10, true)⟩,
        ⟨some 12, .mv (.t 2), some (10, true)⟩,
        ⟨some 13, .bin .leq (.t 11) (.t 12), some (10, true)⟩,
        ⟨some 14, .pick (.t 10) (.t 13) (.k (.c (.bool false))), none⟩,
        ⟨some 6, .mv (.t 14), none⟩])
  (.ret)))
theorem t_size_Within : A F_size_Within = some c_size_Within := by kernel_rfl

noncomputable def c_size_Add : AFn := AFn.mk 34 [.tmp 2, .tmp 3]
  (.seq (.region
      [⟨some 2, .mv (.k (.c (.int .i64 0))), none⟩,
        ⟨some 3, .mv (.k (.c (.int .i64 0))), none⟩])
  (.seq (.region
      [⟨some 4, .mv (.k (.c (.int .i64 0))), none⟩])
  (.seq (.seq (.region
        [⟨some 9, .mv (.t 0), none⟩,
          ⟨some 10, .len false (.t 9), none⟩,
          ⟨some 11, .mv (.k (.c (.int .i64 0))), none⟩])
    (.block 0
      (.loop
        (.seq (.region
            [⟨some 12, .bin .lss (.t 11) (.t 10), none⟩])
        (.seq (.cond (.t 12)
            (.skip)
            (.exit 0))
        (.seq (.block 1
            (.seq (.region
                [⟨some 13, .idxSlc 1 (.t 9) (.t 11), none⟩,
                  ⟨some 14, .load1 (.t 13), none⟩,
                  ⟨some 6, .mv (.t 14), none⟩])
            (.seq (.region
                [⟨some 15, .mv (.t 6), none⟩,
                  ⟨some 16, .call F_size_held [.t 15], none⟩,
                  ⟨some 17, .un .not (.t 16), none⟩])
            (.cond (.t 17)
              (.seq (.region
                  [⟨some 2, .mv (.k (.c (.int .i64 0))), none⟩,
                    ⟨some 3, .mv (.k (.c (.int .i64 1))), none⟩])
              (.ret))
              (.skip)))))
        (.region
          [⟨some 18, .bin .add (.t 11) (.k (.c (.int .i64 1))), none⟩,
            ⟨some 11, .mv (.t 18), none⟩])))))))
  (.seq (.seq (.region
        [⟨some 19, .mv (.t 0), none⟩,
          ⟨some 20, .len false (.t 19), none⟩,
          ⟨some 21, .mv (.k (.c (.int .i64 0))), none⟩])
    (.block 2
      (.loop
        (.seq (.region
            [⟨some 22, .bin .lss (.t 21) (.t 20), none⟩])
        (.seq (.cond (.t 22)
            (.skip)
            (.exit 2))
        (.seq (.block 3
            (.seq (.region
                [⟨some 23, .idxSlc 1 (.t 19) (.t 21), none⟩,
                  ⟨some 24, .load1 (.t 23), none⟩,
                  ⟨some 8, .mv (.t 24), none⟩])
            (.seq (.seq (.region
                  [⟨some 25, .mv (.t 8), none⟩,
                    ⟨some 26, .mv (.t 4), none⟩,
                    ⟨some 27, .bin .sub (.k (.c (.int .i64 4611686018427387904))) (.t 26), none⟩,
                    ⟨some 28, .bin .gtr (.t 25) (.t 27), none⟩])
              (.cond (.t 28)
                (.seq (.region
                    [⟨some 2, .mv (.k (.c (.int .i64 0))), none⟩,
                      ⟨some 3, .mv (.k (.c (.int .i64 10))), none⟩])
                (.ret))
                (.skip)))
            (.region
              [⟨some 29, .mv (.t 4), none⟩,
                ⟨some 30, .mv (.t 8), none⟩,
                ⟨some 31, .bin .add (.t 29) (.t 30), none⟩,
                ⟨some 4, .mv (.t 31), none⟩]))))
        (.region
          [⟨some 32, .bin .add (.t 21) (.k (.c (.int .i64 1))), none⟩,
            ⟨some 21, .mv (.t 32), none⟩])))))))
  (.seq (.region
      [⟨some 33, .mv (.t 4), none⟩,
        ⟨some 2, .mv (.t 33), none⟩,
        ⟨some 3, .mv (.k (.c (.int .i64 0))), none⟩])
  (.ret))))))
theorem t_size_Add : A F_size_Add = some c_size_Add := by kernel_rfl

noncomputable def c_size_Mul : AFn := AFn.mk 52 [.tmp 2, .tmp 3]
  (.seq (.region
      [⟨some 2, .mv (.k (.c (.int .i64 0))), none⟩,
        ⟨some 3, .mv (.k (.c (.int .i64 0))), none⟩])
  (.seq (.region
      [⟨some 4, .mv (.k (.c (.int .i64 1))), none⟩,
        ⟨some 5, .mv (.k (.c (.bool false))), none⟩])
  (.seq (.seq (.region
        [⟨some 12, .mv (.t 0), none⟩,
          ⟨some 13, .len false (.t 12), none⟩,
          ⟨some 14, .mv (.k (.c (.int .i64 0))), none⟩])
    (.block 0
      (.loop
        (.seq (.region
            [⟨some 15, .bin .lss (.t 14) (.t 13), none⟩])
        (.seq (.cond (.t 15)
            (.skip)
            (.exit 0))
        (.seq (.block 1
            (.seq (.region
                [⟨some 16, .idxSlc 1 (.t 12) (.t 14), none⟩,
                  ⟨some 17, .load1 (.t 16), none⟩,
                  ⟨some 7, .mv (.t 17), none⟩])
            (.seq (.seq (.region
                  [⟨some 18, .mv (.t 7), none⟩,
                    ⟨some 19, .call F_size_held [.t 18], none⟩,
                    ⟨some 20, .un .not (.t 19), none⟩])
              (.cond (.t 20)
                (.seq (.region
                    [⟨some 2, .mv (.k (.c (.int .i64 0))), none⟩,
                      ⟨some 3, .mv (.k (.c (.int .i64 1))), none⟩])
                (.ret))
                (.skip)))
            (.region
              [⟨some 21, .mv (.t 5), none⟩,
                ⟨some 22, .mv (.t 21), none⟩,
                ⟨some 23, .mv (.t 7), some (22, false)⟩,
                ⟨some 24, .bin .eql (.t 23) (.k (.c (.int .i64 0))), some (22, false)⟩,
                ⟨some 25, .pick (.t 22) (.k (.c (.bool true))) (.t 24), none⟩,
                ⟨some 5, .mv (.t 25), none⟩]))))
        (.region
          [⟨some 26, .bin .add (.t 14) (.k (.c (.int .i64 1))), none⟩,
            ⟨some 14, .mv (.t 26), none⟩])))))))
  (.seq (.seq (.region
        [⟨some 27, .mv (.t 5), none⟩])
    (.cond (.t 27)
      (.seq (.region
          [⟨some 2, .mv (.k (.c (.int .i64 0))), none⟩,
            ⟨some 3, .mv (.k (.c (.int .i64 0))), none⟩])
      (.ret))
      (.skip)))
  (.seq (.seq (.region
        [⟨some 28, .mv (.t 0), none⟩,
          ⟨some 29, .len false (.t 28), none⟩,
          ⟨some 30, .mv (.k (.c (.int .i64 0))), none⟩])
    (.block 2
      (.loop
        (.seq (.region
            [⟨some 31, .bin .lss (.t 30) (.t 29), none⟩])
        (.seq (.cond (.t 31)
            (.skip)
            (.exit 2))
        (.seq (.block 3
            (.seq (.region
                [⟨some 32, .idxSlc 1 (.t 28) (.t 30), none⟩,
                  ⟨some 33, .load1 (.t 32), none⟩,
                  ⟨some 9, .mv (.t 33), none⟩])
            (.seq (.region
                [⟨some 35, .mv (.t 4), none⟩,
                  ⟨some 36, .convInt .u64 (.t 35), none⟩,
                  ⟨some 37, .mv (.t 9), none⟩,
                  ⟨some 38, .convInt .u64 (.t 37), none⟩,
                  ⟨some 39, .call F_math_bits_Mul64 [.t 36, .t 38], none⟩,
                  ⟨some 34, .mv (.t 39), none⟩,
                  ⟨some 40, .extract (.t 34) 0, none⟩,
                  ⟨some 41, .extract (.t 34) 1, none⟩,
                  ⟨some 10, .mv (.t 40), none⟩,
                  ⟨some 11, .mv (.t 41), none⟩])
            (.seq (.seq (.region
                  [⟨some 42, .mv (.t 10), none⟩,
                    ⟨some 43, .bin .gtr (.t 42) (.k (.c (.int .u64 0))), none⟩,
                    ⟨some 44, .mv (.t 43), none⟩,
                    ⟨some 45, .mv (.t 11), some (44, false)⟩,
                    ⟨some 46, .bin .gtr (.t 45) (.k (.c (.int .u64 4611686018427387904))), some (44, false)⟩,
                    ⟨some 47, .pick (.t 44) (.k (.c (.bool true))) (.t 46), none⟩])
              (.cond (.t 47)
                (.seq (.region
                    [⟨some 2, .mv (.k (.c (.int .i64 0))), none⟩,
                      ⟨some 3, .mv (.k (.c (.int .i64 10))), none⟩])
                (.ret))
                (.skip)))
            (.region
              [⟨some 48, .mv (.t 11), none⟩,
                ⟨some 49, .convInt .i64 (.t 48), none⟩,
                ⟨some 4, .mv (.t 49), none⟩])))))
        (.region
          [⟨some 50, .bin .add (.t 30) (.k (.c (.int .i64 1))), none⟩,
            ⟨some 30, .mv (.t 50), none⟩])))))))
  (.seq (.region
      [⟨some 51, .mv (.t 4), none⟩,
        ⟨some 2, .mv (.t 51), none⟩,
        ⟨some 3, .mv (.k (.c (.int .i64 0))), none⟩])
  (.ret)))))))
theorem t_size_Mul : A F_size_Mul = some c_size_Mul := by kernel_rfl

noncomputable def c_size_Blocks : AFn := AFn.mk 8 [.tmp 2, .tmp 3]
  (.seq (.region
      [⟨some 2, .mv (.k (.c (.int .i64 0))), none⟩,
        ⟨some 3, .mv (.k (.c (.int .i64 0))), none⟩])
  (.seq (.region
      [⟨some 4, .mv (.t 0), none⟩,
        ⟨some 5, .call F_size_Up [.t 4, .k (.c (.int .i64 1024))], none⟩,
        ⟨some 6, .extract (.t 5) 0, none⟩,
        ⟨some 7, .extract (.t 5) 1, none⟩,
        ⟨some 2, .mv (.t 6), none⟩,
        ⟨some 3, .mv (.t 7), none⟩])
  (.ret)))
theorem t_size_Blocks : A F_size_Blocks = some c_size_Blocks := by kernel_rfl

noncomputable def c_size_held : AFn := AFn.mk 9 [.tmp 2]
  (.seq (.region
      [⟨some 2, .mv (.k (.c (.bool false))), none⟩])
  (.seq (.region
      [⟨some 3, .mv (.t 0), none⟩,
        ⟨some 4, .bin .geq (.t 3) (.k (.c (.int .i64 0))), none⟩,
        ⟨some 5, .mv (.t 4), none⟩,
        ⟨some 6, .mv (.t 0), some (5, true)⟩,
        ⟨some 7, .bin .leq (.t 6) (.k (.c (.int .i64 4611686018427387904))), some (5, true)⟩,
        ⟨some 8, .pick (.t 5) (.t 7) (.k (.c (.bool false))), none⟩,
        ⟨some 2, .mv (.t 8), none⟩])
  (.ret)))
theorem t_size_held : A F_size_held = some c_size_held := by kernel_rfl

noncomputable def c_size_Up : AFn := AFn.mk 24 [.tmp 4, .tmp 5]
  (.seq (.region
      [⟨some 4, .mv (.k (.c (.int .i64 0))), none⟩,
        ⟨some 5, .mv (.k (.c (.int .i64 0))), none⟩])
  (.seq (.seq (.region
        [⟨some 7, .mv (.t 0), none⟩,
          ⟨some 8, .call F_size_held [.t 7], none⟩,
          ⟨some 9, .un .not (.t 8), none⟩,
          ⟨some 10, .mv (.t 9), none⟩,
          ⟨some 11, .mv (.t 1), some (10, false)⟩,
          ⟨some 12, .bin .lss (.t 11) (.k (.c (.int .i64 1))), some (10, false)⟩,
          ⟨some 13, .pick (.t 10) (.k (.c (.bool true))) (.t 12), none⟩])
    (.cond (.t 13)
      (.seq (.region
          [⟨some 4, .mv (.k (.c (.int .i64 0))), none⟩,
            ⟨some 5, .mv (.k (.c (.int .i64 1))), none⟩])
      (.ret))
      (.skip)))
  (.seq (.region
      [⟨some 14, .mv (.t 0), none⟩,
        ⟨some 15, .mv (.t 1), none⟩,
        ⟨some 16, .bin .quo (.t 14) (.t 15), none⟩,
        ⟨some 6, .mv (.t 16), none⟩])
  (.seq (.seq (.region
        [⟨some 17, .mv (.t 0), none⟩,
          ⟨some 18, .mv (.t 1), none⟩,
          ⟨some 19, .bin .rem (.t 17) (.t 18), none⟩,
          ⟨some 20, .bin .gtr (.t 19) (.k (.c (.int .i64 0))), none⟩])
    (.cond (.t 20)
      (.region
        [⟨some 21, .mv (.t 6), none⟩,
          ⟨some 22, .bin .add (.t 21) (.k (.c (.int .i64 1))), none⟩,
          ⟨some 6, .mv (.t 22), none⟩])
      (.skip)))
  (.seq (.region
      [⟨some 23, .mv (.t 6), none⟩,
        ⟨some 4, .mv (.t 23), none⟩,
        ⟨some 5, .mv (.k (.c (.int .i64 0))), none⟩])
  (.ret))))))
theorem t_size_Up : A F_size_Up = some c_size_Up := by kernel_rfl
end PK

/- Package size: Within, held, Up. -/
namespace PK
open Go PAbs
set_option linter.unusedSimpArgs false
set_option linter.unusedVariables false
set_option maxRecDepth 100000
set_option maxHeartbeats 4000000

section
variable (fl : Nat) (H : AHeap)
theorem AC_Within (a b c : Int) : AC A fl F_size_Within [.c (.int .i64 a), .c (.int .i64 b), .c (.int .i64 c)] H (fun v H' => v = .c (.bool (decide (b ≤ a ∧ a ≤ c))) ∧ H = H') := by
  refine AC_enter t_size_Within ?_; simp only [c_size_Within, enterA, List.replicate, List.length_cons, List.length_nil, Nat.reduceAdd, Nat.reduceSub, List.cons_append, List.nil_append]
  by_cases h1 : b ≤ a
  · by_cases h2 : a ≤ c
    · rw [decide_eq_true (show b ≤ a ∧ a ≤ c from ⟨h1, h2⟩)]
      (repeat (first | refine GOS ?_ | (with_reducible (first | apply AO_any | apply AHd_any | apply AP_go | apply AHP_go); focus (simp only [Sm, wantedA, execA, stepA, List.getElem?_cons_zero, List.getElem?_cons_succ, if_true, if_false, binA, binInt, unA, eqA, Option.map, eq_self, reduceCtorEq, ite_true, ite_false, cellsAV, fitsAll, CK.fits, fillA, AV.cells, writeN, sliceCells, appendA, lenA, i64, loA, hiA, Nat.reduceAdd, Nat.reduceMul, Nat.reduceDiv, Nat.reduceSub, Nat.reduceLeDiff, Nat.reduceLT, Int.reduceLE, Int.reduceLT, foldA, maxA, minA, Int.reduceBEq, Int.reduceBNe, Int.reduceGT, Int.reduceGE, Int.reduceEq, Int.reduceNe, Int.reduceToNat, AOp.stops, ↓want_eq, ↓exec_lenX, ↓exec_storeX, ↓exec_storeN, storeN_one, ↓exec_bsX, ↓exec_sliceX, ↓exec_copyX, ↓exec_appNil, ↓exec_carryX, Nat.sub_zero, rep_len, decide_eq_true (show a ≥ b from h1), decide_eq_true h2]; with_reducible first | exact EqP.at_ | exact EqP.cont | exact EqP.hcont | exact EqP.gate | exact EqP.hgate))))
      exact AW_ret ⟨_, rfl, rfl, rfl⟩
    · rw [decide_eq_false (show ¬ (b ≤ a ∧ a ≤ c) from fun h => h2 h.2)]
      (repeat (first | refine GOS ?_ | (with_reducible (first | apply AO_any | apply AHd_any | apply AP_go | apply AHP_go); focus (simp only [Sm, wantedA, execA, stepA, List.getElem?_cons_zero, List.getElem?_cons_succ, if_true, if_false, binA, binInt, unA, eqA, Option.map, eq_self, reduceCtorEq, ite_true, ite_false, cellsAV, fitsAll, CK.fits, fillA, AV.cells, writeN, sliceCells, appendA, lenA, i64, loA, hiA, Nat.reduceAdd, Nat.reduceMul, Nat.reduceDiv, Nat.reduceSub, Nat.reduceLeDiff, Nat.reduceLT, Int.reduceLE, Int.reduceLT, foldA, maxA, minA, Int.reduceBEq, Int.reduceBNe, Int.reduceGT, Int.reduceGE, Int.reduceEq, Int.reduceNe, Int.reduceToNat, AOp.stops, ↓want_eq, ↓exec_lenX, ↓exec_storeX, ↓exec_storeN, storeN_one, ↓exec_bsX, ↓exec_sliceX, ↓exec_copyX, ↓exec_appNil, ↓exec_carryX, Nat.sub_zero, rep_len, decide_eq_true (show a ≥ b from h1), decide_eq_false h2]; with_reducible first | exact EqP.at_ | exact EqP.cont | exact EqP.hcont | exact EqP.gate | exact EqP.hgate))))
      exact AW_ret ⟨_, rfl, rfl, rfl⟩
  · rw [decide_eq_false (show ¬ (b ≤ a ∧ a ≤ c) from fun h => h1 h.1)]
    (repeat (first | refine GOS ?_ | (with_reducible (first | apply AO_any | apply AHd_any | apply AP_go | apply AHP_go); focus (simp only [Sm, wantedA, execA, stepA, List.getElem?_cons_zero, List.getElem?_cons_succ, if_true, if_false, binA, binInt, unA, eqA, Option.map, eq_self, reduceCtorEq, ite_true, ite_false, cellsAV, fitsAll, CK.fits, fillA, AV.cells, writeN, sliceCells, appendA, lenA, i64, loA, hiA, Nat.reduceAdd, Nat.reduceMul, Nat.reduceDiv, Nat.reduceSub, Nat.reduceLeDiff, Nat.reduceLT, Int.reduceLE, Int.reduceLT, foldA, maxA, minA, Int.reduceBEq, Int.reduceBNe, Int.reduceGT, Int.reduceGE, Int.reduceEq, Int.reduceNe, Int.reduceToNat, AOp.stops, ↓want_eq, ↓exec_lenX, ↓exec_storeX, ↓exec_storeN, storeN_one, ↓exec_bsX, ↓exec_sliceX, ↓exec_copyX, ↓exec_appNil, ↓exec_carryX, Nat.sub_zero, rep_len, decide_eq_false (show ¬ a ≥ b from h1)]; with_reducible first | exact EqP.at_ | exact EqP.cont | exact EqP.hcont | exact EqP.gate | exact EqP.hgate))))
    exact AW_ret ⟨_, rfl, rfl, rfl⟩
theorem AC_held (a : Int) : AC A fl F_size_held [.c (.int .i64 a)] H (fun v H' => v = .c (.bool (decide (0 ≤ a ∧ a ≤ 4611686018427387904))) ∧ H = H') := by
  refine AC_enter t_size_held ?_; simp only [c_size_held, enterA, List.replicate, List.length_cons, List.length_nil, Nat.reduceAdd, Nat.reduceSub, List.cons_append, List.nil_append]
  by_cases h1 : 0 ≤ a
  · by_cases h2 : a ≤ 4611686018427387904
    · rw [decide_eq_true (show 0 ≤ a ∧ a ≤ 4611686018427387904 from ⟨h1, h2⟩)]
      (repeat (first | refine GOS ?_ | (with_reducible (first | apply AO_any | apply AHd_any | apply AP_go | apply AHP_go); focus (simp only [Sm, wantedA, execA, stepA, List.getElem?_cons_zero, List.getElem?_cons_succ, if_true, if_false, binA, binInt, unA, eqA, Option.map, eq_self, reduceCtorEq, ite_true, ite_false, cellsAV, fitsAll, CK.fits, fillA, AV.cells, writeN, sliceCells, appendA, lenA, i64, loA, hiA, Nat.reduceAdd, Nat.reduceMul, Nat.reduceDiv, Nat.reduceSub, Nat.reduceLeDiff, Nat.reduceLT, Int.reduceLE, Int.reduceLT, foldA, maxA, minA, Int.reduceBEq, Int.reduceBNe, Int.reduceGT, Int.reduceGE, Int.reduceEq, Int.reduceNe, Int.reduceToNat, AOp.stops, ↓want_eq, ↓exec_lenX, ↓exec_storeX, ↓exec_storeN, storeN_one, ↓exec_bsX, ↓exec_sliceX, ↓exec_copyX, ↓exec_appNil, ↓exec_carryX, Nat.sub_zero, rep_len, decide_eq_true (show a ≥ 0 from h1), decide_eq_true h2]; with_reducible first | exact EqP.at_ | exact EqP.cont | exact EqP.hcont | exact EqP.gate | exact EqP.hgate))))
      exact AW_ret ⟨_, rfl, rfl, rfl⟩
    · rw [decide_eq_false (show ¬ (0 ≤ a ∧ a ≤ 4611686018427387904) from fun h => h2 h.2)]
      (repeat (first | refine GOS ?_ | (with_reducible (first | apply AO_any | apply AHd_any | apply AP_go | apply AHP_go); focus (simp only [Sm, wantedA, execA, stepA, List.getElem?_cons_zero, List.getElem?_cons_succ, if_true, if_false, binA, binInt, unA, eqA, Option.map, eq_self, reduceCtorEq, ite_true, ite_false, cellsAV, fitsAll, CK.fits, fillA, AV.cells, writeN, sliceCells, appendA, lenA, i64, loA, hiA, Nat.reduceAdd, Nat.reduceMul, Nat.reduceDiv, Nat.reduceSub, Nat.reduceLeDiff, Nat.reduceLT, Int.reduceLE, Int.reduceLT, foldA, maxA, minA, Int.reduceBEq, Int.reduceBNe, Int.reduceGT, Int.reduceGE, Int.reduceEq, Int.reduceNe, Int.reduceToNat, AOp.stops, ↓want_eq, ↓exec_lenX, ↓exec_storeX, ↓exec_storeN, storeN_one, ↓exec_bsX, ↓exec_sliceX, ↓exec_copyX, ↓exec_appNil, ↓exec_carryX, Nat.sub_zero, rep_len, decide_eq_true (show a ≥ 0 from h1), decide_eq_false h2]; with_reducible first | exact EqP.at_ | exact EqP.cont | exact EqP.hcont | exact EqP.gate | exact EqP.hgate))))
      exact AW_ret ⟨_, rfl, rfl, rfl⟩
  · rw [decide_eq_false (show ¬ (0 ≤ a ∧ a ≤ 4611686018427387904) from fun h => h1 h.1)]
    (repeat (first | refine GOS ?_ | (with_reducible (first | apply AO_any | apply AHd_any | apply AP_go | apply AHP_go); focus (simp only [Sm, wantedA, execA, stepA, List.getElem?_cons_zero, List.getElem?_cons_succ, if_true, if_false, binA, binInt, unA, eqA, Option.map, eq_self, reduceCtorEq, ite_true, ite_false, cellsAV, fitsAll, CK.fits, fillA, AV.cells, writeN, sliceCells, appendA, lenA, i64, loA, hiA, Nat.reduceAdd, Nat.reduceMul, Nat.reduceDiv, Nat.reduceSub, Nat.reduceLeDiff, Nat.reduceLT, Int.reduceLE, Int.reduceLT, foldA, maxA, minA, Int.reduceBEq, Int.reduceBNe, Int.reduceGT, Int.reduceGE, Int.reduceEq, Int.reduceNe, Int.reduceToNat, AOp.stops, ↓want_eq, ↓exec_lenX, ↓exec_storeX, ↓exec_storeN, storeN_one, ↓exec_bsX, ↓exec_sliceX, ↓exec_copyX, ↓exec_appNil, ↓exec_carryX, Nat.sub_zero, rep_len, decide_eq_false (show ¬ a ≥ 0 from h1)]; with_reducible first | exact EqP.at_ | exact EqP.cont | exact EqP.hcont | exact EqP.gate | exact EqP.hgate))))
    exact AW_ret ⟨_, rfl, rfl, rfl⟩
def upO (n u : Nat) : Nat := (n + u - 1) / u
theorem AC_Up_ (n u : Nat) (hn : n ≤ 4611686018427387904) (hu : 1 ≤ u) (hu2 : u ≤ 1000000) : AC A fl F_size_Up [.c (.int .i64 (n : Int)), .c (.int .i64 (u : Int))] H (fun v H' => v = .tup [.c (.int .i64 ((upO n u : Nat) : Int)), .c (.int .i64 0)] ∧ H = H') := by
  have h0 : ¬ ((u : Nat) : Int) = 0 := by omega
  have hd : n / u ≤ n := Nat.div_le_self _ _
  have e1' : ∀ q : Nat, q ≤ n → IntKind.i64.wrap (q : Int) = (q : Int) := fun q h => i64_of (by omega) (by omega)
  have e1 := e1' _ hd
  have hm := Nat.div_add_mod n u
  have hlt := Nat.mod_lt n (show u > 0 by omega)
  refine AC_enter t_size_Up ?_; simp only [c_size_Up, enterA, List.replicate, List.length_cons, List.length_nil, Nat.reduceAdd, Nat.reduceSub, List.cons_append, List.nil_append]
  refine GO ?_
  refine AO_call rfl (AC_held fl H (n : Int)) ?_
  rintro _ _ ⟨rfl, rfl⟩
  rw [decide_eq_true (show 0 ≤ (n : Int) ∧ (n : Int) ≤ 4611686018427387904 from ⟨by omega, by omega⟩)]
  by_cases hz : n % u = 0
  · have hr : upO n u = n / u := by
      simp only [upO]
      rw [show n + u - 1 = n / u * u + (u - 1) by rw [Nat.mul_comm]; omega, Nat.add_comm, Nat.add_mul_div_right _ _ (by omega), Nat.div_eq_of_lt (by omega), Nat.zero_add]
    rw [hr]
    (repeat (first | refine GOS ?_ | (with_reducible (first | apply AO_any | apply AHd_any | apply AP_go | apply AHP_go); focus (simp only [Sm, wantedA, execA, stepA, List.getElem?_cons_zero, List.getElem?_cons_succ, if_true, if_false, binA, binInt, unA, eqA, Option.map, eq_self, reduceCtorEq, ite_true, ite_false, cellsAV, fitsAll, CK.fits, fillA, AV.cells, writeN, sliceCells, appendA, lenA, i64, loA, hiA, Nat.reduceAdd, Nat.reduceMul, Nat.reduceDiv, Nat.reduceSub, Nat.reduceLeDiff, Nat.reduceLT, Int.reduceLE, Int.reduceLT, foldA, maxA, minA, Int.reduceBEq, Int.reduceBNe, Int.reduceGT, Int.reduceGE, Int.reduceEq, Int.reduceNe, Int.reduceToNat, AOp.stops, ↓want_eq, ↓exec_lenX, ↓exec_storeX, ↓exec_storeN, storeN_one, ↓exec_bsX, ↓exec_sliceX, ↓exec_copyX, ↓exec_appNil, ↓exec_carryX, Nat.sub_zero, rep_len, decide_eq_false (show ¬ ((u : Nat) : Int) < 1 by omega), h0, tdiv_nat, tmod_nat, e1, hz]; with_reducible first | exact EqP.at_ | exact EqP.cont | exact EqP.hcont | exact EqP.gate | exact EqP.hgate))))
    exact AW_ret ⟨_, rfl, rfl, rfl⟩
  · have hr : upO n u = n / u + 1 := by
      simp only [upO]
      rw [show n + u - 1 = (n / u + 1) * u + (n % u - 1) by rw [Nat.add_mul, Nat.mul_comm]; omega, Nat.add_comm, Nat.add_mul_div_right _ _ (by omega), Nat.div_eq_of_lt (by omega), Nat.zero_add]
    rw [hr]
    have e2 : IntKind.i64.wrap (((n / u : Nat) : Int) + 1) = ((n / u + 1 : Nat) : Int) := i64_succ (Nat.lt_of_le_of_lt hd (by omega))
    (repeat (first | refine GOS ?_ | (with_reducible (first | apply AO_any | apply AHd_any | apply AP_go | apply AHP_go); focus (simp only [Sm, wantedA, execA, stepA, List.getElem?_cons_zero, List.getElem?_cons_succ, if_true, if_false, binA, binInt, unA, eqA, Option.map, eq_self, reduceCtorEq, ite_true, ite_false, cellsAV, fitsAll, CK.fits, fillA, AV.cells, writeN, sliceCells, appendA, lenA, i64, loA, hiA, Nat.reduceAdd, Nat.reduceMul, Nat.reduceDiv, Nat.reduceSub, Nat.reduceLeDiff, Nat.reduceLT, Int.reduceLE, Int.reduceLT, foldA, maxA, minA, Int.reduceBEq, Int.reduceBNe, Int.reduceGT, Int.reduceGE, Int.reduceEq, Int.reduceNe, Int.reduceToNat, AOp.stops, ↓want_eq, ↓exec_lenX, ↓exec_storeX, ↓exec_storeN, storeN_one, ↓exec_bsX, ↓exec_sliceX, ↓exec_copyX, ↓exec_appNil, ↓exec_carryX, Nat.sub_zero, rep_len, decide_eq_false (show ¬ ((u : Nat) : Int) < 1 by omega), h0, tdiv_nat, tmod_nat, e1, e2, decide_eq_true (show ((n % u : Nat) : Int) > 0 by omega)]; with_reducible first | exact EqP.at_ | exact EqP.cont | exact EqP.hcont | exact EqP.gate | exact EqP.hgate))))
    exact AW_ret ⟨_, rfl, rfl, rfl⟩
end
end PK

/- Package romix as code of the abstract machine. -/
namespace PK
open Go PAbs

noncomputable def c_romix_Store_Mix : AFn := AFn.mk 143 [.tmp 8]
  (.seq (.region
      [⟨some 8, .mv (.k (.c (.int .i64 0))), none⟩])
  (.seq (.seq (.region
        [⟨some 21, .mv (.t 0), none⟩,
          ⟨some 22, .mv (.t 1), none⟩,
          ⟨some 23, .call F_romix_Store_has [.t 21, .t 22], none⟩,
          ⟨some 9, .mv (.t 23), none⟩])
    (.seq (.region
        [⟨some 24, .mv (.t 9), none⟩,
          ⟨some 25, .bin .neq (.t 24) (.k (.c (.int .i64 0))), none⟩])
    (.cond (.t 25)
      (.seq (.region
          [⟨some 26, .mv (.t 9), none⟩,
            ⟨some 8, .mv (.t 26), none⟩])
      (.ret))
      (.skip))))
  (.seq (.region
      [⟨some 28, .mv (.t 2), none⟩,
        ⟨some 29, .call F_size_Power [.t 28], none⟩,
        ⟨some 27, .mv (.t 29), none⟩,
        ⟨some 30, .extract (.t 27) 0, none⟩,
        ⟨some 31, .extract (.t 27) 1, none⟩,
        ⟨some 10, .mv (.t 30), none⟩,
        ⟨some 11, .mv (.t 31), none⟩])
  (.seq (.block 0
      (.seq (.region
          [⟨some 33, .mv (.t 11), none⟩,
            ⟨some 34, .bin .neq (.t 33) (.k (.c (.int .i64 0))), none⟩,
            ⟨some 32, .mv (.t 34), none⟩])
      (.cond (.t 32)
        (.seq (.region
            [⟨some 8, .mv (.k (.c (.int .i64 2))), none⟩])
        (.ret))
        (.seq (.region
            [⟨some 36, .mv (.t 3), none⟩,
              ⟨some 37, .bin .lss (.t 36) (.k (.c (.int .i64 0))), none⟩,
              ⟨some 38, .mv (.t 37), none⟩,
              ⟨some 39, .mv (.t 3), some (38, false)⟩,
              ⟨some 40, .mv (.t 0), some (38, false)⟩,
              ⟨some 41, .nilCheck (.t 40), some (38, false)⟩,
              ⟨some 42, .fieldAddr 2 (.t 41), some (38, false)⟩,
              ⟨some 43, .load1 (.t 42), some (38, false)⟩,
              ⟨some 44, .bin .gtr (.t 39) (.t 43), some (38, false)⟩,
              ⟨some 45, .pick (.t 38) (.k (.c (.bool true))) (.t 44), none⟩,
              ⟨some 46, .mv (.t 45), none⟩,
              ⟨some 47, .mv (.t 10), some (46, false)⟩,
              ⟨some 48, .mv (.t 0), some (46, false)⟩,
              ⟨some 49, .nilCheck (.t 48), some (46, false)⟩,
              ⟨some 50, .fieldAddr 2 (.t 49), some (46, false)⟩,
              ⟨some 51, .load1 (.t 50), some (46, false)⟩,
              ⟨some 52, .mv (.t 3), some (46, false)⟩,
              ⟨some 53, .bin .sub (.t 51) (.t 52), some (46, false)⟩,
              ⟨some 54, .bin .gtr (.t 47) (.t 53), some (46, false)⟩,
              ⟨some 55, .pick (.t 46) (.k (.c (.bool true))) (.t 54), none⟩,
              ⟨some 35, .mv (.t 55), none⟩])
        (.cond (.t 35)
          (.seq (.region
              [⟨some 8, .mv (.k (.c (.int .i64 11))), none⟩])
          (.ret))
          (.seq (.region
              [⟨some 57, .mv (.t 1), none⟩,
                ⟨some 58, .mv (.t 3), none⟩,
                ⟨some 59, .bin .geq (.t 57) (.t 58), none⟩,
                ⟨some 60, .mv (.t 59), none⟩,
                ⟨some 61, .mv (.t 1), some (60, true)⟩,
                ⟨some 62, .mv (.t 3), some (60, true)⟩,
                ⟨some 63, .bin .sub (.t 61) (.t 62), some (60, true)⟩,
                ⟨some 64, .mv (.t 10), some (60, true)⟩,
                ⟨some 65, .bin .lss (.t 63) (.t 64), some (60, true)⟩,
                ⟨some 66, .pick (.t 60) (.t 65) (.k (.c (.bool false))), none⟩,
                ⟨some 56, .mv (.t 66), none⟩])
          (.cond (.t 56)
            (.seq (.region
                [⟨some 8, .mv (.k (.c (.int .i64 1))), none⟩])
            (.ret))
            (.skip))))))))
  (.seq (.region
      [⟨some 67, .mv (.t 0), none⟩,
        ⟨some 68, .nilCheck (.t 67), none⟩,
        ⟨some 69, .fieldAddr 1 (.t 68), none⟩,
        ⟨some 70, .load1 (.t 69), none⟩,
        ⟨some 71, .bin .quo (.t 70) (.k (.c (.int .i64 32))), none⟩,
        ⟨some 12, .mv (.t 71), none⟩])
  (.seq (.region
      [⟨some 73, .mv (.t 0), none⟩,
        ⟨some 74, .mv (.t 1), none⟩,
        ⟨some 75, .call F_romix_Store_Row [.t 73, .t 74], none⟩,
        ⟨some 72, .mv (.t 75), none⟩,
        ⟨some 76, .extract (.t 72) 0, none⟩,
        ⟨some 77, .extract (.t 72) 1, none⟩,
        ⟨some 13, .mv (.t 76), none⟩,
        ⟨some 14, .mv (.t 77), none⟩])
  (.seq (.seq (.region
        [⟨some 78, .mv (.t 10), none⟩,
          ⟨some 79, .mv (.k (.c (.int .i64 0))), none⟩])
    (.block 1
      (.loop
        (.seq (.region
            [⟨some 80, .bin .lss (.t 79) (.t 78), none⟩])
        (.seq (.cond (.t 80)
            (.skip)
            (.exit 1))
        (.seq (.block 2
            (.seq (.region
                [⟨some 81, .mv (.t 79), none⟩,
                  ⟨some 15, .mv (.t 81), none⟩])
            (.seq (.region
                [⟨some 82, .mv (.t 0), none⟩,
                  ⟨some 83, .mv (.t 3), none⟩,
                  ⟨some 84, .mv (.t 15), none⟩,
                  ⟨some 85, .bin .add (.t 83) (.t 84), none⟩,
                  ⟨some 86, .mv (.t 13), none⟩,
                  ⟨some 87, .call F_romix_Store_Put [.t 82, .t 85, .t 86], none⟩])
            (.region
              [⟨some 89, .mv (.t 12), none⟩,
                ⟨some 90, .mv (.t 13), none⟩,
                ⟨some 91, .call F_shuffle_Mix [.t 89, .t 90], none⟩,
                ⟨some 88, .mv (.t 91), none⟩,
                ⟨some 92, .extract (.t 88) 0, none⟩,
                ⟨some 93, .extract (.t 88) 1, none⟩,
                ⟨some 13, .mv (.t 92), none⟩]))))
        (.region
          [⟨some 94, .bin .add (.t 79) (.k (.c (.int .i64 1))), none⟩,
            ⟨some 79, .mv (.t 94), none⟩])))))))
  (.seq (.seq (.region
        [⟨some 95, .mv (.t 10), none⟩,
          ⟨some 96, .mv (.k (.c (.int .i64 0))), none⟩])
    (.block 3
      (.loop
        (.seq (.region
            [⟨some 97, .bin .lss (.t 96) (.t 95), none⟩])
        (.seq (.cond (.t 97)
            (.skip)
            (.exit 3))
        (.seq (.block 4
            (.seq (.region
                [⟨some 99, .mv (.t 12), none⟩,
                  ⟨some 100, .mv (.t 13), none⟩,
                  ⟨some 101, .call F_shuffle_Integer [.t 99, .t 100], none⟩,
                  ⟨some 98, .mv (.t 101), none⟩,
                  ⟨some 102, .extract (.t 98) 0, none⟩,
                  ⟨some 103, .extract (.t 98) 1, none⟩,
                  ⟨some 16, .mv (.t 102), none⟩,
                  ⟨some 17, .mv (.t 103), none⟩])
            (.seq (.region
                [⟨some 105, .mv (.t 0), none⟩,
                  ⟨some 106, .mv (.t 3), none⟩,
                  ⟨some 107, .mv (.t 16), none⟩,
                  ⟨some 108, .mv (.t 10), none⟩,
                  ⟨some 109, .convInt .u64 (.t 108), none⟩,
                  ⟨some 110, .bin .rem (.t 107) (.t 109), none⟩,
                  ⟨some 111, .convInt .i64 (.t 110), none⟩,
                  ⟨some 112, .bin .add (.t 106) (.t 111), none⟩,
                  ⟨some 113, .call F_romix_Store_Row [.t 105, .t 112], none⟩,
                  ⟨some 104, .mv (.t 113), none⟩,
                  ⟨some 114, .extract (.t 104) 0, none⟩,
                  ⟨some 115, .extract (.t 104) 1, none⟩,
                  ⟨some 18, .mv (.t 114), none⟩,
                  ⟨some 19, .mv (.t 115), none⟩])
            (.seq (.seq (.region
                  [⟨some 116, .mv (.t 13), none⟩,
                    ⟨some 117, .len false (.t 116), none⟩,
                    ⟨some 118, .mv (.k (.c (.int .i64 0))), none⟩])
              (.block 5
                (.loop
                  (.seq (.region
                      [⟨some 119, .bin .lss (.t 118) (.t 117), none⟩])
                  (.seq (.cond (.t 119)
                      (.skip)
                      (.exit 5))
                  (.seq (.block 6
                      (.seq (.region
                          [⟨some 120, .mv (.t 118), none⟩,
                            ⟨some 20, .mv (.t 120), none⟩])
                      (.draw
                        [⟨some 121, .mv (.t 13), none⟩,
                          ⟨some 122, .mv (.t 20), none⟩,
                          ⟨some 123, .idxSlc 1 (.t 121) (.t 122), none⟩,
                          ⟨some 124, .load1 (.t 123), none⟩,
                          ⟨some 125, .mv (.t 18), none⟩,
                          ⟨some 126, .mv (.t 20), none⟩,
                          ⟨some 127, .idxSlc 1 (.t 125) (.t 126), none⟩,
                          ⟨some 128, .load1 (.t 127), none⟩]
                        [⟨some 129, .bin .xor (.t 124) (.t 128), none⟩,
                          ⟨some 130, .idxSlc 1 (.t 121) (.t 122), none⟩,
                          ⟨none, .store 1 (.t 130) (.t 129), none⟩])))
                  (.region
                    [⟨some 131, .bin .add (.t 118) (.k (.c (.int .i64 1))), none⟩,
                      ⟨some 118, .mv (.t 131), none⟩])))))))
            (.region
              [⟨some 133, .mv (.t 12), none⟩,
                ⟨some 134, .mv (.t 13), none⟩,
                ⟨some 135, .call F_shuffle_Mix [.t 133, .t 134], none⟩,
                ⟨some 132, .mv (.t 135), none⟩,
                ⟨some 136, .extract (.t 132) 0, none⟩,
                ⟨some 137, .extract (.t 132) 1, none⟩,
                ⟨some 13, .mv (.t 136), none⟩])))))
        (.region
          [⟨some 138, .bin .add (.t 96) (.k (.c (.int .i64 1))), none⟩,
            ⟨some 96, .mv (.t 138), none⟩])))))))
  (.seq (.region
      [⟨some 139, .mv (.t 0), none⟩,
        ⟨some 140, .mv (.t 1), none⟩,
        ⟨some 141, .mv (.t 13), none⟩,
        ⟨some 142, .call F_romix_Store_Put [.t 139, .t 140, .t 141], none⟩,
        ⟨some 8, .mv (.t 142), none⟩])
  (.ret))))))))))
theorem t_romix_Store_Mix : A F_romix_Store_Mix = some c_romix_Store_Mix := by kernel_rfl

noncomputable def c_romix_Store_Row : AFn := AFn.mk 49 [.tmp 4, .tmp 5]
  (.seq (.region
      [⟨some 4, .mv (.k (.c (.snil))), none⟩,
        ⟨some 5, .mv (.k (.c (.int .i64 0))), none⟩])
  (.seq (.seq (.region
        [⟨some 10, .mv (.t 0), none⟩,
          ⟨some 11, .mv (.t 1), none⟩,
          ⟨some 12, .call F_romix_Store_has [.t 10, .t 11], none⟩,
          ⟨some 6, .mv (.t 12), none⟩])
    (.seq (.region
        [⟨some 13, .mv (.t 6), none⟩,
          ⟨some 14, .bin .neq (.t 13) (.k (.c (.int .i64 0))), none⟩])
    (.cond (.t 14)
      (.seq (.region
          [⟨some 15, .mv (.t 6), none⟩,
            ⟨some 4, .mv (.k (.c (.snil))), none⟩,
            ⟨some 5, .mv (.t 15), none⟩])
      (.ret))
      (.skip))))
  (.seq (.region
      [⟨some 16, .mv (.t 0), none⟩,
        ⟨some 17, .nilCheck (.t 16), none⟩,
        ⟨some 18, .fieldAddr 1 (.t 17), none⟩,
        ⟨some 19, .load1 (.t 18), none⟩,
        ⟨some 20, .makeSlice ([.int .u32 0]) 4 (.t 19) (.t 19), none⟩,
        ⟨some 7, .mv (.t 20), none⟩])
  (.seq (.seq (.region
        [⟨some 21, .mv (.t 7), none⟩,
          ⟨some 22, .len false (.t 21), none⟩,
          ⟨some 23, .mv (.k (.c (.int .i64 0))), none⟩])
    (.block 0
      (.loop
        (.seq (.region
            [⟨some 24, .bin .lss (.t 23) (.t 22), none⟩])
        (.seq (.cond (.t 24)
            (.skip)
            (.exit 0))
        (.seq (.block 1
            (.seq (.region
                [⟨some 25, .mv (.t 23), none⟩,
                  ⟨some 8, .mv (.t 25), none⟩])
            (.seq (.region
                [⟨some 26, .mv (.t 1), none⟩,
                  ⟨some 27, .mv (.t 0), none⟩,
                  ⟨some 28, .nilCheck (.t 27), none⟩,
                  ⟨some 29, .fieldAddr 1 (.t 28), none⟩,
                  ⟨some 30, .load1 (.t 29), none⟩,
                  ⟨some 31, .bin .mul (.t 26) (.t 30), none⟩,
                  ⟨some 32, .mv (.t 8), none⟩,
                  ⟨some 33, .bin .add (.t 31) (.t 32), none⟩,
                  ⟨some 9, .mv (.t 33), none⟩])
            (.region
              [⟨some 34, .mv (.t 7), none⟩,
                ⟨some 35, .mv (.t 8), none⟩,
                ⟨some 36, .mv (.t 0), none⟩,
                ⟨some 37, .nilCheck (.t 36), none⟩,
                ⟨some 38, .fieldAddr 0 (.t 37), none⟩,
                ⟨some 39, .load1 (.t 38), none⟩,
                ⟨some 40, .mv (.t 9), none⟩,
                ⟨some 41, .bin .quo (.t 40) (.k (.c (.int .i64 256))), none⟩,
                ⟨some 42, .call F_arena_Piece_At [.t 39, .t 41], none⟩,
                ⟨some 43, .mv (.t 9), none⟩,
                ⟨some 44, .bin .rem (.t 43) (.k (.c (.int .i64 256))), none⟩,
                ⟨some 45, .call F_block_Half [.t 42, .t 44], none⟩,
                ⟨some 46, .idxSlc 1 (.t 34) (.t 35), none⟩,
                ⟨none, .store 1 (.t 46) (.t 45), none⟩]))))
        (.region
          [⟨some 47, .bin .add (.t 23) (.k (.c (.int .i64 1))), none⟩,
            ⟨some 23, .mv (.t 47), none⟩])))))))
  (.seq (.region
      [⟨some 48, .mv (.t 7), none⟩,
        ⟨some 4, .mv (.t 48), none⟩,
        ⟨some 5, .mv (.k (.c (.int .i64 0))), none⟩])
  (.ret))))))
theorem t_romix_Store_Row : A F_romix_Store_Row = some c_romix_Store_Row := by kernel_rfl

noncomputable def c_romix_New : AFn := AFn.mk 24 [.tmp 4, .tmp 5]
  (.seq (.region
      [⟨some 4, .mv (.k (.c (.pnil))), none⟩,
        ⟨some 5, .mv (.k (.c (.int .i64 0))), none⟩])
  (.seq (.block 0
      (.seq (.region
          [⟨some 7, .mv (.t 0), none⟩,
            ⟨some 8, .eq false .ptr (.t 7) (.k (.c (.pnil))), none⟩,
            ⟨some 6, .mv (.t 8), none⟩])
      (.cond (.t 6)
        (.seq (.region
            [⟨some 4, .mv (.k (.c (.pnil))), none⟩,
              ⟨some 5, .mv (.k (.c (.int .i64 11))), none⟩])
        (.ret))
        (.seq (.region
            [⟨some 10, .mv (.t 1), none⟩,
              ⟨some 11, .call F_size_Within [.t 10, .k (.c (.int .i64 1)), .k (.c (.int .i64 512))], none⟩,
              ⟨some 12, .un .not (.t 11), none⟩,
              ⟨some 9, .mv (.t 12), none⟩])
        (.cond (.t 9)
          (.seq (.region
              [⟨some 4, .mv (.k (.c (.pnil))), none⟩,
                ⟨some 5, .mv (.k (.c (.int .i64 2))), none⟩])
          (.ret))
          (.skip))))))
  (.seq (.region
      [⟨some 13, .mv (.t 0), none⟩,
        ⟨some 14, .mv (.t 1), none⟩,
        ⟨some 15, .bin .mul (.k (.c (.int .i64 32))) (.t 14), none⟩,
        ⟨some 16, .mv (.t 0), none⟩,
        ⟨some 17, .call F_arena_Piece_Len [.t 16], none⟩,
        ⟨some 18, .bin .mul (.t 17) (.k (.c (.int .i64 256))), none⟩,
        ⟨some 19, .mv (.t 1), none⟩,
        ⟨some 20, .bin .mul (.k (.c (.int .i64 32))) (.t 19), none⟩,
        ⟨some 21, .bin .quo (.t 18) (.t 20), none⟩,
        ⟨some 22, .build ([.pnil, .int .i64 0, .int .i64 0]) [(0, 1, .t 13), (1, 1, .t 15), (2, 1, .t 21)], none⟩,
        ⟨some 23, .box (.t 22), none⟩,
        ⟨some 4, .mv (.t 23), none⟩,
        ⟨some 5, .mv (.k (.c (.int .i64 0))), none⟩])
  (.ret))))
theorem t_romix_New : A F_romix_New = some c_romix_New := by kernel_rfl

noncomputable def c_romix_Store_Put : AFn := AFn.mk 51 [.tmp 6]
  (.seq (.region
      [⟨some 6, .mv (.k (.c (.int .i64 0))), none⟩])
  (.seq (.seq (.region
        [⟨some 11, .mv (.t 0), none⟩,
          ⟨some 12, .mv (.t 1), none⟩,
          ⟨some 13, .call F_romix_Store_has [.t 11, .t 12], none⟩,
          ⟨some 7, .mv (.t 13), none⟩])
    (.seq (.region
        [⟨some 14, .mv (.t 7), none⟩,
          ⟨some 15, .bin .neq (.t 14) (.k (.c (.int .i64 0))), none⟩])
    (.cond (.t 15)
      (.seq (.region
          [⟨some 16, .mv (.t 7), none⟩,
            ⟨some 6, .mv (.t 16), none⟩])
      (.ret))
      (.skip))))
  (.seq (.seq (.region
        [⟨some 17, .mv (.t 2), none⟩,
          ⟨some 18, .len false (.t 17), none⟩,
          ⟨some 19, .mv (.t 0), none⟩,
          ⟨some 20, .nilCheck (.t 19), none⟩,
          ⟨some 21, .fieldAddr 1 (.t 20), none⟩,
          ⟨some 22, .load1 (.t 21), none⟩,
          ⟨some 23, .bin .neq (.t 18) (.t 22), none⟩])
    (.cond (.t 23)
      (.seq (.region
          [⟨some 6, .mv (.k (.c (.int .i64 9))), none⟩])
      (.ret))
      (.skip)))
  (.seq (.seq (.region
        [⟨some 24, .mv (.t 2), none⟩,
          ⟨some 25, .len false (.t 24), none⟩,
          ⟨some 26, .mv (.k (.c (.int .i64 0))), none⟩])
    (.block 0
      (.loop
        (.seq (.region
            [⟨some 27, .bin .lss (.t 26) (.t 25), none⟩])
        (.seq (.cond (.t 27)
            (.skip)
            (.exit 0))
        (.seq (.block 1
            (.seq (.region
                [⟨some 28, .mv (.t 26), none⟩,
                  ⟨some 29, .idxSlc 1 (.t 24) (.t 26), none⟩,
                  ⟨some 30, .load1 (.t 29), none⟩,
                  ⟨some 8, .mv (.t 28), none⟩,
                  ⟨some 9, .mv (.t 30), none⟩])
            (.seq (.region
                [⟨some 31, .mv (.t 1), none⟩,
                  ⟨some 32, .mv (.t 0), none⟩,
                  ⟨some 33, .nilCheck (.t 32), none⟩,
                  ⟨some 34, .fieldAddr 1 (.t 33), none⟩,
                  ⟨some 35, .load1 (.t 34), none⟩,
                  ⟨some 36, .bin .mul (.t 31) (.t 35), none⟩,
                  ⟨some 37, .mv (.t 8), none⟩,
                  ⟨some 38, .bin .add (.t 36) (.t 37), none⟩,
                  ⟨some 10, .mv (.t 38), none⟩])
            (.region
              [⟨some 39, .mv (.t 0), none⟩,
                ⟨some 40, .nilCheck (.t 39), none⟩,
                ⟨some 41, .fieldAddr 0 (.t 40), none⟩,
                ⟨some 42, .load1 (.t 41), none⟩,
                ⟨some 43, .mv (.t 10), none⟩,
                ⟨some 44, .bin .quo (.t 43) (.k (.c (.int .i64 256))), none⟩,
                ⟨some 45, .call F_arena_Piece_At [.t 42, .t 44], none⟩,
                ⟨some 46, .mv (.t 10), none⟩,
                ⟨some 47, .bin .rem (.t 46) (.k (.c (.int .i64 256))), none⟩,
                ⟨some 48, .mv (.t 9), none⟩,
                ⟨some 49, .call F_block_SetHalf [.t 45, .t 47, .t 48], none⟩]))))
        (.region
          [⟨some 50, .bin .add (.t 26) (.k (.c (.int .i64 1))), none⟩,
            ⟨some 26, .mv (.t 50), none⟩])))))))
  (.seq (.region
      [⟨some 6, .mv (.k (.c (.int .i64 0))), none⟩])
  (.ret))))))
theorem t_romix_Store_Put : A F_romix_Store_Put = some c_romix_Store_Put := by kernel_rfl

noncomputable def c_romix_Store_has : AFn := AFn.mk 27 [.tmp 4]
  (.seq (.region
      [⟨some 4, .mv (.k (.c (.int .i64 0))), none⟩])
  (.seq (.block 0
      (.seq (.region
          [⟨some 6, .mv (.t 0), none⟩,
            ⟨some 7, .eq false .ptr (.t 6) (.k (.c (.pnil))), none⟩,
            ⟨some 8, .mv (.t 7), none⟩,
            ⟨some 9, .mv (.t 1), some (8, false)⟩,
            ⟨some 10, .bin .lss (.t 9) (.k (.c (.int .i64 0))), some (8, false)⟩,
            ⟨some 11, .pick (.t 8) (.k (.c (.bool true))) (.t 10), none⟩,
            ⟨some 12, .mv (.t 11), none⟩,
            ⟨some 13, .mv (.t 1), some (12, false)⟩,
            ⟨some 14, .mv (.t 0), some (12, false)⟩,
            ⟨some 15, .nilCheck (.t 14), some (12, false)⟩,
            ⟨some 16, .fieldAddr 2 (.t 15), some (12, false)⟩,
            ⟨some 17, .load1 (.t 16), some (12, false)⟩,
            ⟨some 18, .bin .geq (.t 13) (.t 17), some (12, false)⟩,
            ⟨some 19, .pick (.t 12) (.k (.c (.bool true))) (.t 18), none⟩,
            ⟨some 5, .mv (.t 19), none⟩])
      (.cond (.t 5)
        (.seq (.region
            [⟨some 4, .mv (.k (.c (.int .i64 11))), none⟩])
        (.ret))
        (.seq (.region
            [⟨some 21, .mv (.t 0), none⟩,
              ⟨some 22, .nilCheck (.t 21), none⟩,
              ⟨some 23, .fieldAddr 0 (.t 22), none⟩,
              ⟨some 24, .load1 (.t 23), none⟩,
              ⟨some 25, .call F_arena_Piece_At [.t 24, .k (.c (.int .i64 0))], none⟩,
              ⟨some 26, .eq false .ptr (.t 25) (.k (.c (.pnil))), none⟩,
              ⟨some 20, .mv (.t 26), none⟩])
        (.cond (.t 20)
          (.seq (.region
              [⟨some 4, .mv (.k (.c (.int .i64 12))), none⟩])
          (.ret))
          (.skip))))))
  (.seq (.region
      [⟨some 4, .mv (.k (.c (.int .i64 0))), none⟩])
  (.ret))))
theorem t_romix_Store_has : A F_romix_Store_has = some c_romix_Store_has := by kernel_rfl
end PK

/- Words of 32 bits in pieces of blocks: Half, SetHalf of a block of a piece; New, has, Rows. -/
namespace PK
open Go PAbs
set_option linter.unusedSimpArgs false
set_option linter.unusedVariables false
set_option maxRecDepth 100000
set_option maxHeartbeats 4000000

def pk (ws : List Nat) (n : Nat) : List Nat := (List.range (n * 128)).map fun k => ws.getD (2 * k) 0 + 4294967296 * ws.getD (2 * k + 1) 0
theorem pk_length (ws : List Nat) (n : Nat) : (pk ws n).length = n * 128 := by simp [pk]
theorem pk_get {ws : List Nat} {n k : Nat} (h : k < n * 128) : (pk ws n).getD k 0 = ws.getD (2 * k) 0 + 4294967296 * ws.getD (2 * k + 1) 0 := by
  rw [List.getD_eq_getElem?_getD, pk, List.getElem?_map, List.getElem?_range h]; rfl
theorem pk_set {ws : List Nat} {n k j x : Nat} (hl : ws.length = n * 256) (hw : ∀ k, ws.getD k 0 < 4294967296) (hk : k < n * 128) (hj : j < 2) : (pk ws n).set k (setw ((pk ws n).getD k 0) j x) = pk (ws.set (2 * k + j) x) n := by
  apply List.ext_getElem?
  intro i
  rw [List.getElem?_set, pk_length]
  rcases Nat.lt_or_ge i (n * 128) with hi | hi
  · have e1 : ∀ ws, (pk ws n)[i]? = some (ws.getD (2 * i) 0 + 4294967296 * ws.getD (2 * i + 1) 0) := fun ws => by rw [pk, List.getElem?_map, List.getElem?_range hi]; rfl
    rw [e1, e1]
    by_cases h : k = i
    · subst h
      rw [if_pos rfl, if_pos hi, pk_get hk]
      have h1 := hw (2 * k)
      have h2 := hw (2 * k + 1)
      rw [getD_set_, getD_set_]
      rcases (show j = 0 ∨ j = 1 by omega) with rfl | rfl
      · rw [if_pos ⟨by omega, by omega⟩, if_neg (by omega)]
        simp only [setw, if_true]; congr 1; omega
      · rw [if_neg (by omega), if_pos ⟨rfl, by omega⟩]
        simp only [setw, if_neg (show ¬ (1 : Nat) = 0 by omega)]; congr 1; omega
    · rw [if_neg h, getD_set_, getD_set_, if_neg (by omega), if_neg (by omega)]
  · rw [List.getElem?_eq_none (by rw [pk_length]; omega), List.getElem?_eq_none (by rw [pk_length]; omega)]
    split
    · omega
    · rfl
theorem pk_lt {ws : List Nat} {n : Nat} (hw : ∀ k, ws.getD k 0 < 4294967296) (k : Nat) : (pk ws n).getD k 0 < 18446744073709551616 := by
  rcases Nat.lt_or_ge k (n * 128) with h | h
  · rw [pk_get h]; have := hw (2 * k); have := hw (2 * k + 1); omega
  · rw [List.getD_eq_getElem?_getD, List.getElem?_eq_none (by rw [pk_length]; omega)]; decide

theorem AC_HalfAt (fl : Nat) (H : AHeap) (q o n j : Nat) (ws : List Nat) (hb : hcells H q = some (W64 (pk ws n))) (ho : o + 128 ≤ n * 128) (hj : j < 256) (hw : ∀ k, ws.getD k 0 < 4294967296) :
    AC A fl F_block_Half [.c (.ptr q o), .c (.int .i64 (j : Int))] H (fun v H' => v = .c (.int .u32 ((ws.getD (2 * o + j) 0 : Nat) : Int)) ∧ H = H') := by
  have z2 : ¬ ((2 : Int) = 0) := by omega
  obtain ⟨p1, p2, p3, p4, p5⟩ := half_parts hj
  have gj := W64_get (xs := pk ws n) (i := o + j / 2) (by rw [pk_length]; omega)
  have hs : ¬ (((32 * (j % 2) : Nat) : Int) < 0) := by omega
  have hsh : shrA .u64 (((pk ws n).getD (o + j / 2) 0 : Nat) : Int) ((32 * (j % 2) : Nat) : Int) = _ := shr_of (show 32 * (j % 2) ≤ 64 by omega)
  have p6 : ((j / 2 : Nat) : Int) < 128 := by omega
  have eh : IntKind.u32.wrap (((pk ws n).getD (o + j / 2) 0 / 2 ^ (32 * (j % 2)) : Nat) : Int) = ((ws.getD (2 * o + j) 0 : Nat) : Int) := by
    rw [pk_get (by omega), wrap_u32]
    have h1 := hw (2 * (o + j / 2))
    have h2 := hw (2 * (o + j / 2) + 1)
    rcases (show j % 2 = 0 ∨ j % 2 = 1 by omega) with h | h
    · rw [show 2 * o + j = 2 * (o + j / 2) by omega, h]; omega
    · rw [show 2 * o + j = 2 * (o + j / 2) + 1 by omega, h]; omega
  refine AC_enter t_block_Half ?_; simp only [c_block_Half, enterA, List.replicate, List.length_cons, List.length_nil, Nat.reduceAdd, Nat.reduceSub, List.cons_append, List.nil_append]
  (repeat (first | refine GOS ?_ | (with_reducible (first | apply AO_any | apply AHd_any | apply AP_go | apply AHP_go); focus (simp only [Sm, wantedA, execA, stepA, List.getElem?_cons_zero, List.getElem?_cons_succ, if_true, if_false, binA, binInt, unA, eqA, Option.map, eq_self, reduceCtorEq, ite_true, ite_false, cellsAV, fitsAll, CK.fits, fillA, AV.cells, writeN, sliceCells, appendA, lenA, i64, loA, hiA, Nat.reduceAdd, Nat.reduceMul, Nat.reduceDiv, Nat.reduceSub, Nat.reduceLeDiff, Nat.reduceLT, Int.reduceLE, Int.reduceLT, foldA, maxA, minA, Int.reduceBEq, Int.reduceBNe, Int.reduceGT, Int.reduceGE, Int.reduceEq, Int.reduceNe, Int.reduceToNat, AOp.stops, ↓want_eq, ↓exec_lenX, ↓exec_storeX, ↓exec_storeN, storeN_one, ↓exec_bsX, ↓exec_sliceX, ↓exec_copyX, ↓exec_appNil, ↓exec_carryX, Nat.sub_zero, rep_len, hb, decide_eq_false (show ¬ ((j : Nat) : Int) < 0 by omega), decide_eq_false (show ¬ ((j : Nat) : Int) ≥ 256 by omega), z2, p1, p2, p3, p4, p6, gj, hs, hsh, eh]; with_reducible first | exact EqP.at_ | exact EqP.cont | exact EqP.hcont | exact EqP.gate | exact EqP.hgate))))
  exact AW_ret ⟨_, rfl, rfl, rfl⟩
theorem AC_SetHalfAt (fl : Nat) (H : AHeap) (q o n j x : Nat) (ws : List Nat) (hb : hown H q = some (W64 (pk ws n))) (hf : fl ≤ q) (hl : ws.length = n * 256) (ho : o + 128 ≤ n * 128) (hj : j < 256) (hw : ∀ k, ws.getD k 0 < 4294967296) (hx : x < 4294967296) :
    AC A fl F_block_SetHalf [.c (.ptr q o), .c (.int .i64 (j : Int)), .c (.int .u32 (x : Int))] H (fun v H' => v = .c (.bool true) ∧ hown H' q = some (W64 (pk (ws.set (2 * o + j) x) n)) ∧ Chg (· = q) H H' ∧ H'.length = H.length) := by
  have z2 : ¬ ((2 : Int) = 0) := by omega
  have gb := hcells_own hb
  obtain ⟨p1, p2, p3, p4, p5⟩ := half_parts hj
  have gj := W64_get (xs := pk ws n) (i := o + j / 2) (by rw [pk_length]; omega)
  have hs : ¬ (((32 * (j % 2) : Nat) : Int) < 0) := by omega
  have p6 : ((j / 2 : Nat) : Int) < 128 := by omega
  have ex : IntKind.u64.wrap (x : Int) = (x : Int) := by rw [wrap_u64]; omega
  obtain ⟨m, a1, n', a2, y, a3, a4⟩ := setw_ops (w := (pk ws n).getD (o + j / 2) 0) (j := j) (pk_lt hw _) hx
  obtain ⟨H1, s1, o1, c1, l1⟩ := storeX_ex (fl := fl) (o := o + j / 2) hb hf (by rw [W64_length, pk_length]; omega) (.int .u64 ((setw ((pk ws n).getD (o + j / 2) 0) (j % 2) x : Nat) : Int))
  have es : (W64 (pk ws n)).set (o + j / 2) (.int .u64 ((setw ((pk ws n).getD (o + j / 2) 0) (j % 2) x : Nat) : Int)) = W64 (pk (ws.set (2 * o + j) x) n) := by
    have e1 : (W64 (pk ws n)).set (o + j / 2) (.int .u64 ((setw ((pk ws n).getD (o + j / 2) 0) (j % 2) x : Nat) : Int)) = W64 ((pk ws n).set (o + j / 2) (setw ((pk ws n).getD (o + j / 2) 0) (j % 2) x)) := by simp [W64, List.map_set]
    rw [e1, pk_set hl hw (by omega) (Nat.mod_lt _ (by decide)), show 2 * (o + j / 2) + j % 2 = 2 * o + j by omega]
  rw [es] at o1
  refine AC_enter t_block_SetHalf ?_; simp only [c_block_SetHalf, enterA, List.replicate, List.length_cons, List.length_nil, Nat.reduceAdd, Nat.reduceSub, List.cons_append, List.nil_append]
  (repeat (first | refine GOS ?_ | (with_reducible (first | apply AO_any | apply AHd_any | apply AP_go | apply AHP_go); focus (simp only [Sm, wantedA, execA, stepA, List.getElem?_cons_zero, List.getElem?_cons_succ, if_true, if_false, binA, binInt, unA, eqA, Option.map, eq_self, reduceCtorEq, ite_true, ite_false, cellsAV, fitsAll, CK.fits, fillA, AV.cells, writeN, sliceCells, appendA, lenA, i64, loA, hiA, Nat.reduceAdd, Nat.reduceMul, Nat.reduceDiv, Nat.reduceSub, Nat.reduceLeDiff, Nat.reduceLT, Int.reduceLE, Int.reduceLT, foldA, maxA, minA, Int.reduceBEq, Int.reduceBNe, Int.reduceGT, Int.reduceGE, Int.reduceEq, Int.reduceNe, Int.reduceToNat, AOp.stops, ↓want_eq, ↓exec_lenX, ↓exec_storeX, ↓exec_storeN, storeN_one, ↓exec_bsX, ↓exec_sliceX, ↓exec_copyX, ↓exec_appNil, ↓exec_carryX, Nat.sub_zero, rep_len, gb, decide_eq_false (show ¬ ((j : Nat) : Int) < 0 by omega), decide_eq_false (show ¬ ((j : Nat) : Int) ≥ 256 by omega), z2, p1, p2, p3, p4, p6, gj, hs, a1, a2, ex, a3, a4, s1]; with_reducible first | exact EqP.at_ | exact EqP.cont | exact EqP.hcont | exact EqP.gate | exact EqP.hgate))))
  exact AW_ret ⟨_, rfl, rfl, o1, c1, l1⟩

structure StoreAt (H : AHeap) (s p a q n r R : Nat) (live : Bool) (ws : List Nat) : Prop where
  own : hown H s = some [.ptr p 0, .int .i64 ((32 * r : Nat) : Int), .int .i64 (R : Int)]
  pc : PieceAt H p a q n live (W64 (pk ws n))
  len : ws.length = n * 256
  lt : ∀ k, ws.getD k 0 < 4294967296
  r1 : 1 ≤ r
  r2 : r ≤ 512
  n2 : n ≤ 100000
  R2 : R = n * 256 / (32 * r)
  sp : s ≠ p
  sq : s ≠ q
  sa : s ≠ a
theorem StoreAt.chg {S : Nat → Prop} {H H' : AHeap} {s p a q n r R : Nat} {live : Bool} {ws : List Nat} (h : StoreAt H s p a q n r R live ws) (hc : Chg S H H') (h1 : ¬ S s) (h2 : ¬ S p) (h3 : ¬ S q) : StoreAt H' s p a q n r R live ws :=
  ⟨hc.hown h1 h.own, h.pc.chg hc h2 h3, h.len, h.lt, h.r1, h.r2, h.n2, h.R2, h.sp, h.sq, h.sa⟩
theorem StoreAt.kept {H H' : AHeap} {s p a q n r R : Nat} {live : Bool} {ws : List Nat} (h : StoreAt H s p a q n r R live ws) (k : Kept H.length H H') : StoreAt H' s p a q n r R live ws := h.chg (Chg.of_kept k) (fun h => h) (fun h => h) (fun h => h)
theorem StoreAt.rows {H : AHeap} {s p a q n r R : Nat} {live : Bool} {ws : List Nat} (h : StoreAt H s p a q n r R live ws) {k : Nat} (hk : k < R) : k * (32 * r) + 32 * r ≤ n * 256 := by
  have h1 : R * (32 * r) ≤ n * 256 := by rw [h.R2]; exact Nat.div_mul_le_self _ _
  have h2 : (k + 1) * (32 * r) ≤ R * (32 * r) := Nat.mul_le_mul_right _ hk
  rw [Nat.add_mul] at h2; omega
theorem StoreAt.npos {H : AHeap} {s p a q n r R : Nat} {live : Bool} {ws : List Nat} (h : StoreAt H s p a q n r R live ws) {k : Nat} (hk : k < R) : 0 < n := by
  have := h.rows hk; have := h.r1; omega

section
variable (fl : Nat) (H : AHeap)
theorem AC_roNew (p a q n r : Nat) (live : Bool) (ws : List Nat) (hp : PieceAt H p a q n live (W64 (pk ws n))) (hl : ws.length = n * 256) (hw : ∀ k, ws.getD k 0 < 4294967296) (hr1 : 1 ≤ r) (hr2 : r ≤ 512) (hn : n ≤ 100000) (ha : a < H.length) :
    AC A fl F_romix_New [.c (.ptr p 0), .c (.int .i64 (r : Int))] H (fun v H' => v = .tup [.c (.ptr H.length 0), .c (.int .i64 0)] ∧ StoreAt H' H.length p a q n r (n * 256 / (32 * r)) live ws ∧ Kept H.length H H' ∧ H'.length = H.length + 1) := by
  have hc := hcells_own hp.own
  have pl := hown_lt hp.own
  have ql := hown_lt hp.blk
  have e1 : IntKind.i64.wrap (32 * (r : Int)) = ((32 * r : Nat) : Int) := by rw [i64_of (by omega) (by omega)]; omega
  have e2 : IntKind.i64.wrap ((n : Int) * 256) = ((n * 256 : Nat) : Int) := by rw [i64_of (by omega) (by omega)]; omega
  have z0 : ¬ ((32 * r : Nat) : Int) = 0 := by omega
  have e3 : ∀ m : Nat, m ≤ n * 256 → IntKind.i64.wrap (m : Int) = (m : Int) := fun m hm => i64_of (by omega) (by omega)
  have e4 := e3 _ (Nat.div_le_self (n * 256) (32 * r))
  refine AC_enter t_romix_New ?_; simp only [c_romix_New, enterA, List.replicate, List.length_cons, List.length_nil, Nat.reduceAdd, Nat.reduceSub, List.cons_append, List.nil_append]
  (repeat (first | refine GOS ?_ | (with_reducible (first | apply AO_any | apply AHd_any | apply AP_go | apply AHP_go); focus (simp only [Sm, wantedA, execA, stepA, List.getElem?_cons_zero, List.getElem?_cons_succ, if_true, if_false, binA, binInt, unA, eqA, Option.map, eq_self, reduceCtorEq, ite_true, ite_false, cellsAV, fitsAll, CK.fits, fillA, AV.cells, writeN, sliceCells, appendA, lenA, i64, loA, hiA, Nat.reduceAdd, Nat.reduceMul, Nat.reduceDiv, Nat.reduceSub, Nat.reduceLeDiff, Nat.reduceLT, Int.reduceLE, Int.reduceLT, foldA, maxA, minA, Int.reduceBEq, Int.reduceBNe, Int.reduceGT, Int.reduceGE, Int.reduceEq, Int.reduceNe, Int.reduceToNat, AOp.stops, ↓want_eq, ↓exec_lenX, ↓exec_storeX, ↓exec_storeN, storeN_one, ↓exec_bsX, ↓exec_sliceX, ↓exec_copyX, ↓exec_appNil, ↓exec_carryX, Nat.sub_zero, rep_len, hc]; with_reducible first | exact EqP.at_ | exact EqP.cont | exact EqP.hcont | exact EqP.gate | exact EqP.hgate))))
  refine AO_call rfl (AC_Within fl H r 1 512) ?_
  rintro _ _ ⟨rfl, rfl⟩
  rw [decide_eq_true (show 1 ≤ (r : Int) ∧ (r : Int) ≤ 512 from ⟨by omega, by omega⟩)]
  (repeat (first | refine GOS ?_ | (with_reducible (first | apply AO_any | apply AHd_any | apply AP_go | apply AHP_go); focus (simp only [Sm, wantedA, execA, stepA, List.getElem?_cons_zero, List.getElem?_cons_succ, if_true, if_false, binA, binInt, unA, eqA, Option.map, eq_self, reduceCtorEq, ite_true, ite_false, cellsAV, fitsAll, CK.fits, fillA, AV.cells, writeN, sliceCells, appendA, lenA, i64, loA, hiA, Nat.reduceAdd, Nat.reduceMul, Nat.reduceDiv, Nat.reduceSub, Nat.reduceLeDiff, Nat.reduceLT, Int.reduceLE, Int.reduceLT, foldA, maxA, minA, Int.reduceBEq, Int.reduceBNe, Int.reduceGT, Int.reduceGE, Int.reduceEq, Int.reduceNe, Int.reduceToNat, AOp.stops, ↓want_eq, ↓exec_lenX, ↓exec_storeX, ↓exec_storeN, storeN_one, ↓exec_bsX, ↓exec_sliceX, ↓exec_copyX, ↓exec_appNil, ↓exec_carryX, Nat.sub_zero, rep_len, e1]; with_reducible first | exact EqP.at_ | exact EqP.cont | exact EqP.hcont | exact EqP.gate | exact EqP.hgate))))
  refine AO_call rfl (AC_pcLen fl H p a q n live _ hp) ?_
  rintro _ _ ⟨rfl, rfl⟩
  (repeat (first | refine GOS ?_ | (with_reducible (first | apply AO_any | apply AHd_any | apply AP_go | apply AHP_go); focus (simp only [Sm, wantedA, execA, stepA, List.getElem?_cons_zero, List.getElem?_cons_succ, if_true, if_false, binA, binInt, unA, eqA, Option.map, eq_self, reduceCtorEq, ite_true, ite_false, cellsAV, fitsAll, CK.fits, fillA, AV.cells, writeN, sliceCells, appendA, lenA, i64, loA, hiA, Nat.reduceAdd, Nat.reduceMul, Nat.reduceDiv, Nat.reduceSub, Nat.reduceLeDiff, Nat.reduceLT, Int.reduceLE, Int.reduceLT, foldA, maxA, minA, Int.reduceBEq, Int.reduceBNe, Int.reduceGT, Int.reduceGE, Int.reduceEq, Int.reduceNe, Int.reduceToNat, AOp.stops, ↓want_eq, ↓exec_lenX, ↓exec_storeX, ↓exec_storeN, storeN_one, ↓exec_bsX, ↓exec_sliceX, ↓exec_copyX, ↓exec_appNil, ↓exec_carryX, Nat.sub_zero, rep_len, e1, e2, z0, tdiv_nat, e4]; with_reducible first | exact EqP.at_ | exact EqP.cont | exact EqP.hcont | exact EqP.gate | exact EqP.hgate))))
  exact AW_ret ⟨_, rfl, rfl, ⟨hown_last, hp.kept (Kept.push _ _ _), hl, hw, hr1, hr2, hn, rfl, by omega, by omega, by omega⟩, Kept.push _ _ _, by simp⟩
def hasO (R : Nat) (live : Bool) (z : Int) : Int := if z < 0 ∨ z ≥ (R : Int) then 11 else if live then 0 else 12
theorem AC_roHas {s p a q n r R : Nat} {live : Bool} {ws : List Nat} (z : Int) (h : StoreAt H s p a q n r R live ws) : AC A fl F_romix_Store_has [.c (.ptr s 0), .c (.int .i64 z)] H (fun v H' => v = .c (.int .i64 (hasO R live z)) ∧ H = H') := by
  have hc := hcells_own h.own
  have hq := hcells_own h.pc.blk
  refine AC_enter t_romix_Store_has ?_; simp only [c_romix_Store_has, enterA, List.replicate, List.length_cons, List.length_nil, Nat.reduceAdd, Nat.reduceSub, List.cons_append, List.nil_append]
  by_cases h1 : z < 0
  · rw [hasO, if_pos (.inl h1)]
    (repeat (first | refine GOS ?_ | (with_reducible (first | apply AO_any | apply AHd_any | apply AP_go | apply AHP_go); focus (simp only [Sm, wantedA, execA, stepA, List.getElem?_cons_zero, List.getElem?_cons_succ, if_true, if_false, binA, binInt, unA, eqA, Option.map, eq_self, reduceCtorEq, ite_true, ite_false, cellsAV, fitsAll, CK.fits, fillA, AV.cells, writeN, sliceCells, appendA, lenA, i64, loA, hiA, Nat.reduceAdd, Nat.reduceMul, Nat.reduceDiv, Nat.reduceSub, Nat.reduceLeDiff, Nat.reduceLT, Int.reduceLE, Int.reduceLT, foldA, maxA, minA, Int.reduceBEq, Int.reduceBNe, Int.reduceGT, Int.reduceGE, Int.reduceEq, Int.reduceNe, Int.reduceToNat, AOp.stops, ↓want_eq, ↓exec_lenX, ↓exec_storeX, ↓exec_storeN, storeN_one, ↓exec_bsX, ↓exec_sliceX, ↓exec_copyX, ↓exec_appNil, ↓exec_carryX, Nat.sub_zero, rep_len, hc, decide_eq_true h1]; with_reducible first | exact EqP.at_ | exact EqP.cont | exact EqP.hcont | exact EqP.gate | exact EqP.hgate))))
    exact AW_ret ⟨_, rfl, rfl, rfl⟩
  by_cases h2 : z ≥ (R : Int)
  · rw [hasO, if_pos (.inr h2)]
    (repeat (first | refine GOS ?_ | (with_reducible (first | apply AO_any | apply AHd_any | apply AP_go | apply AHP_go); focus (simp only [Sm, wantedA, execA, stepA, List.getElem?_cons_zero, List.getElem?_cons_succ, if_true, if_false, binA, binInt, unA, eqA, Option.map, eq_self, reduceCtorEq, ite_true, ite_false, cellsAV, fitsAll, CK.fits, fillA, AV.cells, writeN, sliceCells, appendA, lenA, i64, loA, hiA, Nat.reduceAdd, Nat.reduceMul, Nat.reduceDiv, Nat.reduceSub, Nat.reduceLeDiff, Nat.reduceLT, Int.reduceLE, Int.reduceLT, foldA, maxA, minA, Int.reduceBEq, Int.reduceBNe, Int.reduceGT, Int.reduceGE, Int.reduceEq, Int.reduceNe, Int.reduceToNat, AOp.stops, ↓want_eq, ↓exec_lenX, ↓exec_storeX, ↓exec_storeN, storeN_one, ↓exec_bsX, ↓exec_sliceX, ↓exec_copyX, ↓exec_appNil, ↓exec_carryX, Nat.sub_zero, rep_len, hc, decide_eq_false h1, decide_eq_true h2]; with_reducible first | exact EqP.at_ | exact EqP.cont | exact EqP.hcont | exact EqP.gate | exact EqP.hgate))))
    exact AW_ret ⟨_, rfl, rfl, rfl⟩
  rw [hasO, if_neg (by omega)]
  have hn := h.npos (k := z.toNat) (by omega)
  cases live with
  | true =>
    (repeat (first | refine GOS ?_ | (with_reducible (first | apply AO_any | apply AHd_any | apply AP_go | apply AHP_go); focus (simp only [Sm, wantedA, execA, stepA, List.getElem?_cons_zero, List.getElem?_cons_succ, if_true, if_false, binA, binInt, unA, eqA, Option.map, eq_self, reduceCtorEq, ite_true, ite_false, cellsAV, fitsAll, CK.fits, fillA, AV.cells, writeN, sliceCells, appendA, lenA, i64, loA, hiA, Nat.reduceAdd, Nat.reduceMul, Nat.reduceDiv, Nat.reduceSub, Nat.reduceLeDiff, Nat.reduceLT, Int.reduceLE, Int.reduceLT, foldA, maxA, minA, Int.reduceBEq, Int.reduceBNe, Int.reduceGT, Int.reduceGE, Int.reduceEq, Int.reduceNe, Int.reduceToNat, AOp.stops, ↓want_eq, ↓exec_lenX, ↓exec_storeX, ↓exec_storeN, storeN_one, ↓exec_bsX, ↓exec_sliceX, ↓exec_copyX, ↓exec_appNil, ↓exec_carryX, Nat.sub_zero, rep_len, hc, decide_eq_false h1, decide_eq_false h2]; with_reducible first | exact EqP.at_ | exact EqP.cont | exact EqP.hcont | exact EqP.gate | exact EqP.hgate))))
    refine AO_call rfl (AC_pcAt fl H p a q n 0 _ h.pc hn) ?_
    rintro _ _ ⟨rfl, rfl⟩
    (repeat (first | refine GOS ?_ | (with_reducible (first | apply AO_any | apply AHd_any | apply AP_go | apply AHP_go); focus (simp only [Sm, wantedA, execA, stepA, List.getElem?_cons_zero, List.getElem?_cons_succ, if_true, if_false, binA, binInt, unA, eqA, Option.map, eq_self, reduceCtorEq, ite_true, ite_false, cellsAV, fitsAll, CK.fits, fillA, AV.cells, writeN, sliceCells, appendA, lenA, i64, loA, hiA, Nat.reduceAdd, Nat.reduceMul, Nat.reduceDiv, Nat.reduceSub, Nat.reduceLeDiff, Nat.reduceLT, Int.reduceLE, Int.reduceLT, foldA, maxA, minA, Int.reduceBEq, Int.reduceBNe, Int.reduceGT, Int.reduceGE, Int.reduceEq, Int.reduceNe, Int.reduceToNat, AOp.stops, ↓want_eq, ↓exec_lenX, ↓exec_storeX, ↓exec_storeN, storeN_one, ↓exec_bsX, ↓exec_sliceX, ↓exec_copyX, ↓exec_appNil, ↓exec_carryX, Nat.sub_zero, rep_len, hq]; with_reducible first | exact EqP.at_ | exact EqP.cont | exact EqP.hcont | exact EqP.gate | exact EqP.hgate))))
    exact AW_ret ⟨_, rfl, rfl, rfl⟩
  | false =>
    (repeat (first | refine GOS ?_ | (with_reducible (first | apply AO_any | apply AHd_any | apply AP_go | apply AHP_go); focus (simp only [Sm, wantedA, execA, stepA, List.getElem?_cons_zero, List.getElem?_cons_succ, if_true, if_false, binA, binInt, unA, eqA, Option.map, eq_self, reduceCtorEq, ite_true, ite_false, cellsAV, fitsAll, CK.fits, fillA, AV.cells, writeN, sliceCells, appendA, lenA, i64, loA, hiA, Nat.reduceAdd, Nat.reduceMul, Nat.reduceDiv, Nat.reduceSub, Nat.reduceLeDiff, Nat.reduceLT, Int.reduceLE, Int.reduceLT, foldA, maxA, minA, Int.reduceBEq, Int.reduceBNe, Int.reduceGT, Int.reduceGE, Int.reduceEq, Int.reduceNe, Int.reduceToNat, AOp.stops, ↓want_eq, ↓exec_lenX, ↓exec_storeX, ↓exec_storeN, storeN_one, ↓exec_bsX, ↓exec_sliceX, ↓exec_copyX, ↓exec_appNil, ↓exec_carryX, Nat.sub_zero, rep_len, hc, decide_eq_false h1, decide_eq_false h2]; with_reducible first | exact EqP.at_ | exact EqP.cont | exact EqP.hcont | exact EqP.gate | exact EqP.hgate))))
    refine AO_call rfl (AC_pcAt_bad fl H p a q n false _ 0 h.pc (.inl rfl)) ?_
    rintro _ _ ⟨rfl, rfl⟩
    refine GO ?_
    exact AW_ret ⟨_, rfl, rfl, rfl⟩
end
end PK

/- Package romix: Row, Put. -/
namespace PK
open Go PAbs
set_option linter.unusedSimpArgs false
set_option linter.unusedVariables false
set_option maxRecDepth 100000
set_option maxHeartbeats 4000000

def rowO (ws : List Nat) (W k : Nat) : List Nat := (ws.drop (k * W)).take W
def putO (ws : List Nat) (W k : Nat) (l : List Nat) : List Nat := putL ws (k * W) l
theorem rowO_length {ws : List Nat} {W k : Nat} (h : k * W + W ≤ ws.length) : (rowO ws W k).length = W := by simp only [rowO, List.length_take, List.length_drop]; omega
theorem rowO_get {ws : List Nat} {W k i : Nat} (hi : i < W) : (rowO ws W k).getD i 0 = ws.getD (k * W + i) 0 := by rw [rowO, getD_take, if_pos hi, getD_drop]
theorem putO_length {ws l : List Nat} {W k : Nat} (h : k * W + W ≤ ws.length) (hl : l.length = W) : (putO ws W k l).length = ws.length := putL_length (by omega)
theorem putO_getD {ws l : List Nat} {W k j : Nat} (h : k * W + W ≤ ws.length) (hl : l.length = W) : (putO ws W k l).getD j 0 = if k * W ≤ j ∧ j < k * W + W then l.getD (j - k * W) 0 else ws.getD j 0 := by
  rw [List.getD_eq_getElem?_getD, putO, putL_get (by omega), hl]
  split <;> rw [List.getD_eq_getElem?_getD]
theorem row_put {ws l : List Nat} {W k k' : Nat} (h : k * W + W ≤ ws.length) (h' : k' * W + W ≤ ws.length) (hl : l.length = W) : rowO (putO ws W k l) W k' = if k' = k then l else rowO ws W k' := by
  have e : (if k' = k then l else rowO ws W k').length = W := by split; exact hl; exact rowO_length h'
  refine List.ext_getElem (by rw [rowO_length (by rw [putO_length h hl]; exact h'), e]) fun i h1 h2 => ?_
  have hi : i < W := by rw [rowO_length (by rw [putO_length h hl]; exact h')] at h1; exact h1
  have key : ∀ (a b : List Nat) (ha : i < a.length) (hb : i < b.length), a.getD i 0 = b.getD i 0 → a[i] = b[i] := fun a b ha hb hab => by
    simpa [List.getD_eq_getElem?_getD, List.getElem?_eq_getElem ha, List.getElem?_eq_getElem hb] using hab
  refine key _ _ _ _ ?_
  rw [rowO_get hi, putO_getD h hl]
  by_cases hk : k' = k
  · subst hk; rw [if_pos rfl, if_pos ⟨by omega, by omega⟩]; congr 1; omega
  · rw [if_neg hk, rowO_get hi]
    rw [if_neg]
    rintro ⟨q1, q2⟩
    rcases Nat.lt_or_gt_of_ne hk with hlt | hlt
    · have : (k' + 1) * W ≤ k * W := Nat.mul_le_mul_right _ hlt
      rw [Nat.add_mul] at this; omega
    · have : (k + 1) * W ≤ k' * W := Nat.mul_le_mul_right _ hlt
      rw [Nat.add_mul] at this; omega
theorem putL_snoc {ws l : List Nat} {o i : Nat} (h : o + l.length ≤ ws.length) (hi : i < l.length) : (putL ws o (l.take i)).set (o + i) (l.getD i 0) = putL ws o (l.take (i + 1)) := by
  have t1 : (l.take i).length = i := by rw [List.length_take]; omega
  have t2 : (l.take (i + 1)).length = i + 1 := by rw [List.length_take]; omega
  apply List.ext_getElem?
  intro j
  rw [List.getElem?_set, putL_length (by omega), putL_get (by omega), putL_get (by omega), t1, t2]
  by_cases hj : o + i = j
  · subst hj
    rw [if_pos rfl, if_pos (by omega), if_pos (by omega), show o + i - o = i by omega, List.getElem?_take, if_pos (by omega)]
    rw [List.getD_eq_getElem?_getD, List.getElem?_eq_getElem hi]; rfl
  · rw [if_neg hj]
    by_cases h1 : o ≤ j ∧ j < o + i
    · rw [if_pos h1, if_pos (by omega), List.getElem?_take, List.getElem?_take, if_pos (by omega), if_pos (by omega)]
    · rw [if_neg h1, if_neg (by omega)]
theorem putL_nil {ws : List Nat} {o : Nat} : putL ws o [] = ws := by simp [putL]
theorem wmod {w : Nat} (h : w ≤ 100000000) : Int.tdiv ((w : Nat) : Int) 256 = ((w / 256 : Nat) : Int) ∧ IntKind.i64.wrap ((w / 256 : Nat) : Int) = ((w / 256 : Nat) : Int) ∧ Int.tmod ((w : Nat) : Int) 256 = ((w % 256 : Nat) : Int) := by
  refine ⟨tdiv_nat (b := 256), i64_of ?_ ?_, tmod_nat (b := 256)⟩ <;> omega

section
variable {so p a q n r R : Nat}
def rrI (so b k W : Nat) (ws : List Nat) (H0 : AHeap) (i : Nat) (fr : AFrame) (H : AHeap) : Prop := Chg (· = b) H0 H ∧ hown H b = some (W32 (upd (fun i => ws.getD (k * W + i) 0) (List.replicate W 0) i)) ∧ (∃ s : Nat → AV, fr = [.c (.ptr so 0), .c (.int .i64 (k : Int)), s 2, s 3, s 4, s 5, s 6, .c (.slc b 0 W 1), s 8, s 9, s 10, s 11, s 12, s 13, s 14, s 15, s 16, s 17, s 18, s 19, s 20, s 21, .c (.int .i64 (W : Int)), .c (.int .i64 (i : Int)), s 24, s 25, s 26, s 27, s 28, s 29, s 30, s 31, s 32, s 33, s 34, s 35, s 36, s 37, s 38, s 39, s 40, s 41, s 42, s 43, s 44, s 45, s 46, s 47, s 48])
theorem AC_roRow (H : AHeap) {ws : List Nat} (k : Nat) (h : StoreAt H so p a q n r R true ws) (hk : k < R) : AC A H.length F_romix_Store_Row [.c (.ptr so 0), .c (.int .i64 (k : Int))] H
    (fun v H' => (∃ x, v = .tup [.c x, .c (.int .i64 0)] ∧ Own H.length H' x 1 (W32 (rowO ws (32 * r) k))) ∧ Kept H.length H H') := by
  refine AC.kept ?_ (Nat.le_refl _)
  have hc := hcells_own h.own
  have hrw := h.rows hk
  have hr1 := h.r1; have hr2 := h.r2; have hn := h.n2; have hlen := h.len
  obtain ⟨W, hW⟩ : ∃ W, W = 32 * r := ⟨_, rfl⟩
  rw [← hW] at hc hrw ⊢
  have b1 : (0 : Int) ≤ ((W : Nat) : Int) := by omega
  have b2 : ((W : Nat) : Int) * (4 : Nat) ≤ 140737488355328 := by omega
  have b2' : ((W : Nat) : Int) * 4 ≤ 140737488355328 := by omega
  have hz := zeros32 W
  have hh : hasO R true (k : Int) = 0 := by simp only [hasO]; rw [if_neg (by omega)]; rfl
  refine AC_enter t_romix_Store_Row ?_; simp only [c_romix_Store_Row, enterA, List.replicate, List.length_cons, List.length_nil, Nat.reduceAdd, Nat.reduceSub, List.cons_append, List.nil_append]
  refine GO ?_
  refine AO_call rfl (AC_roHas H.length H (k : Int) h) ?_
  rintro _ _ ⟨rfl, rfl⟩
  rw [hh]
  have o1 : hown (H ++ [Blk.own (W32 (List.replicate W 0))]) H.length = some (W32 (List.replicate W 0)) := hown_last
  have k1 := Kept.push H.length H [Blk.own (W32 (List.replicate W 0))]
  have hc1 := hcells_own o1
  have ly : lenX (H ++ [Blk.own (W32 (List.replicate W 0))]) (.c (.slc H.length 0 W 1)) = some (.c (.int .i64 (W : Int)), H ++ [Blk.own (W32 (List.replicate W 0))]) := (Rd.all hc1 (by rw [W32_length]; simp)).len W (by rw [W32_length]; simp) (by decide)
  (repeat (first | refine GOS ?_ | (with_reducible (first | apply AO_any | apply AHd_any | apply AP_go | apply AHP_go); focus (simp only [Sm, wantedA, execA, stepA, List.getElem?_cons_zero, List.getElem?_cons_succ, if_true, if_false, binA, binInt, unA, eqA, Option.map, eq_self, reduceCtorEq, ite_true, ite_false, cellsAV, fitsAll, CK.fits, fillA, AV.cells, writeN, sliceCells, appendA, lenA, i64, loA, hiA, Nat.reduceAdd, Nat.reduceMul, Nat.reduceDiv, Nat.reduceSub, Nat.reduceLeDiff, Nat.reduceLT, Int.reduceLE, Int.reduceLT, foldA, maxA, minA, Int.reduceBEq, Int.reduceBNe, Int.reduceGT, Int.reduceGE, Int.reduceEq, Int.reduceNe, Int.reduceToNat, AOp.stops, ↓want_eq, ↓exec_lenX, ↓exec_storeX, ↓exec_storeN, storeN_one, ↓exec_bsX, ↓exec_sliceX, ↓exec_copyX, ↓exec_appNil, ↓exec_carryX, Nat.sub_zero, rep_len, hc, b1, b2, b2', Int.le_refl, hz, Int.toNat_natCast, ly]; with_reducible first | exact EqP.at_ | exact EqP.cont | exact EqP.hcont | exact EqP.gate | exact EqP.hgate))))
  have h1 := h.kept k1
  generalize hH1 : H ++ [Blk.own (W32 (List.replicate W 0))] = H1 at *
  have l1 : H1.length = H.length + 1 := by rw [← hH1]; simp
  have sl := hown_lt h.own; have pl := hown_lt h.pc.own; have ql := hown_lt h.pc.blk
  refine AW_mid (fun e fr H' => e = .normal ∧ rrI so H.length k W ws H1 W fr H') ?_ ?_
  · refine AW_block (AW_up (rrI so H.length k W ws H1) W ⟨Chg.refl _ _, o1, stale _ _ rfl⟩ ?_)
    rintro i fr H2 hi ⟨c2, o2, st, rfl⟩
    have h2 := h1.chg c2 (by omega) (by omega) (by omega)
    have hcs2 := hcells_own h2.own
    rw [← hW] at hcs2
    refine GO ?_
    refine AW_cond rfl ?_ ?_ <;> intro ht
    · have ht : (i : Int) < (W : Int) := of_decide_eq_true ht
      have hi2 : i < W := by omega
      have e1 : IntKind.i64.wrap ((k : Int) * (W : Int)) = ((k * W : Nat) : Int) := by rw [← Int.natCast_mul]; exact i64_of (by omega) (by omega)
      have e2 : IntKind.i64.wrap (((k * W : Nat) : Int) + (i : Int)) = ((k * W + i : Nat) : Int) := i64_add (by omega)
      obtain ⟨e3, e4, e5⟩ := wmod (w := k * W + i) (by omega)
      have z256 : ¬ ((256 : Int) = 0) := by omega
      have hlt : (k * W + i) / 256 < n := by omega
      obtain ⟨w, hw⟩ : ∃ w, w = k * W + i := ⟨_, rfl⟩
      rw [← hw] at e2 e3 e4 e5 hlt
      have hu : (upd (fun i => ws.getD (k * W + i) 0) (List.replicate W 0) i).length = W := by rw [upd_length]; simp
      have esc := i64_succ (show i < 9223372036854775807 by omega)
      (repeat (first | refine GOS ?_ | (with_reducible (first | apply AO_any | apply AHd_any | apply AP_go | apply AHP_go); focus (simp only [Sm, wantedA, execA, stepA, List.getElem?_cons_zero, List.getElem?_cons_succ, if_true, if_false, binA, binInt, unA, eqA, Option.map, eq_self, reduceCtorEq, ite_true, ite_false, cellsAV, fitsAll, CK.fits, fillA, AV.cells, writeN, sliceCells, appendA, lenA, i64, loA, hiA, Nat.reduceAdd, Nat.reduceMul, Nat.reduceDiv, Nat.reduceSub, Nat.reduceLeDiff, Nat.reduceLT, Int.reduceLE, Int.reduceLT, foldA, maxA, minA, Int.reduceBEq, Int.reduceBNe, Int.reduceGT, Int.reduceGE, Int.reduceEq, Int.reduceNe, Int.reduceToNat, AOp.stops, ↓want_eq, ↓exec_lenX, ↓exec_storeX, ↓exec_storeN, storeN_one, ↓exec_bsX, ↓exec_sliceX, ↓exec_copyX, ↓exec_appNil, ↓exec_carryX, Nat.sub_zero, rep_len, ht, hcs2, e1, e2, e3, e4, z256]; with_reducible first | exact EqP.at_ | exact EqP.cont | exact EqP.hcont | exact EqP.gate | exact EqP.hgate))))
      refine AO_call rfl (AC_pcAt H.length H2 p a q n (w / 256) _ h2.pc hlt) ?_
      rintro _ _ ⟨rfl, rfl⟩
      have ho : w / 256 * 128 + 128 ≤ n * 128 := by have : (w / 256 + 1) * 128 ≤ n * 128 := Nat.mul_le_mul_right _ hlt; rw [Nat.add_mul] at this; omega
      (repeat (first | refine GOS ?_ | (with_reducible (first | apply AO_any | apply AHd_any | apply AP_go | apply AHP_go); focus (simp only [Sm, wantedA, execA, stepA, List.getElem?_cons_zero, List.getElem?_cons_succ, if_true, if_false, binA, binInt, unA, eqA, Option.map, eq_self, reduceCtorEq, ite_true, ite_false, cellsAV, fitsAll, CK.fits, fillA, AV.cells, writeN, sliceCells, appendA, lenA, i64, loA, hiA, Nat.reduceAdd, Nat.reduceMul, Nat.reduceDiv, Nat.reduceSub, Nat.reduceLeDiff, Nat.reduceLT, Int.reduceLE, Int.reduceLT, foldA, maxA, minA, Int.reduceBEq, Int.reduceBNe, Int.reduceGT, Int.reduceGE, Int.reduceEq, Int.reduceNe, Int.reduceToNat, AOp.stops, ↓want_eq, ↓exec_lenX, ↓exec_storeX, ↓exec_storeN, storeN_one, ↓exec_bsX, ↓exec_sliceX, ↓exec_copyX, ↓exec_appNil, ↓exec_carryX, Nat.sub_zero, rep_len, e5, z256]; with_reducible first | exact EqP.at_ | exact EqP.cont | exact EqP.hcont | exact EqP.gate | exact EqP.hgate))))
      refine AO_call rfl (AC_HalfAt H.length H2 q (w / 256 * 128) n (w % 256) ws (hcells_own h2.pc.blk) ho (Nat.mod_lt _ (by decide)) h.lt) ?_
      rintro _ _ ⟨rfl, rfl⟩
      rw [show 2 * (w / 256 * 128) + w % 256 = w by omega, hw]
      obtain ⟨H3, s3, o3, c3, l3⟩ := storeX_ex (fl := H.length) (o := i) o2 (Nat.le_refl _) (by rw [W32_length, hu]; exact hi2) (.int .u32 ((ws.getD (k * W + i) 0 : Nat) : Int))
      have hc2 := hcells_own o2
      (repeat (first | refine GOS ?_ | (with_reducible (first | apply AO_any | apply AHd_any | apply AP_go | apply AHP_go); focus (simp only [Sm, wantedA, execA, stepA, List.getElem?_cons_zero, List.getElem?_cons_succ, if_true, if_false, binA, binInt, unA, eqA, Option.map, eq_self, reduceCtorEq, ite_true, ite_false, cellsAV, fitsAll, CK.fits, fillA, AV.cells, writeN, sliceCells, appendA, lenA, i64, loA, hiA, Nat.reduceAdd, Nat.reduceMul, Nat.reduceDiv, Nat.reduceSub, Nat.reduceLeDiff, Nat.reduceLT, Int.reduceLE, Int.reduceLT, foldA, maxA, minA, Int.reduceBEq, Int.reduceBNe, Int.reduceGT, Int.reduceGE, Int.reduceEq, Int.reduceNe, Int.reduceToNat, AOp.stops, ↓want_eq, ↓exec_lenX, ↓exec_storeX, ↓exec_storeN, storeN_one, ↓exec_bsX, ↓exec_sliceX, ↓exec_copyX, ↓exec_appNil, ↓exec_carryX, Nat.sub_zero, rep_len, hc2, ht, Nat.zero_add, s3, esc]; with_reducible first | exact EqP.at_ | exact EqP.cont | exact EqP.hcont | exact EqP.gate | exact EqP.hgate))))
      refine ⟨hi2, c2.trans c3 (fun _ _ h => h), ?_, stale _ _ rfl⟩
      rw [W32_setL] at o3; exact o3
    · obtain rfl : i = W := by have : ¬ (i : Int) < (W : Int) := of_decide_eq_false ht; omega
      exact AW_exit ⟨rfl, c2, o2, stale _ _ rfl⟩
  rintro e fr H2 ⟨rfl, c2, o2, st, rfl⟩
  have hrl : (rowO ws W k).length = W := rowO_length (by omega)
  have hu : upd (fun i => ws.getD (k * W + i) 0) (List.replicate W 0) W = rowO ws W k := by
    have := upd_eq (f := fun i => ws.getD (k * W + i) 0) (l := List.replicate W 0) (m := rowO ws W k) (by simp [hrl]) ?_
    · rwa [hrl] at this
    · intro j hj
      rw [hrl] at hj
      have := rowO_get (ws := ws) (k := k) hj
      rw [List.getD_eq_getElem?_getD, List.getElem?_eq_getElem (by omega)] at this
      rw [List.getElem?_eq_getElem (by omega)]
      simpa using this
  rw [hu] at o2
  refine GO ?_
  exact AW_ret ⟨_, rfl, _, rfl, .inr ⟨_, W, rfl, by rw [W32_length, hrl, Nat.mul_one], Nat.le_refl _, o2⟩⟩

def rpI24 (so q n k W : Nat) (y : Cell) (ws ls : List Nat) (H0 : AHeap) (i : Nat) (fr : AFrame) (H : AHeap) : Prop := Chg (· = q) H0 H ∧ hown H q = some (W64 (pk (putL ws (k * W) (ls.take i)) n)) ∧ (∃ s : Nat → AV, fr = [.c (.ptr so 0), .c (.int .i64 (k : Int)), s 2, s 3, s 4, s 5, s 6, s 7, s 8, s 9, s 10, s 11, s 12, s 13, s 14, s 15, s 16, s 17, s 18, s 19, s 20, s 21, s 22, s 23, .c y, .c (.int .i64 (W : Int)), .c (.int .i64 (i : Int)), s 27, s 28, s 29, s 30, s 31, s 32, s 33, s 34, s 35, s 36, s 37, s 38, s 39, s 40, s 41, s 42, s 43, s 44, s 45, s 46, s 47, s 48, s 49, s 50])
theorem AC_roPut (fl : Nat) (H : AHeap) {ws : List Nat} (k : Nat) (y : Cell) (ls : List Nat) (h : StoreAt H so p a q n r R true ws) (hk : k < R) (hy : Rd H y 1 (W32 ls)) (hyq : ¬ inX y q) (hl : ls.length = 32 * r) (hw : ∀ k, ls.getD k 0 < 4294967296) (hf : fl ≤ q) :
    AC A fl F_romix_Store_Put [.c (.ptr so 0), .c (.int .i64 (k : Int)), .c y] H (fun v H' => v = .c (.int .i64 0) ∧ StoreAt H' so p a q n r R true (putO ws (32 * r) k ls) ∧ Chg (· = q) H H' ∧ H'.length = H.length) := by
  have hc := hcells_own h.own
  have hrw := h.rows hk
  have hr1 := h.r1; have hr2 := h.r2; have hn := h.n2; have hlen := h.len
  obtain ⟨W, hW⟩ : ∃ W, W = 32 * r := ⟨_, rfl⟩
  rw [← hW] at hc hrw ⊢
  have hh : hasO R true (k : Int) = 0 := by simp only [hasO]; rw [if_neg (by omega)]; rfl
  rw [← hW] at hl
  have yl : (W32 ls).length = W := by rw [W32_length, hl]
  have ly := hy.len W (by rw [yl, Nat.mul_one]) (by decide)
  have e : (((W : Nat) : Int) != ((W : Nat) : Int)) = false := bne_self_eq_false _
  have hput : ∀ i, i ≤ W → (putL ws (k * W) (ls.take i)).length = n * 256 := fun i hi => by rw [putL_length (by rw [List.length_take]; omega), hlen]
  have hpw : ∀ i, i ≤ W → ∀ j, (putL ws (k * W) (ls.take i)).getD j 0 < 4294967296 := fun i hi j => by
    rw [List.getD_eq_getElem?_getD, putL_get (by rw [List.length_take]; omega)]
    split
    · rw [← List.getD_eq_getElem?_getD, getD_take]; split; exact hw _; decide
    · rw [← List.getD_eq_getElem?_getD]; exact h.lt _
  refine AC_enter t_romix_Store_Put ?_; simp only [c_romix_Store_Put, enterA, List.replicate, List.length_cons, List.length_nil, Nat.reduceAdd, Nat.reduceSub, List.cons_append, List.nil_append]
  refine GO ?_
  refine AO_call rfl (AC_roHas fl H (k : Int) h) ?_
  rintro _ _ ⟨rfl, rfl⟩
  rw [hh]
  (repeat (first | refine GOS ?_ | (with_reducible (first | apply AO_any | apply AHd_any | apply AP_go | apply AHP_go); focus (simp only [Sm, wantedA, execA, stepA, List.getElem?_cons_zero, List.getElem?_cons_succ, if_true, if_false, binA, binInt, unA, eqA, Option.map, eq_self, reduceCtorEq, ite_true, ite_false, cellsAV, fitsAll, CK.fits, fillA, AV.cells, writeN, sliceCells, appendA, lenA, i64, loA, hiA, Nat.reduceAdd, Nat.reduceMul, Nat.reduceDiv, Nat.reduceSub, Nat.reduceLeDiff, Nat.reduceLT, Int.reduceLE, Int.reduceLT, foldA, maxA, minA, Int.reduceBEq, Int.reduceBNe, Int.reduceGT, Int.reduceGE, Int.reduceEq, Int.reduceNe, Int.reduceToNat, AOp.stops, ↓want_eq, ↓exec_lenX, ↓exec_storeX, ↓exec_storeN, storeN_one, ↓exec_bsX, ↓exec_sliceX, ↓exec_copyX, ↓exec_appNil, ↓exec_carryX, Nat.sub_zero, rep_len, ly, hc, e]; with_reducible first | exact EqP.at_ | exact EqP.cont | exact EqP.hcont | exact EqP.gate | exact EqP.hgate))))
  refine AW_mid (fun e fr H' => e = .normal ∧ H'.length = H.length ∧ rpI24 so q n k W y ws ls H W fr H') ?_ ?_
  · refine AW_block (AW_up (fun i fr H' => H'.length = H.length ∧ rpI24 so q n k W y ws ls H i fr H') W ⟨rfl, Chg.refl _ _, by rw [List.take_zero, putL_nil]; exact h.pc.blk, stale _ _ rfl⟩ ?_)
    rintro i fr H2 hi ⟨l2, c2, o2, st, rfl⟩
    have hcs2 := hcells_own (c2.hown h.sq h.own)
    rw [← hW] at hcs2
    have hp2 : PieceAt H2 p a q n true (W64 (pk (putL ws (k * W) (ls.take i)) n)) := ⟨c2.hown h.pc.pq h.pc.own, o2, by rw [W64_length, pk_length], h.pc.pq, h.pc.pa, h.pc.qa⟩
    refine GO ?_
    refine AW_cond rfl ?_ ?_ <;> intro ht
    · have ht : (i : Int) < (W : Int) := of_decide_eq_true ht
      have hi2 : i < W := by omega
      obtain ⟨u, o, f, rfl, hf', hg⟩ := (hy.chg c2 (fun b hb e => hyq (by rw [← e]; exact hb))).get (i := i) (by rw [yl]; exact hi2)
      rw [W32_get (by omega)] at hg
      rw [yl] at *
      have hx := hw i
      have hsn := putL_snoc (ws := ws) (l := ls) (o := k * W) (i := i) (by omega) (by omega)
      have e1 : IntKind.i64.wrap ((k : Int) * (W : Int)) = ((k * W : Nat) : Int) := by rw [← Int.natCast_mul]; exact i64_of (by omega) (by omega)
      have e2 : IntKind.i64.wrap (((k * W : Nat) : Int) + (i : Int)) = ((k * W + i : Nat) : Int) := i64_add (by omega)
      obtain ⟨e3, e4, e5⟩ := wmod (w := k * W + i) (by omega)
      have z256 : ¬ ((256 : Int) = 0) := by omega
      have hlt : (k * W + i) / 256 < n := by omega
      obtain ⟨w, hw'⟩ : ∃ w, w = k * W + i := ⟨_, rfl⟩
      rw [← hw'] at e2 e3 e4 e5 hlt hsn
      have esc := i64_succ (show i < 9223372036854775807 by omega)
      generalize ls.getD i 0 = x at *
      (repeat (first | refine GOS ?_ | (with_reducible (first | apply AO_any | apply AHd_any | apply AP_go | apply AHP_go); focus (simp only [Sm, wantedA, execA, stepA, List.getElem?_cons_zero, List.getElem?_cons_succ, if_true, if_false, binA, binInt, unA, eqA, Option.map, eq_self, reduceCtorEq, ite_true, ite_false, cellsAV, fitsAll, CK.fits, fillA, AV.cells, writeN, sliceCells, appendA, lenA, i64, loA, hiA, Nat.reduceAdd, Nat.reduceMul, Nat.reduceDiv, Nat.reduceSub, Nat.reduceLeDiff, Nat.reduceLT, Int.reduceLE, Int.reduceLT, foldA, maxA, minA, Int.reduceBEq, Int.reduceBNe, Int.reduceGT, Int.reduceGE, Int.reduceEq, Int.reduceNe, Int.reduceToNat, AOp.stops, ↓want_eq, ↓exec_lenX, ↓exec_storeX, ↓exec_storeN, storeN_one, ↓exec_bsX, ↓exec_sliceX, ↓exec_copyX, ↓exec_appNil, ↓exec_carryX, Nat.sub_zero, rep_len, ht, hf', hg, hcs2, e1, e2, e3, e4, z256]; with_reducible first | exact EqP.at_ | exact EqP.cont | exact EqP.hcont | exact EqP.gate | exact EqP.hgate))))
      refine AO_call rfl (AC_pcAt fl H2 p a q n (w / 256) _ hp2 hlt) ?_
      rintro _ _ ⟨rfl, rfl⟩
      have ho : w / 256 * 128 + 128 ≤ n * 128 := by have : (w / 256 + 1) * 128 ≤ n * 128 := Nat.mul_le_mul_right _ hlt; rw [Nat.add_mul] at this; omega
      (repeat (first | refine GOS ?_ | (with_reducible (first | apply AO_any | apply AHd_any | apply AP_go | apply AHP_go); focus (simp only [Sm, wantedA, execA, stepA, List.getElem?_cons_zero, List.getElem?_cons_succ, if_true, if_false, binA, binInt, unA, eqA, Option.map, eq_self, reduceCtorEq, ite_true, ite_false, cellsAV, fitsAll, CK.fits, fillA, AV.cells, writeN, sliceCells, appendA, lenA, i64, loA, hiA, Nat.reduceAdd, Nat.reduceMul, Nat.reduceDiv, Nat.reduceSub, Nat.reduceLeDiff, Nat.reduceLT, Int.reduceLE, Int.reduceLT, foldA, maxA, minA, Int.reduceBEq, Int.reduceBNe, Int.reduceGT, Int.reduceGE, Int.reduceEq, Int.reduceNe, Int.reduceToNat, AOp.stops, ↓want_eq, ↓exec_lenX, ↓exec_storeX, ↓exec_storeN, storeN_one, ↓exec_bsX, ↓exec_sliceX, ↓exec_copyX, ↓exec_appNil, ↓exec_carryX, Nat.sub_zero, rep_len, e5, z256]; with_reducible first | exact EqP.at_ | exact EqP.cont | exact EqP.hcont | exact EqP.gate | exact EqP.hgate))))
      refine AO_call rfl (AC_SetHalfAt fl H2 q (w / 256 * 128) n (w % 256) x _ o2 hf (hput i hi) ho (Nat.mod_lt _ (by decide)) (hpw i hi) hx) ?_
      rintro _ H3 ⟨rfl, o3, c3, l3⟩
      rw [show 2 * (w / 256 * 128) + w % 256 = w by omega, hsn] at o3
      (repeat (first | refine GOS ?_ | (with_reducible (first | apply AO_any | apply AHd_any | apply AP_go | apply AHP_go); focus (simp only [Sm, wantedA, execA, stepA, List.getElem?_cons_zero, List.getElem?_cons_succ, if_true, if_false, binA, binInt, unA, eqA, Option.map, eq_self, reduceCtorEq, ite_true, ite_false, cellsAV, fitsAll, CK.fits, fillA, AV.cells, writeN, sliceCells, appendA, lenA, i64, loA, hiA, Nat.reduceAdd, Nat.reduceMul, Nat.reduceDiv, Nat.reduceSub, Nat.reduceLeDiff, Nat.reduceLT, Int.reduceLE, Int.reduceLT, foldA, maxA, minA, Int.reduceBEq, Int.reduceBNe, Int.reduceGT, Int.reduceGE, Int.reduceEq, Int.reduceNe, Int.reduceToNat, AOp.stops, ↓want_eq, ↓exec_lenX, ↓exec_storeX, ↓exec_storeN, storeN_one, ↓exec_bsX, ↓exec_sliceX, ↓exec_copyX, ↓exec_appNil, ↓exec_carryX, Nat.sub_zero, rep_len, esc]; with_reducible first | exact EqP.at_ | exact EqP.cont | exact EqP.hcont | exact EqP.gate | exact EqP.hgate))))
      exact ⟨hi2, by omega, c2.trans c3 (fun _ _ h => h), o3, stale _ _ rfl⟩
    · obtain rfl : i = W := by have : ¬ (i : Int) < (W : Int) := of_decide_eq_false ht; omega
      exact AW_exit ⟨rfl, l2, c2, o2, stale _ _ rfl⟩
  rintro e fr H2 ⟨rfl, l2, c2, o2, st, rfl⟩
  have hpt := hput W (Nat.le_refl _)
  have hpl := hpw W (Nat.le_refl _)
  rw [List.take_of_length_le (by omega)] at o2 hpt hpl
  refine GO ?_
  refine AW_ret ⟨_, rfl, rfl, ⟨c2.hown h.sq h.own, ⟨c2.hown h.pc.pq h.pc.own, o2, by rw [W64_length, pk_length], h.pc.pq, h.pc.pa, h.pc.qa⟩, hpt, hpl, hr1, hr2, hn, h.R2, h.sp, h.sq, h.sa⟩, c2, l2⟩
end
end PK
