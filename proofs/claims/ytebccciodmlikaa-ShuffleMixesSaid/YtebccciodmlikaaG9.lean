/- Texts of this claim, put together: KPestleref23 L23b L12f L01o L01p L12g More Go2 L23c. -/
import Derived.Test.YtebccciodmlikaaG7
import Derived.Test.YtebccciodmlikaaG8
/- Package pestleref23 as code of the abstract machine. -/
namespace PK
open Go PAbs

noncomputable def c_pestleref23_Why : AFn := AFn.mk 16 [.tmp 4]
  (.seq (.region
      [⟨some 4, .mv (.k (.c (.int .i64 0))), none⟩])
  (.seq (.seq (.region
        [⟨some 5, .mv (.t 0), none⟩,
          ⟨some 6, .bin .lss (.t 5) (.k (.c (.int .i64 1))), none⟩,
          ⟨some 7, .mv (.t 6), none⟩,
          ⟨some 8, .mv (.t 0), some (7, false)⟩,
          ⟨some 9, .bin .gtr (.t 8) (.k (.c (.int .i64 512))), some (7, false)⟩,
          ⟨some 10, .pick (.t 7) (.k (.c (.bool true))) (.t 9), none⟩])
    (.cond (.t 10)
      (.seq (.region
          [⟨some 4, .mv (.k (.c (.int .i64 2))), none⟩])
      (.ret))
      (.skip)))
  (.seq (.seq (.region
        [⟨some 11, .mv (.t 1), none⟩,
          ⟨some 12, .len false (.t 11), none⟩,
          ⟨some 13, .mv (.t 0), none⟩,
          ⟨some 14, .bin .mul (.k (.c (.int .i64 32))) (.t 13), none⟩,
          ⟨some 15, .bin .neq (.t 12) (.t 14), none⟩])
    (.cond (.t 15)
      (.seq (.region
          [⟨some 4, .mv (.k (.c (.int .i64 9))), none⟩])
      (.ret))
      (.skip)))
  (.seq (.region
      [⟨some 4, .mv (.k (.c (.int .i64 0))), none⟩])
  (.ret)))))
theorem t_pestleref23_Why : A F_pestleref23_Why = some c_pestleref23_Why := by kernel_rfl

noncomputable def c_pestleref23_Mix : AFn := AFn.mk 82 [.tmp 4]
  (.seq (.region
      [⟨some 4, .mv (.k (.c (.snil))), none⟩])
  (.seq (.region
      [⟨some 5, .alloc (rep 16 (.int .u32 0)), none⟩])
  (.seq (.seq (.region
        [⟨some 6, .mv (.k (.c (.int .i64 0))), none⟩])
    (.block 0
      (.loop
        (.seq (.seq (.region
              [⟨some 14, .mv (.t 6), none⟩,
                ⟨some 15, .bin .lss (.t 14) (.k (.c (.int .i64 16))), none⟩])
          (.cond (.t 15)
            (.skip)
            (.exit 0)))
        (.seq (.block 1
            (.region
              [⟨some 18, .mv (.t 6), none⟩,
                ⟨some 19, .mv (.t 1), none⟩,
                ⟨some 20, .mv (.t 1), none⟩,
                ⟨some 21, .len false (.t 20), none⟩,
                ⟨some 22, .bin .sub (.t 21) (.k (.c (.int .i64 16))), none⟩,
                ⟨some 23, .mv (.t 6), none⟩,
                ⟨some 24, .bin .add (.t 22) (.t 23), none⟩,
                ⟨some 25, .idxSlc 1 (.t 19) (.t 24), none⟩,
                ⟨some 26, .load1 (.t 25), none⟩,
                ⟨some 27, .idxArr 16 1 (.t 5) (.t 18), none⟩,
                ⟨none, .store 1 (.t 27) (.t 26), none⟩]))
        (.region
          [⟨some 16, .mv (.t 6), none⟩,
            ⟨some 17, .bin .add (.t 16) (.k (.c (.int .i64 1))), none⟩,
            ⟨some 6, .mv (.t 17), none⟩]))))))
  (.seq (.region
      [⟨some 7, .mv (.k (.c (.snil))), none⟩])
  (.seq (.seq (.region
        [⟨some 8, .mv (.k (.c (.int .i64 0))), none⟩])
    (.block 2
      (.loop
        (.seq (.seq (.region
              [⟨some 28, .mv (.t 8), none⟩,
                ⟨some 29, .mv (.t 0), none⟩,
                ⟨some 30, .bin .mul (.k (.c (.int .i64 2))) (.t 29), none⟩,
                ⟨some 31, .bin .lss (.t 28) (.t 30), none⟩])
          (.cond (.t 31)
            (.skip)
            (.exit 2)))
        (.seq (.block 3
            (.seq (.seq (.region
                  [⟨some 9, .mv (.k (.c (.int .i64 0))), none⟩])
              (.block 4
                (.loop
                  (.seq (.seq (.region
                        [⟨some 34, .mv (.t 9), none⟩,
                          ⟨some 35, .bin .lss (.t 34) (.k (.c (.int .i64 16))), none⟩])
                    (.cond (.t 35)
                      (.skip)
                      (.exit 4)))
                  (.seq (.block 5
                      (.draw
                        [⟨some 38, .mv (.t 9), none⟩,
                          ⟨some 39, .mv (.t 9), none⟩,
                          ⟨some 40, .idxArr 16 1 (.t 5) (.t 39), none⟩,
                          ⟨some 41, .load1 (.t 40), none⟩,
                          ⟨some 42, .mv (.t 1), none⟩,
                          ⟨some 43, .mv (.t 8), none⟩,
                          ⟨some 44, .bin .mul (.k (.c (.int .i64 16))) (.t 43), none⟩,
                          ⟨some 45, .mv (.t 9), none⟩,
                          ⟨some 46, .bin .add (.t 44) (.t 45), none⟩,
                          ⟨some 47, .idxSlc 1 (.t 42) (.t 46), none⟩,
                          ⟨some 48, .load1 (.t 47), none⟩,
                          ⟨some 49, .bin .xor (.t 41) (.t 48), none⟩]
                        [⟨some 50, .idxArr 16 1 (.t 5) (.t 38), none⟩,
                          ⟨none, .store 1 (.t 50) (.t 49), none⟩]))
                  (.region
                    [⟨some 36, .mv (.t 9), none⟩,
                      ⟨some 37, .bin .add (.t 36) (.k (.c (.int .i64 1))), none⟩,
                      ⟨some 9, .mv (.t 37), none⟩]))))))
            (.seq (.region
                [⟨some 51, .loadN 16 (.t 5), none⟩,
                  ⟨some 52, .call F_pestleref12_Core [.t 51, .k (.c (.int .i64 4))], none⟩,
                  ⟨none, .store 16 (.t 5) (.t 52), none⟩])
            (.region
              [⟨some 53, .mv (.t 7), none⟩,
                ⟨some 54, .loadN 16 (.t 5), none⟩,
                ⟨some 55, .buildSlice (rep 16 (.int .u32 0)) 16 1 [(0, 16, .t 54)], none⟩,
                ⟨some 56, .append (rep 16 (.int .u32 0)) 64 (.t 53) (.t 55), none⟩,
                ⟨some 7, .mv (.t 56), none⟩]))))
        (.region
          [⟨some 32, .mv (.t 8), none⟩,
            ⟨some 33, .bin .add (.t 32) (.k (.c (.int .i64 1))), none⟩,
            ⟨some 8, .mv (.t 33), none⟩]))))))
  (.seq (.region
      [⟨some 10, .mv (.k (.c (.snil))), none⟩])
  (.seq (.seq (.region
        [⟨some 11, .mv (.k (.c (.int .i64 0))), none⟩])
    (.block 6
      (.loop
        (.seq (.seq (.region
              [⟨some 57, .mv (.t 11), none⟩,
                ⟨some 58, .bin .lss (.t 57) (.k (.c (.int .i64 2))), none⟩])
          (.cond (.t 58)
            (.skip)
            (.exit 6)))
        (.seq (.block 7
            (.seq (.region
                [⟨some 61, .mv (.t 11), none⟩,
                  ⟨some 12, .mv (.t 61), none⟩])
            (.block 8
              (.loop
                (.seq (.seq (.region
                      [⟨some 62, .mv (.t 12), none⟩,
                        ⟨some 63, .mv (.t 0), none⟩,
                        ⟨some 64, .bin .mul (.k (.c (.int .i64 2))) (.t 63), none⟩,
                        ⟨some 65, .bin .lss (.t 62) (.t 64), none⟩])
                  (.cond (.t 65)
                    (.skip)
                    (.exit 8)))
                (.seq (.block 9
                    (.seq (.region
                        [⟨some 13, .mv (.k (.c (.int .i64 0))), none⟩])
                    (.block 10
                      (.loop
                        (.seq (.seq (.region
                              [⟨some 68, .mv (.t 13), none⟩,
                                ⟨some 69, .bin .lss (.t 68) (.k (.c (.int .i64 16))), none⟩])
                          (.cond (.t 69)
                            (.skip)
                            (.exit 10)))
                        (.seq (.block 11
                            (.region
                              [⟨some 72, .mv (.t 10), none⟩,
                                ⟨some 73, .mv (.t 7), none⟩,
                                ⟨some 74, .mv (.t 12), none⟩,
                                ⟨some 75, .mv (.t 13), none⟩,
                                ⟨some 76, .idxSlc 16 (.t 73) (.t 74), none⟩,
                                ⟨some 77, .idxArr 16 1 (.t 76) (.t 75), none⟩,
                                ⟨some 78, .load1 (.t 77), none⟩,
                                ⟨some 79, .buildSlice ([.int .u32 0]) 1 1 [(0, 1, .t 78)], none⟩,
                                ⟨some 80, .append ([.int .u32 0]) 4 (.t 72) (.t 79), none⟩,
                                ⟨some 10, .mv (.t 80), none⟩]))
                        (.region
                          [⟨some 70, .mv (.t 13), none⟩,
                            ⟨some 71, .bin .add (.t 70) (.k (.c (.int .i64 1))), none⟩,
                            ⟨some 13, .mv (.t 71), none⟩])))))))
                (.region
                  [⟨some 66, .mv (.t 12), none⟩,
                    ⟨some 67, .bin .add (.t 66) (.k (.c (.int .i64 2))), none⟩,
                    ⟨some 12, .mv (.t 67), none⟩])))))))
        (.region
          [⟨some 59, .mv (.t 11), none⟩,
            ⟨some 60, .bin .add (.t 59) (.k (.c (.int .i64 1))), none⟩,
            ⟨some 11, .mv (.t 60), none⟩]))))))
  (.seq (.region
      [⟨some 81, .mv (.t 10), none⟩,
        ⟨some 4, .mv (.t 81), none⟩])
  (.ret)))))))))
theorem t_pestleref23_Mix : A F_pestleref23_Mix = some c_pestleref23_Mix := by kernel_rfl

noncomputable def c_pestleref23_Integer : AFn := AFn.mk 21 [.tmp 4]
  (.seq (.region
      [⟨some 4, .mv (.k (.c (.int .u64 0))), none⟩])
  (.seq (.draw
      [⟨some 5, .mv (.t 1), none⟩,
        ⟨some 6, .mv (.t 0), none⟩,
        ⟨some 7, .bin .mul (.k (.c (.int .i64 32))) (.t 6), none⟩,
        ⟨some 8, .bin .sub (.t 7) (.k (.c (.int .i64 16))), none⟩,
        ⟨some 9, .idxSlc 1 (.t 5) (.t 8), none⟩,
        ⟨some 10, .load1 (.t 9), none⟩,
        ⟨some 11, .convInt .u64 (.t 10), none⟩,
        ⟨some 12, .mv (.t 1), none⟩,
        ⟨some 13, .mv (.t 0), none⟩,
        ⟨some 14, .bin .mul (.k (.c (.int .i64 32))) (.t 13), none⟩,
        ⟨some 15, .bin .sub (.t 14) (.k (.c (.int .i64 15))), none⟩,
        ⟨some 16, .idxSlc 1 (.t 12) (.t 15), none⟩,
        ⟨some 17, .load1 (.t 16), none⟩,
        ⟨some 18, .convInt .u64 (.t 17), none⟩,
        ⟨some 19, .bin .mul (.k (.c (.int .u64 4294967296))) (.t 18), none⟩]
      [⟨some 20, .bin .add (.t 11) (.t 19), none⟩,
        ⟨some 4, .mv (.t 20), none⟩])
  (.ret)))
theorem t_pestleref23_Integer : A F_pestleref23_Integer = some c_pestleref23_Integer := by kernel_rfl
end PK

/- Package shuffle and the document's: Check, Why, Integer: walked. -/
namespace PK
open Go PAbs
set_option linter.unusedSimpArgs false
set_option linter.unusedVariables false
set_option maxRecDepth 100000
set_option maxHeartbeats 2000000

/-- why words are no row -/
def whyE (z : Int) (n : Nat) : Int := if z < 1 ∨ z > 512 then 2 else if (n : Int) ≠ 32 * z then 9 else 0
theorem whyE_zero {z : Int} {n : Nat} (h : whyE z n = 0) : 1 ≤ z ∧ z ≤ 512 ∧ (n : Int) = 32 * z := by
  simp only [whyE] at h
  split at h
  · cases h
  · split at h
    · cases h
    · omega

section
variable (H : AHeap) (y : Cell) (ls : List Nat) (z : Int) (hy : Rd H y 1 (W32 ls))
include hy
theorem AC_shCheck : AC A H.length F_shuffle_Check [.c (.int .i64 z), .c y] H (fun v H' => v = .c (.int .i64 (whyE z ls.length)) ∧ H = H') := by
  have yl : (W32 ls).length = ls.length := W32_length
  refine AC_enter t_shuffle_Check ?_; simp only [c_shuffle_Check, enterA, List.replicate, List.length_cons, List.length_nil, Nat.reduceAdd, Nat.reduceSub, List.cons_append, List.nil_append]
  rcases Decidable.em (z < 1) with h1 | h1
  · (repeat (first | with_reducible refine thenQ_n ?_ | with_reducible refine blockQ_n ?_ | refine AW_skip ?_ | refine AW_seq ?_ | refine AW_ops ?_ | refine AW_blockS ?_ | refine AW_blockR ?_ | refine AW_blockD ?_ | refine AW_blockC ?_ | refine AO_nil ?_ | refine AW_draw ?_ | refine AHd_nil ?_ | ((first | with_reducible apply AO_pre | with_reducible apply AHd_pre); focus (simp only [List.take_succ_cons, List.take_zero, List.drop_succ_cons, List.drop_zero, bne_self_eq_false, List.map_cons, List.map_nil, Bool.true_beq, Bool.false_beq, run_nil, run_cons, run_gate, cont_some, gate_true, gate_false, hrun_nil, hrun_cons, hrun_gate, hcont_some, hgate_true, hgate_false, put_some, put_none, ev_t, ev_k, wantedA, execA, stepA, List.set_cons_succ, List.set_cons_zero, List.getD_cons_succ, List.getD_cons_zero, List.getElem?_cons_zero, List.getElem?_cons_succ, if_true, if_false, binA, binInt, unA, eqA, Option.map, eq_self, true_or, or_true, true_and, and_true, and_self, beq_self_eq_true, Bool.not_true, Bool.not_false, reduceCtorEq, Bool.false_eq_true, ite_true, ite_false, fitsAll, CK.fits, decide_true, Bool.and_true, Bool.true_and, fillA, AV.cells, writeN, readN, sliceCells, appendA, lenA, i64, loA, hiA, hcells_last, hown_last, List.take_zero, List.drop_zero, List.nil_append, List.cons_append, List.append_nil, List.take_nil, List.drop_nil, List.length_cons, List.length_nil, List.length_append, Nat.zero_add, Nat.add_zero, Nat.reduceAdd, Nat.reduceMul, Nat.reduceDiv, Nat.reduceSub, Nat.mul_one, Nat.one_mul, Nat.div_one, Nat.le_refl, Nat.reduceLeDiff, Nat.reduceLT, Int.toNat_natCast, Int.toNat_zero, Nat.zero_le, Int.natCast_nonneg, Int.reduceLE, Int.reduceLT, Option.some.injEq, foldA, maxA, minA, Cell.int.injEq, AV.c.injEq, pre_nil, pre_cons, pre_gate, pre1_cons, pre1_gate, qstop_true, qstop_false, qstopg_false, qgate_true, qgate_false, pcont_some, pstop_true, pstop_false, pstopg_false, pgate_true, pgate_false, hpre_nil, hpre_cons, hpre_gate, hpre1_cons, hpre1_gate, hqstop_true, hqstop_false, hqstopg_false, hqgate_true, hqgate_false, hpcont_some, hpstop_true, hpstop_false, hpstopg_false, hpgate_true, hpgate_false, Int.reduceBEq, Int.reduceBNe, Int.reduceGT, Int.reduceGE, Int.reduceEq, Int.reduceNe, decide_false, nat_0, nat_1, nat_2, nat_3, nat_4, nat_8, nat_16, nat_64, nat_128, Int.reduceToNat, AOp.stops, pre1_nil, hpre1_nil, ↓want_eq, wantV_bool, wantV_undef, ↓exec_lenX, lenX_snil, lenX_slc, decide_eq_true h1]; with_reducible rfl))))
    refine AW_cond (t := true) rfl (fun _ => ?_) (fun h => by cases h)
    (repeat (first | with_reducible refine thenQ_n ?_ | with_reducible refine blockQ_n ?_ | refine AW_skip ?_ | refine AW_seq ?_ | refine AW_ops ?_ | refine AW_blockS ?_ | refine AW_blockR ?_ | refine AW_blockD ?_ | refine AW_blockC ?_ | refine AO_nil ?_ | refine AW_draw ?_ | refine AHd_nil ?_ | ((first | with_reducible apply AO_pre | with_reducible apply AHd_pre); focus (simp only [List.take_succ_cons, List.take_zero, List.drop_succ_cons, List.drop_zero, bne_self_eq_false, List.map_cons, List.map_nil, Bool.true_beq, Bool.false_beq, run_nil, run_cons, run_gate, cont_some, gate_true, gate_false, hrun_nil, hrun_cons, hrun_gate, hcont_some, hgate_true, hgate_false, put_some, put_none, ev_t, ev_k, wantedA, execA, stepA, List.set_cons_succ, List.set_cons_zero, List.getD_cons_succ, List.getD_cons_zero, List.getElem?_cons_zero, List.getElem?_cons_succ, if_true, if_false, binA, binInt, unA, eqA, Option.map, eq_self, true_or, or_true, true_and, and_true, and_self, beq_self_eq_true, Bool.not_true, Bool.not_false, reduceCtorEq, Bool.false_eq_true, ite_true, ite_false, fitsAll, CK.fits, decide_true, Bool.and_true, Bool.true_and, fillA, AV.cells, writeN, readN, sliceCells, appendA, lenA, i64, loA, hiA, hcells_last, hown_last, List.take_zero, List.drop_zero, List.nil_append, List.cons_append, List.append_nil, List.take_nil, List.drop_nil, List.length_cons, List.length_nil, List.length_append, Nat.zero_add, Nat.add_zero, Nat.reduceAdd, Nat.reduceMul, Nat.reduceDiv, Nat.reduceSub, Nat.mul_one, Nat.one_mul, Nat.div_one, Nat.le_refl, Nat.reduceLeDiff, Nat.reduceLT, Int.toNat_natCast, Int.toNat_zero, Nat.zero_le, Int.natCast_nonneg, Int.reduceLE, Int.reduceLT, Option.some.injEq, foldA, maxA, minA, Cell.int.injEq, AV.c.injEq, pre_nil, pre_cons, pre_gate, pre1_cons, pre1_gate, qstop_true, qstop_false, qstopg_false, qgate_true, qgate_false, pcont_some, pstop_true, pstop_false, pstopg_false, pgate_true, pgate_false, hpre_nil, hpre_cons, hpre_gate, hpre1_cons, hpre1_gate, hqstop_true, hqstop_false, hqstopg_false, hqgate_true, hqgate_false, hpcont_some, hpstop_true, hpstop_false, hpstopg_false, hpgate_true, hpgate_false, Int.reduceBEq, Int.reduceBNe, Int.reduceGT, Int.reduceGE, Int.reduceEq, Int.reduceNe, decide_false, nat_0, nat_1, nat_2, nat_3, nat_4, nat_8, nat_16, nat_64, nat_128, Int.reduceToNat, AOp.stops, pre1_nil, hpre1_nil, ↓want_eq, wantV_bool, wantV_undef, ↓exec_lenX, lenX_snil, lenX_slc]; with_reducible rfl))))
    exact AW_ret ⟨_, rfl, by simp only [whyE, if_pos (Or.inl h1 : z < 1 ∨ z > 512)]; rfl, rfl⟩
  rcases Decidable.em (z > 512) with h2 | h2
  · (repeat (first | with_reducible refine thenQ_n ?_ | with_reducible refine blockQ_n ?_ | refine AW_skip ?_ | refine AW_seq ?_ | refine AW_ops ?_ | refine AW_blockS ?_ | refine AW_blockR ?_ | refine AW_blockD ?_ | refine AW_blockC ?_ | refine AO_nil ?_ | refine AW_draw ?_ | refine AHd_nil ?_ | ((first | with_reducible apply AO_pre | with_reducible apply AHd_pre); focus (simp only [List.take_succ_cons, List.take_zero, List.drop_succ_cons, List.drop_zero, bne_self_eq_false, List.map_cons, List.map_nil, Bool.true_beq, Bool.false_beq, run_nil, run_cons, run_gate, cont_some, gate_true, gate_false, hrun_nil, hrun_cons, hrun_gate, hcont_some, hgate_true, hgate_false, put_some, put_none, ev_t, ev_k, wantedA, execA, stepA, List.set_cons_succ, List.set_cons_zero, List.getD_cons_succ, List.getD_cons_zero, List.getElem?_cons_zero, List.getElem?_cons_succ, if_true, if_false, binA, binInt, unA, eqA, Option.map, eq_self, true_or, or_true, true_and, and_true, and_self, beq_self_eq_true, Bool.not_true, Bool.not_false, reduceCtorEq, Bool.false_eq_true, ite_true, ite_false, fitsAll, CK.fits, decide_true, Bool.and_true, Bool.true_and, fillA, AV.cells, writeN, readN, sliceCells, appendA, lenA, i64, loA, hiA, hcells_last, hown_last, List.take_zero, List.drop_zero, List.nil_append, List.cons_append, List.append_nil, List.take_nil, List.drop_nil, List.length_cons, List.length_nil, List.length_append, Nat.zero_add, Nat.add_zero, Nat.reduceAdd, Nat.reduceMul, Nat.reduceDiv, Nat.reduceSub, Nat.mul_one, Nat.one_mul, Nat.div_one, Nat.le_refl, Nat.reduceLeDiff, Nat.reduceLT, Int.toNat_natCast, Int.toNat_zero, Nat.zero_le, Int.natCast_nonneg, Int.reduceLE, Int.reduceLT, Option.some.injEq, foldA, maxA, minA, Cell.int.injEq, AV.c.injEq, pre_nil, pre_cons, pre_gate, pre1_cons, pre1_gate, qstop_true, qstop_false, qstopg_false, qgate_true, qgate_false, pcont_some, pstop_true, pstop_false, pstopg_false, pgate_true, pgate_false, hpre_nil, hpre_cons, hpre_gate, hpre1_cons, hpre1_gate, hqstop_true, hqstop_false, hqstopg_false, hqgate_true, hqgate_false, hpcont_some, hpstop_true, hpstop_false, hpstopg_false, hpgate_true, hpgate_false, Int.reduceBEq, Int.reduceBNe, Int.reduceGT, Int.reduceGE, Int.reduceEq, Int.reduceNe, decide_false, nat_0, nat_1, nat_2, nat_3, nat_4, nat_8, nat_16, nat_64, nat_128, Int.reduceToNat, AOp.stops, pre1_nil, hpre1_nil, ↓want_eq, wantV_bool, wantV_undef, ↓exec_lenX, lenX_snil, lenX_slc, decide_eq_false h1, decide_eq_true h2]; with_reducible rfl))))
    refine AW_cond (t := true) rfl (fun _ => ?_) (fun h => by cases h)
    (repeat (first | with_reducible refine thenQ_n ?_ | with_reducible refine blockQ_n ?_ | refine AW_skip ?_ | refine AW_seq ?_ | refine AW_ops ?_ | refine AW_blockS ?_ | refine AW_blockR ?_ | refine AW_blockD ?_ | refine AW_blockC ?_ | refine AO_nil ?_ | refine AW_draw ?_ | refine AHd_nil ?_ | ((first | with_reducible apply AO_pre | with_reducible apply AHd_pre); focus (simp only [List.take_succ_cons, List.take_zero, List.drop_succ_cons, List.drop_zero, bne_self_eq_false, List.map_cons, List.map_nil, Bool.true_beq, Bool.false_beq, run_nil, run_cons, run_gate, cont_some, gate_true, gate_false, hrun_nil, hrun_cons, hrun_gate, hcont_some, hgate_true, hgate_false, put_some, put_none, ev_t, ev_k, wantedA, execA, stepA, List.set_cons_succ, List.set_cons_zero, List.getD_cons_succ, List.getD_cons_zero, List.getElem?_cons_zero, List.getElem?_cons_succ, if_true, if_false, binA, binInt, unA, eqA, Option.map, eq_self, true_or, or_true, true_and, and_true, and_self, beq_self_eq_true, Bool.not_true, Bool.not_false, reduceCtorEq, Bool.false_eq_true, ite_true, ite_false, fitsAll, CK.fits, decide_true, Bool.and_true, Bool.true_and, fillA, AV.cells, writeN, readN, sliceCells, appendA, lenA, i64, loA, hiA, hcells_last, hown_last, List.take_zero, List.drop_zero, List.nil_append, List.cons_append, List.append_nil, List.take_nil, List.drop_nil, List.length_cons, List.length_nil, List.length_append, Nat.zero_add, Nat.add_zero, Nat.reduceAdd, Nat.reduceMul, Nat.reduceDiv, Nat.reduceSub, Nat.mul_one, Nat.one_mul, Nat.div_one, Nat.le_refl, Nat.reduceLeDiff, Nat.reduceLT, Int.toNat_natCast, Int.toNat_zero, Nat.zero_le, Int.natCast_nonneg, Int.reduceLE, Int.reduceLT, Option.some.injEq, foldA, maxA, minA, Cell.int.injEq, AV.c.injEq, pre_nil, pre_cons, pre_gate, pre1_cons, pre1_gate, qstop_true, qstop_false, qstopg_false, qgate_true, qgate_false, pcont_some, pstop_true, pstop_false, pstopg_false, pgate_true, pgate_false, hpre_nil, hpre_cons, hpre_gate, hpre1_cons, hpre1_gate, hqstop_true, hqstop_false, hqstopg_false, hqgate_true, hqgate_false, hpcont_some, hpstop_true, hpstop_false, hpstopg_false, hpgate_true, hpgate_false, Int.reduceBEq, Int.reduceBNe, Int.reduceGT, Int.reduceGE, Int.reduceEq, Int.reduceNe, decide_false, nat_0, nat_1, nat_2, nat_3, nat_4, nat_8, nat_16, nat_64, nat_128, Int.reduceToNat, AOp.stops, pre1_nil, hpre1_nil, ↓want_eq, wantV_bool, wantV_undef, ↓exec_lenX, lenX_snil, lenX_slc]; with_reducible rfl))))
    exact AW_ret ⟨_, rfl, by simp only [whyE, if_pos (Or.inr h2 : z < 1 ∨ z > 512)]; rfl, rfl⟩
  have hno : ¬ (z < 1 ∨ z > 512) := by omega
  have e : IntKind.i64.wrap (32 * z) = 32 * z := i64_of (by omega) (by omega)
  (repeat (first | with_reducible refine thenQ_n ?_ | with_reducible refine blockQ_n ?_ | refine AW_skip ?_ | refine AW_seq ?_ | refine AW_ops ?_ | refine AW_blockS ?_ | refine AW_blockR ?_ | refine AW_blockD ?_ | refine AW_blockC ?_ | refine AO_nil ?_ | refine AW_draw ?_ | refine AHd_nil ?_ | ((first | with_reducible apply AO_pre | with_reducible apply AHd_pre); focus (simp only [List.take_succ_cons, List.take_zero, List.drop_succ_cons, List.drop_zero, bne_self_eq_false, List.map_cons, List.map_nil, Bool.true_beq, Bool.false_beq, run_nil, run_cons, run_gate, cont_some, gate_true, gate_false, hrun_nil, hrun_cons, hrun_gate, hcont_some, hgate_true, hgate_false, put_some, put_none, ev_t, ev_k, wantedA, execA, stepA, List.set_cons_succ, List.set_cons_zero, List.getD_cons_succ, List.getD_cons_zero, List.getElem?_cons_zero, List.getElem?_cons_succ, if_true, if_false, binA, binInt, unA, eqA, Option.map, eq_self, true_or, or_true, true_and, and_true, and_self, beq_self_eq_true, Bool.not_true, Bool.not_false, reduceCtorEq, Bool.false_eq_true, ite_true, ite_false, fitsAll, CK.fits, decide_true, Bool.and_true, Bool.true_and, fillA, AV.cells, writeN, readN, sliceCells, appendA, lenA, i64, loA, hiA, hcells_last, hown_last, List.take_zero, List.drop_zero, List.nil_append, List.cons_append, List.append_nil, List.take_nil, List.drop_nil, List.length_cons, List.length_nil, List.length_append, Nat.zero_add, Nat.add_zero, Nat.reduceAdd, Nat.reduceMul, Nat.reduceDiv, Nat.reduceSub, Nat.mul_one, Nat.one_mul, Nat.div_one, Nat.le_refl, Nat.reduceLeDiff, Nat.reduceLT, Int.toNat_natCast, Int.toNat_zero, Nat.zero_le, Int.natCast_nonneg, Int.reduceLE, Int.reduceLT, Option.some.injEq, foldA, maxA, minA, Cell.int.injEq, AV.c.injEq, pre_nil, pre_cons, pre_gate, pre1_cons, pre1_gate, qstop_true, qstop_false, qstopg_false, qgate_true, qgate_false, pcont_some, pstop_true, pstop_false, pstopg_false, pgate_true, pgate_false, hpre_nil, hpre_cons, hpre_gate, hpre1_cons, hpre1_gate, hqstop_true, hqstop_false, hqstopg_false, hqgate_true, hqgate_false, hpcont_some, hpstop_true, hpstop_false, hpstopg_false, hpgate_true, hpgate_false, Int.reduceBEq, Int.reduceBNe, Int.reduceGT, Int.reduceGE, Int.reduceEq, Int.reduceNe, decide_false, nat_0, nat_1, nat_2, nat_3, nat_4, nat_8, nat_16, nat_64, nat_128, Int.reduceToNat, AOp.stops, pre1_nil, hpre1_nil, ↓want_eq, wantV_bool, wantV_undef, ↓exec_lenX, lenX_snil, lenX_slc, decide_eq_false h1, decide_eq_false h2]; with_reducible rfl))))
  refine AW_cond (t := false) rfl (fun h => by cases h) fun _ => ?_
  by_cases hn : (ls.length : Int) = 32 * z
  · have c : ((ls.length : Int) != 32 * z) = false := by rw [hn]; exact bne_self_eq_false _
    (repeat (first | with_reducible refine thenQ_n ?_ | with_reducible refine blockQ_n ?_ | refine AW_skip ?_ | refine AW_seq ?_ | refine AW_ops ?_ | refine AW_blockS ?_ | refine AW_blockR ?_ | refine AW_blockD ?_ | refine AW_blockC ?_ | refine AO_nil ?_ | refine AW_draw ?_ | refine AHd_nil ?_ | ((first | with_reducible apply AO_pre | with_reducible apply AHd_pre); focus (simp only [List.take_succ_cons, List.take_zero, List.drop_succ_cons, List.drop_zero, bne_self_eq_false, List.map_cons, List.map_nil, Bool.true_beq, Bool.false_beq, run_nil, run_cons, run_gate, cont_some, gate_true, gate_false, hrun_nil, hrun_cons, hrun_gate, hcont_some, hgate_true, hgate_false, put_some, put_none, ev_t, ev_k, wantedA, execA, stepA, List.set_cons_succ, List.set_cons_zero, List.getD_cons_succ, List.getD_cons_zero, List.getElem?_cons_zero, List.getElem?_cons_succ, if_true, if_false, binA, binInt, unA, eqA, Option.map, eq_self, true_or, or_true, true_and, and_true, and_self, beq_self_eq_true, Bool.not_true, Bool.not_false, reduceCtorEq, Bool.false_eq_true, ite_true, ite_false, fitsAll, CK.fits, decide_true, Bool.and_true, Bool.true_and, fillA, AV.cells, writeN, readN, sliceCells, appendA, lenA, i64, loA, hiA, hcells_last, hown_last, List.take_zero, List.drop_zero, List.nil_append, List.cons_append, List.append_nil, List.take_nil, List.drop_nil, List.length_cons, List.length_nil, List.length_append, Nat.zero_add, Nat.add_zero, Nat.reduceAdd, Nat.reduceMul, Nat.reduceDiv, Nat.reduceSub, Nat.mul_one, Nat.one_mul, Nat.div_one, Nat.le_refl, Nat.reduceLeDiff, Nat.reduceLT, Int.toNat_natCast, Int.toNat_zero, Nat.zero_le, Int.natCast_nonneg, Int.reduceLE, Int.reduceLT, Option.some.injEq, foldA, maxA, minA, Cell.int.injEq, AV.c.injEq, pre_nil, pre_cons, pre_gate, pre1_cons, pre1_gate, qstop_true, qstop_false, qstopg_false, qgate_true, qgate_false, pcont_some, pstop_true, pstop_false, pstopg_false, pgate_true, pgate_false, hpre_nil, hpre_cons, hpre_gate, hpre1_cons, hpre1_gate, hqstop_true, hqstop_false, hqstopg_false, hqgate_true, hqgate_false, hpcont_some, hpstop_true, hpstop_false, hpstopg_false, hpgate_true, hpgate_false, Int.reduceBEq, Int.reduceBNe, Int.reduceGT, Int.reduceGE, Int.reduceEq, Int.reduceNe, decide_false, nat_0, nat_1, nat_2, nat_3, nat_4, nat_8, nat_16, nat_64, nat_128, Int.reduceToNat, AOp.stops, pre1_nil, hpre1_nil, ↓want_eq, wantV_bool, wantV_undef, ↓exec_lenX, lenX_snil, lenX_slc, hy.len1 _ yl, e, c]; with_reducible rfl))))
    refine AW_cond (t := false) rfl (fun h => by cases h) fun _ => ?_
    (repeat (first | with_reducible refine thenQ_n ?_ | with_reducible refine blockQ_n ?_ | refine AW_skip ?_ | refine AW_seq ?_ | refine AW_ops ?_ | refine AW_blockS ?_ | refine AW_blockR ?_ | refine AW_blockD ?_ | refine AW_blockC ?_ | refine AO_nil ?_ | refine AW_draw ?_ | refine AHd_nil ?_ | ((first | with_reducible apply AO_pre | with_reducible apply AHd_pre); focus (simp only [List.take_succ_cons, List.take_zero, List.drop_succ_cons, List.drop_zero, bne_self_eq_false, List.map_cons, List.map_nil, Bool.true_beq, Bool.false_beq, run_nil, run_cons, run_gate, cont_some, gate_true, gate_false, hrun_nil, hrun_cons, hrun_gate, hcont_some, hgate_true, hgate_false, put_some, put_none, ev_t, ev_k, wantedA, execA, stepA, List.set_cons_succ, List.set_cons_zero, List.getD_cons_succ, List.getD_cons_zero, List.getElem?_cons_zero, List.getElem?_cons_succ, if_true, if_false, binA, binInt, unA, eqA, Option.map, eq_self, true_or, or_true, true_and, and_true, and_self, beq_self_eq_true, Bool.not_true, Bool.not_false, reduceCtorEq, Bool.false_eq_true, ite_true, ite_false, fitsAll, CK.fits, decide_true, Bool.and_true, Bool.true_and, fillA, AV.cells, writeN, readN, sliceCells, appendA, lenA, i64, loA, hiA, hcells_last, hown_last, List.take_zero, List.drop_zero, List.nil_append, List.cons_append, List.append_nil, List.take_nil, List.drop_nil, List.length_cons, List.length_nil, List.length_append, Nat.zero_add, Nat.add_zero, Nat.reduceAdd, Nat.reduceMul, Nat.reduceDiv, Nat.reduceSub, Nat.mul_one, Nat.one_mul, Nat.div_one, Nat.le_refl, Nat.reduceLeDiff, Nat.reduceLT, Int.toNat_natCast, Int.toNat_zero, Nat.zero_le, Int.natCast_nonneg, Int.reduceLE, Int.reduceLT, Option.some.injEq, foldA, maxA, minA, Cell.int.injEq, AV.c.injEq, pre_nil, pre_cons, pre_gate, pre1_cons, pre1_gate, qstop_true, qstop_false, qstopg_false, qgate_true, qgate_false, pcont_some, pstop_true, pstop_false, pstopg_false, pgate_true, pgate_false, hpre_nil, hpre_cons, hpre_gate, hpre1_cons, hpre1_gate, hqstop_true, hqstop_false, hqstopg_false, hqgate_true, hqgate_false, hpcont_some, hpstop_true, hpstop_false, hpstopg_false, hpgate_true, hpgate_false, Int.reduceBEq, Int.reduceBNe, Int.reduceGT, Int.reduceGE, Int.reduceEq, Int.reduceNe, decide_false, nat_0, nat_1, nat_2, nat_3, nat_4, nat_8, nat_16, nat_64, nat_128, Int.reduceToNat, AOp.stops, pre1_nil, hpre1_nil, ↓want_eq, wantV_bool, wantV_undef, ↓exec_lenX, lenX_snil, lenX_slc]; with_reducible rfl))))
    exact AW_ret ⟨_, rfl, by simp only [whyE, if_neg hno, ne_eq, hn, not_true_eq_false, if_false]; rfl, rfl⟩
  · have c : ((ls.length : Int) != 32 * z) = true := bne_iff_ne.mpr hn
    (repeat (first | with_reducible refine thenQ_n ?_ | with_reducible refine blockQ_n ?_ | refine AW_skip ?_ | refine AW_seq ?_ | refine AW_ops ?_ | refine AW_blockS ?_ | refine AW_blockR ?_ | refine AW_blockD ?_ | refine AW_blockC ?_ | refine AO_nil ?_ | refine AW_draw ?_ | refine AHd_nil ?_ | ((first | with_reducible apply AO_pre | with_reducible apply AHd_pre); focus (simp only [List.take_succ_cons, List.take_zero, List.drop_succ_cons, List.drop_zero, bne_self_eq_false, List.map_cons, List.map_nil, Bool.true_beq, Bool.false_beq, run_nil, run_cons, run_gate, cont_some, gate_true, gate_false, hrun_nil, hrun_cons, hrun_gate, hcont_some, hgate_true, hgate_false, put_some, put_none, ev_t, ev_k, wantedA, execA, stepA, List.set_cons_succ, List.set_cons_zero, List.getD_cons_succ, List.getD_cons_zero, List.getElem?_cons_zero, List.getElem?_cons_succ, if_true, if_false, binA, binInt, unA, eqA, Option.map, eq_self, true_or, or_true, true_and, and_true, and_self, beq_self_eq_true, Bool.not_true, Bool.not_false, reduceCtorEq, Bool.false_eq_true, ite_true, ite_false, fitsAll, CK.fits, decide_true, Bool.and_true, Bool.true_and, fillA, AV.cells, writeN, readN, sliceCells, appendA, lenA, i64, loA, hiA, hcells_last, hown_last, List.take_zero, List.drop_zero, List.nil_append, List.cons_append, List.append_nil, List.take_nil, List.drop_nil, List.length_cons, List.length_nil, List.length_append, Nat.zero_add, Nat.add_zero, Nat.reduceAdd, Nat.reduceMul, Nat.reduceDiv, Nat.reduceSub, Nat.mul_one, Nat.one_mul, Nat.div_one, Nat.le_refl, Nat.reduceLeDiff, Nat.reduceLT, Int.toNat_natCast, Int.toNat_zero, Nat.zero_le, Int.natCast_nonneg, Int.reduceLE, Int.reduceLT, Option.some.injEq, foldA, maxA, minA, Cell.int.injEq, AV.c.injEq, pre_nil, pre_cons, pre_gate, pre1_cons, pre1_gate, qstop_true, qstop_false, qstopg_false, qgate_true, qgate_false, pcont_some, pstop_true, pstop_false, pstopg_false, pgate_true, pgate_false, hpre_nil, hpre_cons, hpre_gate, hpre1_cons, hpre1_gate, hqstop_true, hqstop_false, hqstopg_false, hqgate_true, hqgate_false, hpcont_some, hpstop_true, hpstop_false, hpstopg_false, hpgate_true, hpgate_false, Int.reduceBEq, Int.reduceBNe, Int.reduceGT, Int.reduceGE, Int.reduceEq, Int.reduceNe, decide_false, nat_0, nat_1, nat_2, nat_3, nat_4, nat_8, nat_16, nat_64, nat_128, Int.reduceToNat, AOp.stops, pre1_nil, hpre1_nil, ↓want_eq, wantV_bool, wantV_undef, ↓exec_lenX, lenX_snil, lenX_slc, hy.len1 _ yl, e, c]; with_reducible rfl))))
    refine AW_cond (t := true) rfl (fun _ => ?_) (fun h => by cases h)
    (repeat (first | with_reducible refine thenQ_n ?_ | with_reducible refine blockQ_n ?_ | refine AW_skip ?_ | refine AW_seq ?_ | refine AW_ops ?_ | refine AW_blockS ?_ | refine AW_blockR ?_ | refine AW_blockD ?_ | refine AW_blockC ?_ | refine AO_nil ?_ | refine AW_draw ?_ | refine AHd_nil ?_ | ((first | with_reducible apply AO_pre | with_reducible apply AHd_pre); focus (simp only [List.take_succ_cons, List.take_zero, List.drop_succ_cons, List.drop_zero, bne_self_eq_false, List.map_cons, List.map_nil, Bool.true_beq, Bool.false_beq, run_nil, run_cons, run_gate, cont_some, gate_true, gate_false, hrun_nil, hrun_cons, hrun_gate, hcont_some, hgate_true, hgate_false, put_some, put_none, ev_t, ev_k, wantedA, execA, stepA, List.set_cons_succ, List.set_cons_zero, List.getD_cons_succ, List.getD_cons_zero, List.getElem?_cons_zero, List.getElem?_cons_succ, if_true, if_false, binA, binInt, unA, eqA, Option.map, eq_self, true_or, or_true, true_and, and_true, and_self, beq_self_eq_true, Bool.not_true, Bool.not_false, reduceCtorEq, Bool.false_eq_true, ite_true, ite_false, fitsAll, CK.fits, decide_true, Bool.and_true, Bool.true_and, fillA, AV.cells, writeN, readN, sliceCells, appendA, lenA, i64, loA, hiA, hcells_last, hown_last, List.take_zero, List.drop_zero, List.nil_append, List.cons_append, List.append_nil, List.take_nil, List.drop_nil, List.length_cons, List.length_nil, List.length_append, Nat.zero_add, Nat.add_zero, Nat.reduceAdd, Nat.reduceMul, Nat.reduceDiv, Nat.reduceSub, Nat.mul_one, Nat.one_mul, Nat.div_one, Nat.le_refl, Nat.reduceLeDiff, Nat.reduceLT, Int.toNat_natCast, Int.toNat_zero, Nat.zero_le, Int.natCast_nonneg, Int.reduceLE, Int.reduceLT, Option.some.injEq, foldA, maxA, minA, Cell.int.injEq, AV.c.injEq, pre_nil, pre_cons, pre_gate, pre1_cons, pre1_gate, qstop_true, qstop_false, qstopg_false, qgate_true, qgate_false, pcont_some, pstop_true, pstop_false, pstopg_false, pgate_true, pgate_false, hpre_nil, hpre_cons, hpre_gate, hpre1_cons, hpre1_gate, hqstop_true, hqstop_false, hqstopg_false, hqgate_true, hqgate_false, hpcont_some, hpstop_true, hpstop_false, hpstopg_false, hpgate_true, hpgate_false, Int.reduceBEq, Int.reduceBNe, Int.reduceGT, Int.reduceGE, Int.reduceEq, Int.reduceNe, decide_false, nat_0, nat_1, nat_2, nat_3, nat_4, nat_8, nat_16, nat_64, nat_128, Int.reduceToNat, AOp.stops, pre1_nil, hpre1_nil, ↓want_eq, wantV_bool, wantV_undef, ↓exec_lenX, lenX_snil, lenX_slc]; with_reducible rfl))))
    exact AW_ret ⟨_, rfl, by simp only [whyE, if_neg hno, ne_eq, hn, not_false_eq_true, if_true]; rfl, rfl⟩
theorem AC_refWhy23 : AC A H.length F_pestleref23_Why [.c (.int .i64 z), .c y] H (fun v H' => v = .c (.int .i64 (whyE z ls.length)) ∧ H = H') := by
  have yl : (W32 ls).length = ls.length := W32_length
  refine AC_enter t_pestleref23_Why ?_; simp only [c_pestleref23_Why, enterA, List.replicate, List.length_cons, List.length_nil, Nat.reduceAdd, Nat.reduceSub, List.cons_append, List.nil_append]
  rcases Decidable.em (z < 1) with h1 | h1
  · (repeat (first | with_reducible refine thenQ_n ?_ | with_reducible refine blockQ_n ?_ | refine AW_skip ?_ | refine AW_seq ?_ | refine AW_ops ?_ | refine AW_blockS ?_ | refine AW_blockR ?_ | refine AW_blockD ?_ | refine AW_blockC ?_ | refine AO_nil ?_ | refine AW_draw ?_ | refine AHd_nil ?_ | ((first | with_reducible apply AO_pre | with_reducible apply AHd_pre); focus (simp only [List.take_succ_cons, List.take_zero, List.drop_succ_cons, List.drop_zero, bne_self_eq_false, List.map_cons, List.map_nil, Bool.true_beq, Bool.false_beq, run_nil, run_cons, run_gate, cont_some, gate_true, gate_false, hrun_nil, hrun_cons, hrun_gate, hcont_some, hgate_true, hgate_false, put_some, put_none, ev_t, ev_k, wantedA, execA, stepA, List.set_cons_succ, List.set_cons_zero, List.getD_cons_succ, List.getD_cons_zero, List.getElem?_cons_zero, List.getElem?_cons_succ, if_true, if_false, binA, binInt, unA, eqA, Option.map, eq_self, true_or, or_true, true_and, and_true, and_self, beq_self_eq_true, Bool.not_true, Bool.not_false, reduceCtorEq, Bool.false_eq_true, ite_true, ite_false, fitsAll, CK.fits, decide_true, Bool.and_true, Bool.true_and, fillA, AV.cells, writeN, readN, sliceCells, appendA, lenA, i64, loA, hiA, hcells_last, hown_last, List.take_zero, List.drop_zero, List.nil_append, List.cons_append, List.append_nil, List.take_nil, List.drop_nil, List.length_cons, List.length_nil, List.length_append, Nat.zero_add, Nat.add_zero, Nat.reduceAdd, Nat.reduceMul, Nat.reduceDiv, Nat.reduceSub, Nat.mul_one, Nat.one_mul, Nat.div_one, Nat.le_refl, Nat.reduceLeDiff, Nat.reduceLT, Int.toNat_natCast, Int.toNat_zero, Nat.zero_le, Int.natCast_nonneg, Int.reduceLE, Int.reduceLT, Option.some.injEq, foldA, maxA, minA, Cell.int.injEq, AV.c.injEq, pre_nil, pre_cons, pre_gate, pre1_cons, pre1_gate, qstop_true, qstop_false, qstopg_false, qgate_true, qgate_false, pcont_some, pstop_true, pstop_false, pstopg_false, pgate_true, pgate_false, hpre_nil, hpre_cons, hpre_gate, hpre1_cons, hpre1_gate, hqstop_true, hqstop_false, hqstopg_false, hqgate_true, hqgate_false, hpcont_some, hpstop_true, hpstop_false, hpstopg_false, hpgate_true, hpgate_false, Int.reduceBEq, Int.reduceBNe, Int.reduceGT, Int.reduceGE, Int.reduceEq, Int.reduceNe, decide_false, nat_0, nat_1, nat_2, nat_3, nat_4, nat_8, nat_16, nat_64, nat_128, Int.reduceToNat, AOp.stops, pre1_nil, hpre1_nil, ↓want_eq, wantV_bool, wantV_undef, ↓exec_lenX, lenX_snil, lenX_slc, decide_eq_true h1]; with_reducible rfl))))
    refine AW_cond (t := true) rfl (fun _ => ?_) (fun h => by cases h)
    (repeat (first | with_reducible refine thenQ_n ?_ | with_reducible refine blockQ_n ?_ | refine AW_skip ?_ | refine AW_seq ?_ | refine AW_ops ?_ | refine AW_blockS ?_ | refine AW_blockR ?_ | refine AW_blockD ?_ | refine AW_blockC ?_ | refine AO_nil ?_ | refine AW_draw ?_ | refine AHd_nil ?_ | ((first | with_reducible apply AO_pre | with_reducible apply AHd_pre); focus (simp only [List.take_succ_cons, List.take_zero, List.drop_succ_cons, List.drop_zero, bne_self_eq_false, List.map_cons, List.map_nil, Bool.true_beq, Bool.false_beq, run_nil, run_cons, run_gate, cont_some, gate_true, gate_false, hrun_nil, hrun_cons, hrun_gate, hcont_some, hgate_true, hgate_false, put_some, put_none, ev_t, ev_k, wantedA, execA, stepA, List.set_cons_succ, List.set_cons_zero, List.getD_cons_succ, List.getD_cons_zero, List.getElem?_cons_zero, List.getElem?_cons_succ, if_true, if_false, binA, binInt, unA, eqA, Option.map, eq_self, true_or, or_true, true_and, and_true, and_self, beq_self_eq_true, Bool.not_true, Bool.not_false, reduceCtorEq, Bool.false_eq_true, ite_true, ite_false, fitsAll, CK.fits, decide_true, Bool.and_true, Bool.true_and, fillA, AV.cells, writeN, readN, sliceCells, appendA, lenA, i64, loA, hiA, hcells_last, hown_last, List.take_zero, List.drop_zero, List.nil_append, List.cons_append, List.append_nil, List.take_nil, List.drop_nil, List.length_cons, List.length_nil, List.length_append, Nat.zero_add, Nat.add_zero, Nat.reduceAdd, Nat.reduceMul, Nat.reduceDiv, Nat.reduceSub, Nat.mul_one, Nat.one_mul, Nat.div_one, Nat.le_refl, Nat.reduceLeDiff, Nat.reduceLT, Int.toNat_natCast, Int.toNat_zero, Nat.zero_le, Int.natCast_nonneg, Int.reduceLE, Int.reduceLT, Option.some.injEq, foldA, maxA, minA, Cell.int.injEq, AV.c.injEq, pre_nil, pre_cons, pre_gate, pre1_cons, pre1_gate, qstop_true, qstop_false, qstopg_false, qgate_true, qgate_false, pcont_some, pstop_true, pstop_false, pstopg_false, pgate_true, pgate_false, hpre_nil, hpre_cons, hpre_gate, hpre1_cons, hpre1_gate, hqstop_true, hqstop_false, hqstopg_false, hqgate_true, hqgate_false, hpcont_some, hpstop_true, hpstop_false, hpstopg_false, hpgate_true, hpgate_false, Int.reduceBEq, Int.reduceBNe, Int.reduceGT, Int.reduceGE, Int.reduceEq, Int.reduceNe, decide_false, nat_0, nat_1, nat_2, nat_3, nat_4, nat_8, nat_16, nat_64, nat_128, Int.reduceToNat, AOp.stops, pre1_nil, hpre1_nil, ↓want_eq, wantV_bool, wantV_undef, ↓exec_lenX, lenX_snil, lenX_slc]; with_reducible rfl))))
    exact AW_ret ⟨_, rfl, by simp only [whyE, if_pos (Or.inl h1 : z < 1 ∨ z > 512)]; rfl, rfl⟩
  rcases Decidable.em (z > 512) with h2 | h2
  · (repeat (first | with_reducible refine thenQ_n ?_ | with_reducible refine blockQ_n ?_ | refine AW_skip ?_ | refine AW_seq ?_ | refine AW_ops ?_ | refine AW_blockS ?_ | refine AW_blockR ?_ | refine AW_blockD ?_ | refine AW_blockC ?_ | refine AO_nil ?_ | refine AW_draw ?_ | refine AHd_nil ?_ | ((first | with_reducible apply AO_pre | with_reducible apply AHd_pre); focus (simp only [List.take_succ_cons, List.take_zero, List.drop_succ_cons, List.drop_zero, bne_self_eq_false, List.map_cons, List.map_nil, Bool.true_beq, Bool.false_beq, run_nil, run_cons, run_gate, cont_some, gate_true, gate_false, hrun_nil, hrun_cons, hrun_gate, hcont_some, hgate_true, hgate_false, put_some, put_none, ev_t, ev_k, wantedA, execA, stepA, List.set_cons_succ, List.set_cons_zero, List.getD_cons_succ, List.getD_cons_zero, List.getElem?_cons_zero, List.getElem?_cons_succ, if_true, if_false, binA, binInt, unA, eqA, Option.map, eq_self, true_or, or_true, true_and, and_true, and_self, beq_self_eq_true, Bool.not_true, Bool.not_false, reduceCtorEq, Bool.false_eq_true, ite_true, ite_false, fitsAll, CK.fits, decide_true, Bool.and_true, Bool.true_and, fillA, AV.cells, writeN, readN, sliceCells, appendA, lenA, i64, loA, hiA, hcells_last, hown_last, List.take_zero, List.drop_zero, List.nil_append, List.cons_append, List.append_nil, List.take_nil, List.drop_nil, List.length_cons, List.length_nil, List.length_append, Nat.zero_add, Nat.add_zero, Nat.reduceAdd, Nat.reduceMul, Nat.reduceDiv, Nat.reduceSub, Nat.mul_one, Nat.one_mul, Nat.div_one, Nat.le_refl, Nat.reduceLeDiff, Nat.reduceLT, Int.toNat_natCast, Int.toNat_zero, Nat.zero_le, Int.natCast_nonneg, Int.reduceLE, Int.reduceLT, Option.some.injEq, foldA, maxA, minA, Cell.int.injEq, AV.c.injEq, pre_nil, pre_cons, pre_gate, pre1_cons, pre1_gate, qstop_true, qstop_false, qstopg_false, qgate_true, qgate_false, pcont_some, pstop_true, pstop_false, pstopg_false, pgate_true, pgate_false, hpre_nil, hpre_cons, hpre_gate, hpre1_cons, hpre1_gate, hqstop_true, hqstop_false, hqstopg_false, hqgate_true, hqgate_false, hpcont_some, hpstop_true, hpstop_false, hpstopg_false, hpgate_true, hpgate_false, Int.reduceBEq, Int.reduceBNe, Int.reduceGT, Int.reduceGE, Int.reduceEq, Int.reduceNe, decide_false, nat_0, nat_1, nat_2, nat_3, nat_4, nat_8, nat_16, nat_64, nat_128, Int.reduceToNat, AOp.stops, pre1_nil, hpre1_nil, ↓want_eq, wantV_bool, wantV_undef, ↓exec_lenX, lenX_snil, lenX_slc, decide_eq_false h1, decide_eq_true h2]; with_reducible rfl))))
    refine AW_cond (t := true) rfl (fun _ => ?_) (fun h => by cases h)
    (repeat (first | with_reducible refine thenQ_n ?_ | with_reducible refine blockQ_n ?_ | refine AW_skip ?_ | refine AW_seq ?_ | refine AW_ops ?_ | refine AW_blockS ?_ | refine AW_blockR ?_ | refine AW_blockD ?_ | refine AW_blockC ?_ | refine AO_nil ?_ | refine AW_draw ?_ | refine AHd_nil ?_ | ((first | with_reducible apply AO_pre | with_reducible apply AHd_pre); focus (simp only [List.take_succ_cons, List.take_zero, List.drop_succ_cons, List.drop_zero, bne_self_eq_false, List.map_cons, List.map_nil, Bool.true_beq, Bool.false_beq, run_nil, run_cons, run_gate, cont_some, gate_true, gate_false, hrun_nil, hrun_cons, hrun_gate, hcont_some, hgate_true, hgate_false, put_some, put_none, ev_t, ev_k, wantedA, execA, stepA, List.set_cons_succ, List.set_cons_zero, List.getD_cons_succ, List.getD_cons_zero, List.getElem?_cons_zero, List.getElem?_cons_succ, if_true, if_false, binA, binInt, unA, eqA, Option.map, eq_self, true_or, or_true, true_and, and_true, and_self, beq_self_eq_true, Bool.not_true, Bool.not_false, reduceCtorEq, Bool.false_eq_true, ite_true, ite_false, fitsAll, CK.fits, decide_true, Bool.and_true, Bool.true_and, fillA, AV.cells, writeN, readN, sliceCells, appendA, lenA, i64, loA, hiA, hcells_last, hown_last, List.take_zero, List.drop_zero, List.nil_append, List.cons_append, List.append_nil, List.take_nil, List.drop_nil, List.length_cons, List.length_nil, List.length_append, Nat.zero_add, Nat.add_zero, Nat.reduceAdd, Nat.reduceMul, Nat.reduceDiv, Nat.reduceSub, Nat.mul_one, Nat.one_mul, Nat.div_one, Nat.le_refl, Nat.reduceLeDiff, Nat.reduceLT, Int.toNat_natCast, Int.toNat_zero, Nat.zero_le, Int.natCast_nonneg, Int.reduceLE, Int.reduceLT, Option.some.injEq, foldA, maxA, minA, Cell.int.injEq, AV.c.injEq, pre_nil, pre_cons, pre_gate, pre1_cons, pre1_gate, qstop_true, qstop_false, qstopg_false, qgate_true, qgate_false, pcont_some, pstop_true, pstop_false, pstopg_false, pgate_true, pgate_false, hpre_nil, hpre_cons, hpre_gate, hpre1_cons, hpre1_gate, hqstop_true, hqstop_false, hqstopg_false, hqgate_true, hqgate_false, hpcont_some, hpstop_true, hpstop_false, hpstopg_false, hpgate_true, hpgate_false, Int.reduceBEq, Int.reduceBNe, Int.reduceGT, Int.reduceGE, Int.reduceEq, Int.reduceNe, decide_false, nat_0, nat_1, nat_2, nat_3, nat_4, nat_8, nat_16, nat_64, nat_128, Int.reduceToNat, AOp.stops, pre1_nil, hpre1_nil, ↓want_eq, wantV_bool, wantV_undef, ↓exec_lenX, lenX_snil, lenX_slc]; with_reducible rfl))))
    exact AW_ret ⟨_, rfl, by simp only [whyE, if_pos (Or.inr h2 : z < 1 ∨ z > 512)]; rfl, rfl⟩
  have hno : ¬ (z < 1 ∨ z > 512) := by omega
  have e : IntKind.i64.wrap (32 * z) = 32 * z := i64_of (by omega) (by omega)
  (repeat (first | with_reducible refine thenQ_n ?_ | with_reducible refine blockQ_n ?_ | refine AW_skip ?_ | refine AW_seq ?_ | refine AW_ops ?_ | refine AW_blockS ?_ | refine AW_blockR ?_ | refine AW_blockD ?_ | refine AW_blockC ?_ | refine AO_nil ?_ | refine AW_draw ?_ | refine AHd_nil ?_ | ((first | with_reducible apply AO_pre | with_reducible apply AHd_pre); focus (simp only [List.take_succ_cons, List.take_zero, List.drop_succ_cons, List.drop_zero, bne_self_eq_false, List.map_cons, List.map_nil, Bool.true_beq, Bool.false_beq, run_nil, run_cons, run_gate, cont_some, gate_true, gate_false, hrun_nil, hrun_cons, hrun_gate, hcont_some, hgate_true, hgate_false, put_some, put_none, ev_t, ev_k, wantedA, execA, stepA, List.set_cons_succ, List.set_cons_zero, List.getD_cons_succ, List.getD_cons_zero, List.getElem?_cons_zero, List.getElem?_cons_succ, if_true, if_false, binA, binInt, unA, eqA, Option.map, eq_self, true_or, or_true, true_and, and_true, and_self, beq_self_eq_true, Bool.not_true, Bool.not_false, reduceCtorEq, Bool.false_eq_true, ite_true, ite_false, fitsAll, CK.fits, decide_true, Bool.and_true, Bool.true_and, fillA, AV.cells, writeN, readN, sliceCells, appendA, lenA, i64, loA, hiA, hcells_last, hown_last, List.take_zero, List.drop_zero, List.nil_append, List.cons_append, List.append_nil, List.take_nil, List.drop_nil, List.length_cons, List.length_nil, List.length_append, Nat.zero_add, Nat.add_zero, Nat.reduceAdd, Nat.reduceMul, Nat.reduceDiv, Nat.reduceSub, Nat.mul_one, Nat.one_mul, Nat.div_one, Nat.le_refl, Nat.reduceLeDiff, Nat.reduceLT, Int.toNat_natCast, Int.toNat_zero, Nat.zero_le, Int.natCast_nonneg, Int.reduceLE, Int.reduceLT, Option.some.injEq, foldA, maxA, minA, Cell.int.injEq, AV.c.injEq, pre_nil, pre_cons, pre_gate, pre1_cons, pre1_gate, qstop_true, qstop_false, qstopg_false, qgate_true, qgate_false, pcont_some, pstop_true, pstop_false, pstopg_false, pgate_true, pgate_false, hpre_nil, hpre_cons, hpre_gate, hpre1_cons, hpre1_gate, hqstop_true, hqstop_false, hqstopg_false, hqgate_true, hqgate_false, hpcont_some, hpstop_true, hpstop_false, hpstopg_false, hpgate_true, hpgate_false, Int.reduceBEq, Int.reduceBNe, Int.reduceGT, Int.reduceGE, Int.reduceEq, Int.reduceNe, decide_false, nat_0, nat_1, nat_2, nat_3, nat_4, nat_8, nat_16, nat_64, nat_128, Int.reduceToNat, AOp.stops, pre1_nil, hpre1_nil, ↓want_eq, wantV_bool, wantV_undef, ↓exec_lenX, lenX_snil, lenX_slc, decide_eq_false h1, decide_eq_false h2]; with_reducible rfl))))
  refine AW_cond (t := false) rfl (fun h => by cases h) fun _ => ?_
  by_cases hn : (ls.length : Int) = 32 * z
  · have c : ((ls.length : Int) != 32 * z) = false := by rw [hn]; exact bne_self_eq_false _
    (repeat (first | with_reducible refine thenQ_n ?_ | with_reducible refine blockQ_n ?_ | refine AW_skip ?_ | refine AW_seq ?_ | refine AW_ops ?_ | refine AW_blockS ?_ | refine AW_blockR ?_ | refine AW_blockD ?_ | refine AW_blockC ?_ | refine AO_nil ?_ | refine AW_draw ?_ | refine AHd_nil ?_ | ((first | with_reducible apply AO_pre | with_reducible apply AHd_pre); focus (simp only [List.take_succ_cons, List.take_zero, List.drop_succ_cons, List.drop_zero, bne_self_eq_false, List.map_cons, List.map_nil, Bool.true_beq, Bool.false_beq, run_nil, run_cons, run_gate, cont_some, gate_true, gate_false, hrun_nil, hrun_cons, hrun_gate, hcont_some, hgate_true, hgate_false, put_some, put_none, ev_t, ev_k, wantedA, execA, stepA, List.set_cons_succ, List.set_cons_zero, List.getD_cons_succ, List.getD_cons_zero, List.getElem?_cons_zero, List.getElem?_cons_succ, if_true, if_false, binA, binInt, unA, eqA, Option.map, eq_self, true_or, or_true, true_and, and_true, and_self, beq_self_eq_true, Bool.not_true, Bool.not_false, reduceCtorEq, Bool.false_eq_true, ite_true, ite_false, fitsAll, CK.fits, decide_true, Bool.and_true, Bool.true_and, fillA, AV.cells, writeN, readN, sliceCells, appendA, lenA, i64, loA, hiA, hcells_last, hown_last, List.take_zero, List.drop_zero, List.nil_append, List.cons_append, List.append_nil, List.take_nil, List.drop_nil, List.length_cons, List.length_nil, List.length_append, Nat.zero_add, Nat.add_zero, Nat.reduceAdd, Nat.reduceMul, Nat.reduceDiv, Nat.reduceSub, Nat.mul_one, Nat.one_mul, Nat.div_one, Nat.le_refl, Nat.reduceLeDiff, Nat.reduceLT, Int.toNat_natCast, Int.toNat_zero, Nat.zero_le, Int.natCast_nonneg, Int.reduceLE, Int.reduceLT, Option.some.injEq, foldA, maxA, minA, Cell.int.injEq, AV.c.injEq, pre_nil, pre_cons, pre_gate, pre1_cons, pre1_gate, qstop_true, qstop_false, qstopg_false, qgate_true, qgate_false, pcont_some, pstop_true, pstop_false, pstopg_false, pgate_true, pgate_false, hpre_nil, hpre_cons, hpre_gate, hpre1_cons, hpre1_gate, hqstop_true, hqstop_false, hqstopg_false, hqgate_true, hqgate_false, hpcont_some, hpstop_true, hpstop_false, hpstopg_false, hpgate_true, hpgate_false, Int.reduceBEq, Int.reduceBNe, Int.reduceGT, Int.reduceGE, Int.reduceEq, Int.reduceNe, decide_false, nat_0, nat_1, nat_2, nat_3, nat_4, nat_8, nat_16, nat_64, nat_128, Int.reduceToNat, AOp.stops, pre1_nil, hpre1_nil, ↓want_eq, wantV_bool, wantV_undef, ↓exec_lenX, lenX_snil, lenX_slc, hy.len1 _ yl, e, c]; with_reducible rfl))))
    refine AW_cond (t := false) rfl (fun h => by cases h) fun _ => ?_
    (repeat (first | with_reducible refine thenQ_n ?_ | with_reducible refine blockQ_n ?_ | refine AW_skip ?_ | refine AW_seq ?_ | refine AW_ops ?_ | refine AW_blockS ?_ | refine AW_blockR ?_ | refine AW_blockD ?_ | refine AW_blockC ?_ | refine AO_nil ?_ | refine AW_draw ?_ | refine AHd_nil ?_ | ((first | with_reducible apply AO_pre | with_reducible apply AHd_pre); focus (simp only [List.take_succ_cons, List.take_zero, List.drop_succ_cons, List.drop_zero, bne_self_eq_false, List.map_cons, List.map_nil, Bool.true_beq, Bool.false_beq, run_nil, run_cons, run_gate, cont_some, gate_true, gate_false, hrun_nil, hrun_cons, hrun_gate, hcont_some, hgate_true, hgate_false, put_some, put_none, ev_t, ev_k, wantedA, execA, stepA, List.set_cons_succ, List.set_cons_zero, List.getD_cons_succ, List.getD_cons_zero, List.getElem?_cons_zero, List.getElem?_cons_succ, if_true, if_false, binA, binInt, unA, eqA, Option.map, eq_self, true_or, or_true, true_and, and_true, and_self, beq_self_eq_true, Bool.not_true, Bool.not_false, reduceCtorEq, Bool.false_eq_true, ite_true, ite_false, fitsAll, CK.fits, decide_true, Bool.and_true, Bool.true_and, fillA, AV.cells, writeN, readN, sliceCells, appendA, lenA, i64, loA, hiA, hcells_last, hown_last, List.take_zero, List.drop_zero, List.nil_append, List.cons_append, List.append_nil, List.take_nil, List.drop_nil, List.length_cons, List.length_nil, List.length_append, Nat.zero_add, Nat.add_zero, Nat.reduceAdd, Nat.reduceMul, Nat.reduceDiv, Nat.reduceSub, Nat.mul_one, Nat.one_mul, Nat.div_one, Nat.le_refl, Nat.reduceLeDiff, Nat.reduceLT, Int.toNat_natCast, Int.toNat_zero, Nat.zero_le, Int.natCast_nonneg, Int.reduceLE, Int.reduceLT, Option.some.injEq, foldA, maxA, minA, Cell.int.injEq, AV.c.injEq, pre_nil, pre_cons, pre_gate, pre1_cons, pre1_gate, qstop_true, qstop_false, qstopg_false, qgate_true, qgate_false, pcont_some, pstop_true, pstop_false, pstopg_false, pgate_true, pgate_false, hpre_nil, hpre_cons, hpre_gate, hpre1_cons, hpre1_gate, hqstop_true, hqstop_false, hqstopg_false, hqgate_true, hqgate_false, hpcont_some, hpstop_true, hpstop_false, hpstopg_false, hpgate_true, hpgate_false, Int.reduceBEq, Int.reduceBNe, Int.reduceGT, Int.reduceGE, Int.reduceEq, Int.reduceNe, decide_false, nat_0, nat_1, nat_2, nat_3, nat_4, nat_8, nat_16, nat_64, nat_128, Int.reduceToNat, AOp.stops, pre1_nil, hpre1_nil, ↓want_eq, wantV_bool, wantV_undef, ↓exec_lenX, lenX_snil, lenX_slc]; with_reducible rfl))))
    exact AW_ret ⟨_, rfl, by simp only [whyE, if_neg hno, ne_eq, hn, not_true_eq_false, if_false]; rfl, rfl⟩
  · have c : ((ls.length : Int) != 32 * z) = true := bne_iff_ne.mpr hn
    (repeat (first | with_reducible refine thenQ_n ?_ | with_reducible refine blockQ_n ?_ | refine AW_skip ?_ | refine AW_seq ?_ | refine AW_ops ?_ | refine AW_blockS ?_ | refine AW_blockR ?_ | refine AW_blockD ?_ | refine AW_blockC ?_ | refine AO_nil ?_ | refine AW_draw ?_ | refine AHd_nil ?_ | ((first | with_reducible apply AO_pre | with_reducible apply AHd_pre); focus (simp only [List.take_succ_cons, List.take_zero, List.drop_succ_cons, List.drop_zero, bne_self_eq_false, List.map_cons, List.map_nil, Bool.true_beq, Bool.false_beq, run_nil, run_cons, run_gate, cont_some, gate_true, gate_false, hrun_nil, hrun_cons, hrun_gate, hcont_some, hgate_true, hgate_false, put_some, put_none, ev_t, ev_k, wantedA, execA, stepA, List.set_cons_succ, List.set_cons_zero, List.getD_cons_succ, List.getD_cons_zero, List.getElem?_cons_zero, List.getElem?_cons_succ, if_true, if_false, binA, binInt, unA, eqA, Option.map, eq_self, true_or, or_true, true_and, and_true, and_self, beq_self_eq_true, Bool.not_true, Bool.not_false, reduceCtorEq, Bool.false_eq_true, ite_true, ite_false, fitsAll, CK.fits, decide_true, Bool.and_true, Bool.true_and, fillA, AV.cells, writeN, readN, sliceCells, appendA, lenA, i64, loA, hiA, hcells_last, hown_last, List.take_zero, List.drop_zero, List.nil_append, List.cons_append, List.append_nil, List.take_nil, List.drop_nil, List.length_cons, List.length_nil, List.length_append, Nat.zero_add, Nat.add_zero, Nat.reduceAdd, Nat.reduceMul, Nat.reduceDiv, Nat.reduceSub, Nat.mul_one, Nat.one_mul, Nat.div_one, Nat.le_refl, Nat.reduceLeDiff, Nat.reduceLT, Int.toNat_natCast, Int.toNat_zero, Nat.zero_le, Int.natCast_nonneg, Int.reduceLE, Int.reduceLT, Option.some.injEq, foldA, maxA, minA, Cell.int.injEq, AV.c.injEq, pre_nil, pre_cons, pre_gate, pre1_cons, pre1_gate, qstop_true, qstop_false, qstopg_false, qgate_true, qgate_false, pcont_some, pstop_true, pstop_false, pstopg_false, pgate_true, pgate_false, hpre_nil, hpre_cons, hpre_gate, hpre1_cons, hpre1_gate, hqstop_true, hqstop_false, hqstopg_false, hqgate_true, hqgate_false, hpcont_some, hpstop_true, hpstop_false, hpstopg_false, hpgate_true, hpgate_false, Int.reduceBEq, Int.reduceBNe, Int.reduceGT, Int.reduceGE, Int.reduceEq, Int.reduceNe, decide_false, nat_0, nat_1, nat_2, nat_3, nat_4, nat_8, nat_16, nat_64, nat_128, Int.reduceToNat, AOp.stops, pre1_nil, hpre1_nil, ↓want_eq, wantV_bool, wantV_undef, ↓exec_lenX, lenX_snil, lenX_slc, hy.len1 _ yl, e, c]; with_reducible rfl))))
    refine AW_cond (t := true) rfl (fun _ => ?_) (fun h => by cases h)
    (repeat (first | with_reducible refine thenQ_n ?_ | with_reducible refine blockQ_n ?_ | refine AW_skip ?_ | refine AW_seq ?_ | refine AW_ops ?_ | refine AW_blockS ?_ | refine AW_blockR ?_ | refine AW_blockD ?_ | refine AW_blockC ?_ | refine AO_nil ?_ | refine AW_draw ?_ | refine AHd_nil ?_ | ((first | with_reducible apply AO_pre | with_reducible apply AHd_pre); focus (simp only [List.take_succ_cons, List.take_zero, List.drop_succ_cons, List.drop_zero, bne_self_eq_false, List.map_cons, List.map_nil, Bool.true_beq, Bool.false_beq, run_nil, run_cons, run_gate, cont_some, gate_true, gate_false, hrun_nil, hrun_cons, hrun_gate, hcont_some, hgate_true, hgate_false, put_some, put_none, ev_t, ev_k, wantedA, execA, stepA, List.set_cons_succ, List.set_cons_zero, List.getD_cons_succ, List.getD_cons_zero, List.getElem?_cons_zero, List.getElem?_cons_succ, if_true, if_false, binA, binInt, unA, eqA, Option.map, eq_self, true_or, or_true, true_and, and_true, and_self, beq_self_eq_true, Bool.not_true, Bool.not_false, reduceCtorEq, Bool.false_eq_true, ite_true, ite_false, fitsAll, CK.fits, decide_true, Bool.and_true, Bool.true_and, fillA, AV.cells, writeN, readN, sliceCells, appendA, lenA, i64, loA, hiA, hcells_last, hown_last, List.take_zero, List.drop_zero, List.nil_append, List.cons_append, List.append_nil, List.take_nil, List.drop_nil, List.length_cons, List.length_nil, List.length_append, Nat.zero_add, Nat.add_zero, Nat.reduceAdd, Nat.reduceMul, Nat.reduceDiv, Nat.reduceSub, Nat.mul_one, Nat.one_mul, Nat.div_one, Nat.le_refl, Nat.reduceLeDiff, Nat.reduceLT, Int.toNat_natCast, Int.toNat_zero, Nat.zero_le, Int.natCast_nonneg, Int.reduceLE, Int.reduceLT, Option.some.injEq, foldA, maxA, minA, Cell.int.injEq, AV.c.injEq, pre_nil, pre_cons, pre_gate, pre1_cons, pre1_gate, qstop_true, qstop_false, qstopg_false, qgate_true, qgate_false, pcont_some, pstop_true, pstop_false, pstopg_false, pgate_true, pgate_false, hpre_nil, hpre_cons, hpre_gate, hpre1_cons, hpre1_gate, hqstop_true, hqstop_false, hqstopg_false, hqgate_true, hqgate_false, hpcont_some, hpstop_true, hpstop_false, hpstopg_false, hpgate_true, hpgate_false, Int.reduceBEq, Int.reduceBNe, Int.reduceGT, Int.reduceGE, Int.reduceEq, Int.reduceNe, decide_false, nat_0, nat_1, nat_2, nat_3, nat_4, nat_8, nat_16, nat_64, nat_128, Int.reduceToNat, AOp.stops, pre1_nil, hpre1_nil, ↓want_eq, wantV_bool, wantV_undef, ↓exec_lenX, lenX_snil, lenX_slc]; with_reducible rfl))))
    exact AW_ret ⟨_, rfl, by simp only [whyE, if_neg hno, ne_eq, hn, not_false_eq_true, if_true]; rfl, rfl⟩
end
end PK

/- Salsa's eight rounds; SalsaCores, walked. -/
namespace PK
open Go PAbs
set_option linter.unusedSimpArgs false
set_option linter.unusedVariables false
set_option maxRecDepth 100000
set_option maxHeartbeats 2000000

theorem fits_W32 : ∀ {n : Nat} {xs : List Nat}, xs.length = n → fitsAll (rep n (.int .u32)) (W32 xs) = true
  | 0, xs, h => by
    obtain rfl : xs = [] := List.length_eq_zero_iff.mp h
    rfl
  | n + 1, x :: xs, h => by
    have := fits_W32 (n := n) (xs := xs) (by simpa using h)
    simp only [rep, List.replicate_succ, W32, List.map_cons, fitsAll, CK.fits, decide_true, Bool.true_and] at this ⊢
    exact this
theorem Words.fits {x : List Nat} (h : Words x) : fitsAll (rep 16 (.int .u32)) (W32 x) = true := fits_W32 h.1
theorem Words.core {x : List Nat} (h : Words x) (n : Nat) : Words (core x n) := (h.dblN n).addW x 16

theorem AC_Eight (H : AHeap) (x : List Nat) (hx : Words x) : AC A H.length F_salsa_Eight [.agg (W32 x)] H (fun v H' => v = .agg (W32 (core x 4))) := by
  have hl := hx.len
  have hC := hx.core 4
  refine AC_enter t_salsa_Eight ?_; simp only [c_salsa_Eight, enterA, List.replicate, List.length_cons, List.length_nil, Nat.reduceAdd, Nat.reduceSub, List.cons_append, List.nil_append]
  refine AW_seq (AW_ops (AO_pre (by simp only [List.take_succ_cons, List.take_zero, List.drop_succ_cons, List.drop_zero, bne_self_eq_false, List.map_cons, List.map_nil, Bool.true_beq, Bool.false_beq, run_nil, run_cons, run_gate, cont_some, gate_true, gate_false, hrun_nil, hrun_cons, hrun_gate, hcont_some, hgate_true, hgate_false, put_some, put_none, ev_t, ev_k, wantedA, execA, stepA, List.set_cons_succ, List.set_cons_zero, List.getD_cons_succ, List.getD_cons_zero, List.getElem?_cons_zero, List.getElem?_cons_succ, if_true, if_false, binA, binInt, unA, eqA, Option.map, eq_self, true_or, or_true, true_and, and_true, and_self, beq_self_eq_true, Bool.not_true, Bool.not_false, reduceCtorEq, Bool.false_eq_true, ite_true, ite_false, fitsAll, CK.fits, decide_true, Bool.and_true, Bool.true_and, fillA, AV.cells, writeN, readN, sliceCells, appendA, lenA, i64, loA, hiA, hcells_last, hown_last, List.take_zero, List.drop_zero, List.nil_append, List.cons_append, List.append_nil, List.take_nil, List.drop_nil, List.length_cons, List.length_nil, List.length_append, Nat.zero_add, Nat.add_zero, Nat.reduceAdd, Nat.reduceMul, Nat.reduceDiv, Nat.reduceSub, Nat.mul_one, Nat.one_mul, Nat.div_one, Nat.le_refl, Nat.reduceLeDiff, Nat.reduceLT, Int.toNat_natCast, Int.toNat_zero, Nat.zero_le, Int.natCast_nonneg, Int.reduceLE, Int.reduceLT, Option.some.injEq, foldA, maxA, minA, Cell.int.injEq, AV.c.injEq, pre_nil, pre_cons, pre_gate, pre1_cons, pre1_gate, qstop_true, qstop_false, qstopg_false, qgate_true, qgate_false, pcont_some, pstop_true, pstop_false, pstopg_false, pgate_true, pgate_false, hpre_nil, hpre_cons, hpre_gate, hpre1_cons, hpre1_gate, hqstop_true, hqstop_false, hqstopg_false, hqgate_true, hqgate_false, hpcont_some, hpstop_true, hpstop_false, hpstopg_false, hpgate_true, hpgate_false, Int.reduceBEq, Int.reduceBNe, Int.reduceGT, Int.reduceGE, Int.reduceEq, Int.reduceNe, decide_false, nat_0, nat_1, nat_2, nat_3, nat_4, nat_8, nat_16, nat_64, nat_128, Int.reduceToNat, AOp.stops, pre1_nil, hpre1_nil, ↓want_eq, wantV_bool, wantV_undef, ↓exec_lenX, lenX_snil, lenX_slc]; with_reducible rfl) (AO_nil ?_)))
  have ho : hown (H ++ [Blk.own (W32 x)] ++ [Blk.own (rep 16 (.int .u32 0))]) H.length = some (W32 x) := hown_app hown_last
  have hz : hown (H ++ [Blk.own (W32 x)] ++ [Blk.own (rep 16 (.int .u32 0))]) (H ++ [Blk.own (W32 x)]).length = some (rep 16 (.int .u32 0)) := hown_last
  have hq1 : (H ++ [Blk.own (W32 x)]).length = H.length + 1 := by simp
  rw [hq1] at hz
  try simp only [List.length_append, List.length_cons, List.length_nil, Nat.zero_add]
  have hfl : (H ++ [Blk.own (W32 x)] ++ [Blk.own (rep 16 (.int .u32 0))]).length = H.length + 2 := by simp
  generalize H ++ [Blk.own (W32 x)] ++ [Blk.own (rep 16 (.int .u32 0))] = H1 at *
  generalize H.length = p at *
  have hr : readN H1 p 0 16 = some (W32 x) := by
    have := readN_all (hcells_own ho)
    rw [hl] at this; exact this
  (repeat (first | with_reducible refine thenQ_n ?_ | with_reducible refine blockQ_n ?_ | refine AW_skip ?_ | refine AW_seq ?_ | refine AW_ops ?_ | refine AW_blockS ?_ | refine AW_blockR ?_ | refine AW_blockD ?_ | refine AW_blockC ?_ | refine AO_nil ?_ | refine AW_draw ?_ | refine AHd_nil ?_ | ((first | with_reducible apply AO_pre | with_reducible apply AHd_pre); focus (simp only [List.take_succ_cons, List.take_zero, List.drop_succ_cons, List.drop_zero, bne_self_eq_false, List.map_cons, List.map_nil, Bool.true_beq, Bool.false_beq, run_nil, run_cons, run_gate, cont_some, gate_true, gate_false, hrun_nil, hrun_cons, hrun_gate, hcont_some, hgate_true, hgate_false, put_some, put_none, ev_t, ev_k, wantedA, execA, stepA, List.set_cons_succ, List.set_cons_zero, List.getD_cons_succ, List.getD_cons_zero, List.getElem?_cons_zero, List.getElem?_cons_succ, if_true, if_false, binA, binInt, unA, eqA, Option.map, eq_self, true_or, or_true, true_and, and_true, and_self, beq_self_eq_true, Bool.not_true, Bool.not_false, reduceCtorEq, Bool.false_eq_true, ite_true, ite_false, fitsAll, CK.fits, decide_true, Bool.and_true, Bool.true_and, fillA, AV.cells, writeN, readN, sliceCells, appendA, lenA, i64, loA, hiA, hcells_last, hown_last, List.take_zero, List.drop_zero, List.nil_append, List.cons_append, List.append_nil, List.take_nil, List.drop_nil, List.length_cons, List.length_nil, List.length_append, Nat.zero_add, Nat.add_zero, Nat.reduceAdd, Nat.reduceMul, Nat.reduceDiv, Nat.reduceSub, Nat.mul_one, Nat.one_mul, Nat.div_one, Nat.le_refl, Nat.reduceLeDiff, Nat.reduceLT, Int.toNat_natCast, Int.toNat_zero, Nat.zero_le, Int.natCast_nonneg, Int.reduceLE, Int.reduceLT, Option.some.injEq, foldA, maxA, minA, Cell.int.injEq, AV.c.injEq, pre_nil, pre_cons, pre_gate, pre1_cons, pre1_gate, qstop_true, qstop_false, qstopg_false, qgate_true, qgate_false, pcont_some, pstop_true, pstop_false, pstopg_false, pgate_true, pgate_false, hpre_nil, hpre_cons, hpre_gate, hpre1_cons, hpre1_gate, hqstop_true, hqstop_false, hqstopg_false, hqgate_true, hqgate_false, hpcont_some, hpstop_true, hpstop_false, hpstopg_false, hpgate_true, hpgate_false, Int.reduceBEq, Int.reduceBNe, Int.reduceGT, Int.reduceGE, Int.reduceEq, Int.reduceNe, decide_false, nat_0, nat_1, nat_2, nat_3, nat_4, nat_8, nat_16, nat_64, nat_128, Int.reduceToNat, AOp.stops, pre1_nil, hpre1_nil, ↓want_eq, wantV_bool, wantV_undef, ↓exec_lenX, lenX_snil, lenX_slc, ↓hr]; with_reducible rfl))))
  refine AO_call rfl ((AC_Core H1 x hx 4 (by omega)).kept (by omega)) ?_
  rintro v H2 ⟨h, k2⟩
  have c2 := Chg.of_kept k2
  have hl2 := c2.1
  rcases h with ⟨h, _⟩ | ⟨_, _, rfl⟩
  · omega
  have hz2 := c2.hown (fun h => h) hz
  rw [show (4 : Int).toNat = 4 from rfl]
  (repeat (first | with_reducible refine thenQ_n ?_ | with_reducible refine blockQ_n ?_ | refine AW_skip ?_ | refine AW_seq ?_ | refine AW_ops ?_ | refine AW_blockS ?_ | refine AW_blockR ?_ | refine AW_blockD ?_ | refine AW_blockC ?_ | refine AO_nil ?_ | refine AW_draw ?_ | refine AHd_nil ?_ | ((first | with_reducible apply AO_pre | with_reducible apply AHd_pre); focus (simp only [List.take_succ_cons, List.take_zero, List.drop_succ_cons, List.drop_zero, bne_self_eq_false, List.map_cons, List.map_nil, Bool.true_beq, Bool.false_beq, run_nil, run_cons, run_gate, cont_some, gate_true, gate_false, hrun_nil, hrun_cons, hrun_gate, hcont_some, hgate_true, hgate_false, put_some, put_none, ev_t, ev_k, wantedA, execA, stepA, List.set_cons_succ, List.set_cons_zero, List.getD_cons_succ, List.getD_cons_zero, List.getElem?_cons_zero, List.getElem?_cons_succ, if_true, if_false, binA, binInt, unA, eqA, Option.map, eq_self, true_or, or_true, true_and, and_true, and_self, beq_self_eq_true, Bool.not_true, Bool.not_false, reduceCtorEq, Bool.false_eq_true, ite_true, ite_false, fitsAll, CK.fits, decide_true, Bool.and_true, Bool.true_and, fillA, AV.cells, writeN, readN, sliceCells, appendA, lenA, i64, loA, hiA, hcells_last, hown_last, List.take_zero, List.drop_zero, List.nil_append, List.cons_append, List.append_nil, List.take_nil, List.drop_nil, List.length_cons, List.length_nil, List.length_append, Nat.zero_add, Nat.add_zero, Nat.reduceAdd, Nat.reduceMul, Nat.reduceDiv, Nat.reduceSub, Nat.mul_one, Nat.one_mul, Nat.div_one, Nat.le_refl, Nat.reduceLeDiff, Nat.reduceLT, Int.toNat_natCast, Int.toNat_zero, Nat.zero_le, Int.natCast_nonneg, Int.reduceLE, Int.reduceLT, Option.some.injEq, foldA, maxA, minA, Cell.int.injEq, AV.c.injEq, pre_nil, pre_cons, pre_gate, pre1_cons, pre1_gate, qstop_true, qstop_false, qstopg_false, qgate_true, qgate_false, pcont_some, pstop_true, pstop_false, pstopg_false, pgate_true, pgate_false, hpre_nil, hpre_cons, hpre_gate, hpre1_cons, hpre1_gate, hqstop_true, hqstop_false, hqstopg_false, hqgate_true, hqgate_false, hpcont_some, hpstop_true, hpstop_false, hpstopg_false, hpgate_true, hpgate_false, Int.reduceBEq, Int.reduceBNe, Int.reduceGT, Int.reduceGE, Int.reduceEq, Int.reduceNe, decide_false, nat_0, nat_1, nat_2, nat_3, nat_4, nat_8, nat_16, nat_64, nat_128, Int.reduceToNat, AOp.stops, pre1_nil, hpre1_nil, ↓want_eq, wantV_bool, wantV_undef, ↓exec_lenX, lenX_snil, lenX_slc, ↓exec_storeN, storeN_last (by omega : p ≤ H2.length), rep_len, hC.len]; with_reducible rfl))))
  have c3 : Chg none_ H2 (H2 ++ [Blk.own (W32 (core x 4))]) := Chg.push _ _ _
  have hz3 := c3.hown (fun h => h) hz2
  have hr3 : readN (H2 ++ [Blk.own (W32 (core x 4))]) H2.length 0 16 = some (W32 (core x 4)) := by
    have := readN_all (hcells_last (H := H2) (cs := W32 (core x 4)))
    rw [hC.len] at this; exact this
  generalize H2 ++ [Blk.own (W32 (core x 4))] = H3 at *
  (repeat (first | with_reducible refine thenQ_n ?_ | with_reducible refine blockQ_n ?_ | refine AW_skip ?_ | refine AW_seq ?_ | refine AW_ops ?_ | refine AW_blockS ?_ | refine AW_blockR ?_ | refine AW_blockD ?_ | refine AW_blockC ?_ | refine AO_nil ?_ | refine AW_draw ?_ | refine AHd_nil ?_ | ((first | with_reducible apply AO_pre | with_reducible apply AHd_pre); focus (simp only [List.take_succ_cons, List.take_zero, List.drop_succ_cons, List.drop_zero, bne_self_eq_false, List.map_cons, List.map_nil, Bool.true_beq, Bool.false_beq, run_nil, run_cons, run_gate, cont_some, gate_true, gate_false, hrun_nil, hrun_cons, hrun_gate, hcont_some, hgate_true, hgate_false, put_some, put_none, ev_t, ev_k, wantedA, execA, stepA, List.set_cons_succ, List.set_cons_zero, List.getD_cons_succ, List.getD_cons_zero, List.getElem?_cons_zero, List.getElem?_cons_succ, if_true, if_false, binA, binInt, unA, eqA, Option.map, eq_self, true_or, or_true, true_and, and_true, and_self, beq_self_eq_true, Bool.not_true, Bool.not_false, reduceCtorEq, Bool.false_eq_true, ite_true, ite_false, fitsAll, CK.fits, decide_true, Bool.and_true, Bool.true_and, fillA, AV.cells, writeN, readN, sliceCells, appendA, lenA, i64, loA, hiA, hcells_last, hown_last, List.take_zero, List.drop_zero, List.nil_append, List.cons_append, List.append_nil, List.take_nil, List.drop_nil, List.length_cons, List.length_nil, List.length_append, Nat.zero_add, Nat.add_zero, Nat.reduceAdd, Nat.reduceMul, Nat.reduceDiv, Nat.reduceSub, Nat.mul_one, Nat.one_mul, Nat.div_one, Nat.le_refl, Nat.reduceLeDiff, Nat.reduceLT, Int.toNat_natCast, Int.toNat_zero, Nat.zero_le, Int.natCast_nonneg, Int.reduceLE, Int.reduceLT, Option.some.injEq, foldA, maxA, minA, Cell.int.injEq, AV.c.injEq, pre_nil, pre_cons, pre_gate, pre1_cons, pre1_gate, qstop_true, qstop_false, qstopg_false, qgate_true, qgate_false, pcont_some, pstop_true, pstop_false, pstopg_false, pgate_true, pgate_false, hpre_nil, hpre_cons, hpre_gate, hpre1_cons, hpre1_gate, hqstop_true, hqstop_false, hqstopg_false, hqgate_true, hqgate_false, hpcont_some, hpstop_true, hpstop_false, hpstopg_false, hpgate_true, hpgate_false, Int.reduceBEq, Int.reduceBNe, Int.reduceGT, Int.reduceGE, Int.reduceEq, Int.reduceNe, decide_false, nat_0, nat_1, nat_2, nat_3, nat_4, nat_8, nat_16, nat_64, nat_128, Int.reduceToNat, AOp.stops, pre1_nil, hpre1_nil, ↓want_eq, wantV_bool, wantV_undef, ↓exec_lenX, lenX_snil, lenX_slc, ↓hr3, ↓exec_storeN, storeN_all hz3 (by omega : p ≤ p + 1) rep_len hC.len]; with_reducible rfl))))
  have hr6 : readN (H3.set (p + 1) (.own (W32 (core x 4)))) (p + 1) 0 16 = some (W32 (core x 4)) := by
    have := readN_all (hcells_set (cs := W32 (core x 4)) (hown_lt hz3))
    rw [hC.len] at this; exact this
  exact AW_ret ⟨_, by simp only [outA, resA, ressA, AV.tv, Option.map_some, List.take_succ_cons, List.take_zero, List.drop_succ_cons, List.drop_zero, bne_self_eq_false, List.map_cons, List.map_nil, Bool.true_beq, Bool.false_beq, run_nil, run_cons, run_gate, cont_some, gate_true, gate_false, hrun_nil, hrun_cons, hrun_gate, hcont_some, hgate_true, hgate_false, put_some, put_none, ev_t, ev_k, wantedA, execA, stepA, List.set_cons_succ, List.set_cons_zero, List.getD_cons_succ, List.getD_cons_zero, List.getElem?_cons_zero, List.getElem?_cons_succ, if_true, if_false, binA, binInt, unA, eqA, Option.map, eq_self, true_or, or_true, true_and, and_true, and_self, beq_self_eq_true, Bool.not_true, Bool.not_false, reduceCtorEq, Bool.false_eq_true, ite_true, ite_false, fitsAll, CK.fits, decide_true, Bool.and_true, Bool.true_and, fillA, AV.cells, writeN, readN, sliceCells, appendA, lenA, i64, loA, hiA, hcells_last, hown_last, List.take_zero, List.drop_zero, List.nil_append, List.cons_append, List.append_nil, List.take_nil, List.drop_nil, List.length_cons, List.length_nil, List.length_append, Nat.zero_add, Nat.add_zero, Nat.reduceAdd, Nat.reduceMul, Nat.reduceDiv, Nat.reduceSub, Nat.mul_one, Nat.one_mul, Nat.div_one, Nat.le_refl, Nat.reduceLeDiff, Nat.reduceLT, Int.toNat_natCast, Int.toNat_zero, Nat.zero_le, Int.natCast_nonneg, Int.reduceLE, Int.reduceLT, Option.some.injEq, foldA, maxA, minA, Cell.int.injEq, AV.c.injEq, pre_nil, pre_cons, pre_gate, pre1_cons, pre1_gate, qstop_true, qstop_false, qstopg_false, qgate_true, qgate_false, pcont_some, pstop_true, pstop_false, pstopg_false, pgate_true, pgate_false, hpre_nil, hpre_cons, hpre_gate, hpre1_cons, hpre1_gate, hqstop_true, hqstop_false, hqstopg_false, hqgate_true, hqgate_false, hpcont_some, hpstop_true, hpstop_false, hpstopg_false, hpgate_true, hpgate_false, Int.reduceBEq, Int.reduceBNe, Int.reduceGT, Int.reduceGE, Int.reduceEq, Int.reduceNe, decide_false, nat_0, nat_1, nat_2, nat_3, nat_4, nat_8, nat_16, nat_64, nat_128, Int.reduceToNat, AOp.stops, pre1_nil, hpre1_nil, ↓want_eq, wantV_bool, wantV_undef, ↓exec_lenX, lenX_snil, lenX_slc, ↓hr6] <;> with_reducible rfl, by rfl⟩

end PK

/- The document's bytes swapped: walked. -/
namespace PK
open Go PAbs
set_option linter.unusedSimpArgs false
set_option linter.unusedVariables false
set_option maxRecDepth 100000

end PK

/- Plain law: words taken byte by byte are the document's. -/
namespace PK
open Go PAbs
set_option linter.unusedSimpArgs false
set_option linter.unusedVariables false
set_option maxRecDepth 100000

end PK

/- Salsa of 64 bytes; SalsaBytes, walked. -/
namespace PK
open Go PAbs
set_option linter.unusedSimpArgs false
set_option linter.unusedVariables false
set_option maxRecDepth 100000
set_option maxHeartbeats 2000000

end PK

/- More facts for walks: copy; parts of lists; blocks of several cells. -/
namespace PAbs
open Go
set_option linter.unusedSimpArgs false
set_option linter.unusedVariables false

/-- copy -/
def copyX (sz fl : Nat) (H : AHeap) (d s : AV) : Option (AV × AHeap) :=
  match d, lenA s, sliceCells H sz s with
  | .c (.slc b o n sz'), some m, some cs => if sz' = sz then (writeN fl H b o (cs.take (min m n * sz))).map fun H' => (i64 (min m n : Nat), H') else none
  | _, _, _ => none
theorem exec_copyX {call : ACall} {fl sz : Nat} {fr : AFrame} {H : AHeap} {d s : AOpd} : execA call fl fr H (.copy sz d s) = copyX sz fl H (d.ev fr) (s.ev fr) := by
  simp only [execA, stepA, copyX]; rfl
theorem Rd.lenA {H : AHeap} {x : Cell} {cs : List Cell} (h : Rd H x 1 cs) : lenA (.c x) = some cs.length := by
  rcases h with ⟨rfl, rfl⟩ | ⟨s, o, n, rfl, h2, _⟩
  · rfl
  · simp only [PAbs.lenA]; rw [h2, Nat.mul_one]
theorem copyX_own {fl : Nat} {H : AHeap} {b o n k : Nat} {cs ns : List Cell} {x : Cell} (hb : hown H b = some cs) (hf : fl ≤ b) (hx : Rd H x 1 ns) (hk : min ns.length n = k) (ho : o + k ≤ cs.length) :
    copyX 1 fl H (.c (.slc b o n 1)) (.c x) = some (.c (.int .i64 (k : Int)), H.set b (.own (cs.take o ++ ns.take k ++ cs.drop (o + k)))) := by
  have hl : (ns.take k).length = k := by rw [List.length_take]; omega
  simp only [copyX, hx.lenA, hx.cells, if_true, Nat.mul_one, hk, writeN, hb, hl]
  rw [if_pos ⟨hf, ho⟩]; rfl

/-- a list with a part put in -/
def putL {α : Type} (l : List α) (o : Nat) (m : List α) : List α := l.take o ++ m ++ l.drop (o + m.length)
theorem putL_length {α : Type} {l m : List α} {o : Nat} (h : o + m.length ≤ l.length) : (putL l o m).length = l.length := by
  simp only [putL, List.length_append, List.length_take, List.length_drop]; omega
theorem putL_get {α : Type} {l m : List α} {o j : Nat} (h : o + m.length ≤ l.length) : (putL l o m)[j]? = if o ≤ j ∧ j < o + m.length then m[j - o]? else l[j]? := by
  have ht : (l.take o).length = o := by rw [List.length_take]; omega
  simp only [putL, List.getElem?_append, List.length_append, ht]
  by_cases h1 : j < o
  · rw [if_pos (by omega), if_pos h1, if_neg (by omega), List.getElem?_take, if_pos h1]
  · by_cases h2 : j < o + m.length
    · rw [if_pos h2, if_neg h1, if_pos ⟨by omega, h2⟩]
    · rw [if_neg h2, if_neg (by omega), List.getElem?_drop]
      congr 1; omega
/-- parts put together -/
def joinN {α : Type} (f : Nat → List α) : Nat → List α
  | 0 => []
  | n + 1 => joinN f n ++ f n
theorem joinN_length {α : Type} {f : Nat → List α} {k : Nat} (h : ∀ i, (f i).length = k) : ∀ n, (joinN f n).length = n * k
  | 0 => by simp [joinN]
  | n + 1 => by simp [joinN, joinN_length h n, h, Nat.add_mul]
theorem joinN_get {α : Type} {f : Nat → List α} {k : Nat} (h : ∀ i, (f i).length = k) : ∀ n j q, j < n → q < k → (joinN f n)[k * j + q]? = (f j)[q]?
  | 0, j, q, hj, _ => by omega
  | n + 1, j, q, hj, hq => by
    have hl := joinN_length h n
    simp only [joinN, List.getElem?_append, hl]
    have e := Nat.mul_comm n k
    rcases Nat.lt_or_ge j n with hj' | hj'
    · have h2 : k * j + k ≤ k * n := by rw [← Nat.mul_succ]; exact Nat.mul_le_mul_left _ hj'
      rw [if_pos (by omega)]
      exact joinN_get h n j q hj' hq
    · obtain rfl : j = n := by omega
      rw [if_neg (by omega)]
      congr 1; omega
theorem getD_of_get {α : Type} {l m : List α} {i j : Nat} {d : α} (h : l[i]? = m[j]?) : l.getD i d = m.getD j d := by rw [List.getD_eq_getElem?_getD, List.getD_eq_getElem?_getD, h]
theorem take_one' {α : Type} {l : List α} {i : Nat} {x : α} (h : l[i]? = some x) : l.take (i + 1) = l.take i ++ [x] := by rw [List.take_add_one, h]; rfl

/-- a place of a slice of one-cell elements, for facts -/
theorem Rd.at1 {H : AHeap} {u o n z : Nat} {cs : List Cell} (h : Rd H (.slc u o n z) 1 cs) (i : Nat) (hi : i < cs.length) : ∃ full, hcells H u = some full ∧ full[o + i]? = cs[i]? ∧ n = cs.length ∧ z = 1 := by
  obtain ⟨u', o', full, e, h1, h2⟩ := h.get hi
  cases e
  exact ⟨full, h1, h2, rfl, rfl⟩
/-- a slice of one's own -/
theorem Rd.all {H : AHeap} {b n : Nat} {cs : List Cell} (h : hcells H b = some cs) (hn : cs.length = n) : Rd H (.slc b 0 n 1) 1 cs := by
  subst hn; exact .inr ⟨b, 0, _, rfl, by omega, by rw [Nat.mul_one]; exact readN_all h⟩

theorem sliceX_from {H : AHeap} {b o n k sz : Nat} {cs : List Cell} (hb : hcells H b = some cs) (hk : k ≤ n) : sliceX sz H (.c (.slc b o n sz)) (some (.c (.int .i64 (k : Int)))) none = some (.c (.slc b (o + k * sz) (n - k) sz), H) := by
  have h3 : (0 : Int) ≤ (k : Int) := by omega
  simp only [sliceX, hiA, loA, h3, if_true, Int.toNat_natCast, hb]
  rw [if_pos ⟨trivial, by omega⟩]; rfl
end PAbs

/- Steps that go on until one lacks a fact, and stand there: the operation's value is an open term. -/
namespace PAbs
open Go
set_option linter.unusedSimpArgs false
set_option linter.unusedVariables false

section
variable {A : Nat → Option AFn} {fl : Nat} {ops rest : List AOper} {fr fr0 : AFrame} {H H0 : AHeap} {Q : AFrame → AHeap → Prop} {d : Option Nat} {X : Option (AV × AHeap)} {v : AV} {H' : AHeap}
/-- an operation of this value, then the rest -/
structure AX (A : Nat → Option AFn) (fl : Nat) (d : Option Nat) (rest : List AOper) (fr : AFrame) (X : Option (AV × AHeap)) (Q : AFrame → AHeap → Prop) : Prop where
  ex : ∃ v H', X = some (v, H') ∧ AO A fl rest (putA fr d v) H' Q
structure AHX (A : Nat → Option AFn) (d : Option Nat) (rest : List AOper) (fr : AFrame) (X : Option (AV × AHeap)) (Q : AFrame → AHeap → Prop) : Prop where
  ex : ∃ v H', X = some (v, H') ∧ AHd A rest (putA fr d v) H' Q
end
section
variable {A : Nat → Option AFn} {fl : Nat} {c : AOpd} {a b : ACode} {fr : AFrame} {H : AHeap} {Q : AExit → AFrame → AHeap → Prop}
theorem AW_ift (h : c.ev fr = .c (.bool true)) (h2 : AW A fl a fr H Q) : AW A fl (.cond c a b) fr H Q := AW_cond h (fun _ => h2) (fun h => by cases h)
theorem AW_iff (h : c.ev fr = .c (.bool false)) (h2 : AW A fl b fr H Q) : AW A fl (.cond c a b) fr H Q := AW_cond h (fun h => by cases h) (fun _ => h2)
end
theorem storeN_one {fl : Nat} {H : AHeap} {a x : AV} : storeN 1 fl H a x = storeX fl H a x := rfl
theorem storeN_lastp {n fl p : Nat} {H : AHeap} {cs vs : List Cell} (hp : p = H.length) (hf : fl ≤ p) (hc : cs.length = n) (hv : vs.length = n) : storeN n fl (H ++ [.own cs]) (.c (.ptr p 0)) (.agg vs) = some (aundef, H ++ [.own vs]) := by
  subst hp; exact storeN_last hf hc hv

/-! one form for all steps: what a row of steps comes to, an open term where a fact lacks -/
section
variable {A : Nat → Option AFn} {fl : Nat} {ops rest : List AOper} {fr fr0 : AFrame} {H H0 : AHeap} {Q : AFrame → AHeap → Prop} {p p' : Pre}
structure AP (A : Nat → Option AFn) (fl : Nat) (p : Pre) (Q : AFrame → AHeap → Prop) : Prop where
  ex : ∃ o f h, p = .at o f h ∧ AO A fl o f h Q
structure AHP (A : Nat → Option AFn) (p : Pre) (Q : AFrame → AHeap → Prop) : Prop where
  ex : ∃ o f h, p = .at o f h ∧ AHd A o f h Q
structure EqP (p p' : Pre) : Prop where
  e : p = p'
theorem EqP.at_ {o : List AOper} : EqP (.at o fr H) (.at o fr H) := ⟨rfl⟩
theorem EqP.cont {d : Option Nat} {X : Option (AV × AHeap)} : EqP (contP fl d rest fr X) (contP fl d rest fr X) := ⟨rfl⟩
theorem EqP.hcont {d : Option Nat} {X : Option (AV × AHeap)} : EqP (contHP d rest fr X) (contHP d rest fr X) := ⟨rfl⟩
theorem AO_any (h : EqP (evalPre1 fl ops fr H) p) (h2 : AP A fl p Q) : AO A fl ops fr H Q := by
  obtain ⟨o, f, g, rfl, h3⟩ := h2; exact AO_pre h.e h3
theorem AHd_any (h : EqP (hPre1 ops fr H) p) (h2 : AHP A p Q) : AHd A ops fr H Q := by
  obtain ⟨o, f, g, rfl, h3⟩ := h2; exact AHd_pre h.e h3
theorem AP_go (h : EqP p p') (h2 : AP A fl p' Q) : AP A fl p Q := by obtain ⟨rfl⟩ := h; exact h2
theorem AHP_go (h : EqP p p') (h2 : AHP A p' Q) : AHP A p Q := by obtain ⟨rfl⟩ := h; exact h2
theorem AP_at {o : List AOper} (h : AO A fl o fr H Q) : AP A fl (.at o fr H) Q := ⟨_, _, _, rfl, h⟩
theorem AHP_at {o : List AOper} (h : AHd A o fr H Q) : AHP A (.at o fr H) Q := ⟨_, _, _, rfl, h⟩
end
end PAbs

/- shuffle.Mix and Integer, walked. -/
namespace PK
open Go PAbs
set_option linter.unusedSimpArgs false
set_option linter.unusedVariables false
set_option maxRecDepth 100000
set_option maxHeartbeats 2000000

/-- sixteen words, put together with the i-th sixteen of a row -/
def mixIn (x ls : List Nat) (i : Nat) : Nat → List Nat := upd (fun k => x.getD k 0 ^^^ ls.getD (16 * i + k) 0) x
def lastW (ls : List Nat) : List Nat := (ls.drop (ls.length - 16)).take 16
def xsK (ls : List Nat) : Nat → List Nat
  | 0 => lastW ls
  | i + 1 => core (mixIn (xsK ls i) ls i 16) 4
/-- which block stands at place j -/
def ordr (r j : Nat) : Nat := if j < r then 2 * j else 2 * (j - r) + 1
theorem ordr_plc {r i : Nat} (h : i < 2 * r) : ordr r (plc r i) = i := by
  simp only [ordr, plc]; split <;> split at * <;> omega
theorem plc_ordr {r j : Nat} (h : j < 2 * r) : plc r (ordr r j) = j ∧ ordr r j < 2 * r := by
  simp only [ordr, plc]; split <;> split <;> omega
def mixW (r : Nat) (ls : List Nat) : List Nat := joinN (fun j => xsK ls (ordr r j + 1)) (2 * r)
/-- blocks as they are written -/
def outG (r : Nat) (f : Nat → List Nat) : Nat → List Nat
  | 0 => List.replicate (32 * r) 0
  | i + 1 => putL (outG r f i) (16 * plc r i) (f i)
theorem outG_length {r : Nat} {f : Nat → List Nat} (hf : ∀ i, (f i).length = 16) : ∀ i, i ≤ 2 * r → (outG r f i).length = 32 * r
  | 0, _ => by simp [outG]
  | i + 1, hi => by
    have hp := plc_lt (r := r) (i := i) (by omega)
    have ih := outG_length (r := r) hf i (by omega)
    have hx := hf i
    rw [outG, putL_length (l := outG r f i) (o := 16 * plc r i) (m := f i) (by rw [ih, hx]; omega), ih]
theorem outG_get {r : Nat} {f : Nat → List Nat} (hf : ∀ i, (f i).length = 16) : ∀ i, i ≤ 2 * r → ∀ j q, j < 2 * r → q < 16 → ordr r j < i → (outG r f i)[16 * j + q]? = (f (ordr r j))[q]?
  | 0, _, j, q, _, _, hj => by omega
  | i + 1, hi, j, q, hj, hq, ho => by
    have hp := plc_lt (r := r) (i := i) (by omega)
    have hx := hf i
    have ih := outG_length (r := r) hf i (by omega)
    rw [outG, putL_get (l := outG r f i) (o := 16 * plc r i) (m := f i) (by rw [ih, hx]; omega), hx]
    rcases Nat.lt_or_ge (ordr r j) i with h1 | h1
    · have hne : plc r i ≠ j := fun e => by have := ordr_plc (r := r) (i := i) (by omega); rw [e] at this; omega
      rw [if_neg (by omega)]
      exact outG_get hf i (by omega) j q hj hq h1
    · have e1 : ordr r j = i := by omega
      have e2 : plc r i = j := by rw [← e1]; exact (plc_ordr hj).1
      rw [if_pos (by omega), e2, e1]
      congr 1; omega
theorem outG_all {r : Nat} {f : Nat → List Nat} (hf : ∀ i, (f i).length = 16) : outG r f (2 * r) = joinN (fun j => f (ordr r j)) (2 * r) := by
  have hl : (joinN (fun j => f (ordr r j)) (2 * r)).length = 2 * r * 16 := joinN_length (fun i => hf _) _
  apply List.ext_getElem?
  intro k
  rcases Nat.lt_or_ge k (32 * r) with hk | hk
  · have e : k = 16 * (k / 16) + k % 16 := by omega
    rw [e, outG_get hf (2 * r) (Nat.le_refl _) (k / 16) (k % 16) (by omega) (by omega) (plc_ordr (by omega)).2, joinN_get (fun i => hf _) _ _ _ (by omega) (by omega)]
  · rw [List.getElem?_eq_none (by rw [outG_length hf _ (Nat.le_refl _)]; exact hk), List.getElem?_eq_none (by rw [hl]; omega)]
theorem joinN_get16 {r k : Nat} {f : Nat → List Nat} (hf : ∀ i, (f i).length = 16) (hk : k < 32 * r) : (joinN f (2 * r)).getD k 0 = (f (k / 16)).getD (k % 16) 0 := by
  have e : k = 16 * (k / 16) + k % 16 := by omega
  have e2 : (joinN f (2 * r))[k]? = (f (k / 16))[k % 16]? := by
    conv => lhs; rw [e]
    exact joinN_get hf _ _ _ (by omega) (by omega)
  exact getD_of_get e2
def outK (r : Nat) (ls : List Nat) (i : Nat) : List Nat := outG r (fun i => xsK ls (i + 1)) i

structure Row (r : Nat) (ls : List Nat) : Prop where
  len : ls.length = 32 * r
  pos : 1 ≤ r
  le : r ≤ 512
  lt : ∀ k, ls.getD k 0 < 4294967296

theorem getD_take {l : List Nat} {n k : Nat} : (l.take n).getD k 0 = if k < n then l.getD k 0 else 0 := by
  rw [List.getD_eq_getElem?_getD, List.getElem?_take, List.getD_eq_getElem?_getD]
  split <;> rfl
theorem getD_drop {l : List Nat} {n k : Nat} : (l.drop n).getD k 0 = l.getD (n + k) 0 := by
  rw [List.getD_eq_getElem?_getD, List.getElem?_drop, List.getD_eq_getElem?_getD]

section
variable {r : Nat} {ls : List Nat} (h : Row r ls)
include h
theorem Row.last : Words (lastW ls) := by
  have h1 := h.len; have h2 := h.pos
  refine ⟨by simp only [lastW, List.length_take, List.length_drop]; omega, fun k => ?_⟩
  simp only [lastW, getD_take, getD_drop]
  split
  · exact h.lt _
  · omega
theorem Row.mixIn {x : List Nat} (hx : Words x) (i : Nat) : ∀ k, Words (PK.mixIn x ls i k)
  | 0 => hx
  | k + 1 => (Row.mixIn hx i k).set (x32_lt (hx.2 _) (h.lt _))
theorem Row.xs : ∀ i, Words (xsK ls i)
  | 0 => h.last
  | i + 1 => (h.mixIn (Row.xs i) i 16).core 4
theorem Row.outK_length (i : Nat) (hi : i ≤ 2 * r) : (outK r ls i).length = 32 * r := outG_length (fun i => (h.xs _).1) i hi
theorem Row.outK_all : outK r ls (2 * r) = mixW r ls := outG_all (fun i => (h.xs _).1)
theorem mixW_length : (mixW r ls).length = 32 * r := by rw [mixW, joinN_length (fun i => (h.xs _).1)]; omega
theorem Row.mix : Row r (mixW r ls) := by
  refine ⟨mixW_length h, h.pos, h.le, fun k => ?_⟩
  rcases Nat.lt_or_ge k (32 * r) with hk | hk
  · rw [mixW, joinN_get16 (fun i => (h.xs _).1) hk]; exact (h.xs _).2 _
  · rw [List.getD_eq_getElem?_getD, List.getElem?_eq_none (by rw [mixW_length h]; exact hk)]; decide
end

theorem mixIn_self {x ls : List Nat} {i k : Nat} (h : k < x.length) : (mixIn x ls i k).getD k 0 = x.getD k 0 := getD_of_get (upd_self k h)
theorem mixIn_step {x ls : List Nat} {i k : Nat} : (mixIn x ls i k).set k (x.getD k 0 ^^^ ls.getD (16 * i + k) 0) = mixIn x ls i (k + 1) := rfl

theorem AC_shMix_bad (H : AHeap) (y : Cell) (ls : List Nat) (z : Int) (hy : Rd H y 1 (W32 ls)) (hb : whyE z ls.length ≠ 0) :
    AC A H.length F_shuffle_Mix [.c (.int .i64 z), .c y] H (fun v H' => v = .tup [.c .snil, .c (.int .i64 (whyE z ls.length))] ∧ H = H') := by
  refine AC_enter t_shuffle_Mix ?_; simp only [c_shuffle_Mix, enterA, List.replicate, List.length_cons, List.length_nil, Nat.reduceAdd, Nat.reduceSub, List.cons_append, List.nil_append]
  (repeat (first | with_reducible refine thenQ_n ?_ | with_reducible refine blockQ_n ?_ | refine AW_skip ?_ | refine AW_seq ?_ | refine AW_ops ?_ | refine AW_blockS ?_ | refine AW_blockR ?_ | refine AW_blockD ?_ | refine AW_blockC ?_ | refine AO_nil ?_ | refine AW_draw ?_ | refine AHd_nil ?_ | ((first | with_reducible apply AO_pre | with_reducible apply AHd_pre); focus (simp only [List.take_succ_cons, List.take_zero, List.drop_succ_cons, List.drop_zero, bne_self_eq_false, List.map_cons, List.map_nil, Bool.true_beq, Bool.false_beq, run_nil, run_cons, run_gate, cont_some, gate_true, gate_false, hrun_nil, hrun_cons, hrun_gate, hcont_some, hgate_true, hgate_false, put_some, put_none, ev_t, ev_k, wantedA, execA, stepA, List.set_cons_succ, List.set_cons_zero, List.getD_cons_succ, List.getD_cons_zero, List.getElem?_cons_zero, List.getElem?_cons_succ, if_true, if_false, binA, binInt, unA, eqA, Option.map, eq_self, true_or, or_true, true_and, and_true, and_self, beq_self_eq_true, Bool.not_true, Bool.not_false, reduceCtorEq, Bool.false_eq_true, ite_true, ite_false, fitsAll, CK.fits, decide_true, Bool.and_true, Bool.true_and, fillA, AV.cells, writeN, readN, sliceCells, appendA, lenA, i64, loA, hiA, hcells_last, hown_last, List.take_zero, List.drop_zero, List.nil_append, List.cons_append, List.append_nil, List.take_nil, List.drop_nil, List.length_cons, List.length_nil, List.length_append, Nat.zero_add, Nat.add_zero, Nat.reduceAdd, Nat.reduceMul, Nat.reduceDiv, Nat.reduceSub, Nat.mul_one, Nat.one_mul, Nat.div_one, Nat.le_refl, Nat.reduceLeDiff, Nat.reduceLT, Int.toNat_natCast, Int.toNat_zero, Nat.zero_le, Int.natCast_nonneg, Int.reduceLE, Int.reduceLT, Option.some.injEq, foldA, maxA, minA, Cell.int.injEq, AV.c.injEq, pre_nil, pre_cons, pre_gate, pre1_cons, pre1_gate, qstop_true, qstop_false, qstopg_false, qgate_true, qgate_false, pcont_some, pstop_true, pstop_false, pstopg_false, pgate_true, pgate_false, hpre_nil, hpre_cons, hpre_gate, hpre1_cons, hpre1_gate, hqstop_true, hqstop_false, hqstopg_false, hqgate_true, hqgate_false, hpcont_some, hpstop_true, hpstop_false, hpstopg_false, hpgate_true, hpgate_false, Int.reduceBEq, Int.reduceBNe, Int.reduceGT, Int.reduceGE, Int.reduceEq, Int.reduceNe, decide_false, nat_0, nat_1, nat_2, nat_3, nat_4, nat_8, nat_16, nat_64, nat_128, Int.reduceToNat, AOp.stops, pre1_nil, hpre1_nil, ↓want_eq, wantV_bool, wantV_undef, ↓exec_lenX, lenX_snil, lenX_slc]; with_reducible rfl))))
  refine AO_call rfl (AC_shCheck H y ls z hy) ?_
  rintro _ _ ⟨rfl, rfl⟩
  have e : (whyE z ls.length != 0) = true := bne_iff_ne.mpr hb
  (repeat (first | with_reducible refine thenQ_n ?_ | with_reducible refine blockQ_n ?_ | refine AW_skip ?_ | refine AW_seq ?_ | refine AW_ops ?_ | refine AW_blockS ?_ | refine AW_blockR ?_ | refine AW_blockD ?_ | refine AW_blockC ?_ | refine AO_nil ?_ | refine AW_draw ?_ | refine AHd_nil ?_ | ((first | with_reducible apply AO_pre | with_reducible apply AHd_pre); focus (simp only [List.take_succ_cons, List.take_zero, List.drop_succ_cons, List.drop_zero, bne_self_eq_false, List.map_cons, List.map_nil, Bool.true_beq, Bool.false_beq, run_nil, run_cons, run_gate, cont_some, gate_true, gate_false, hrun_nil, hrun_cons, hrun_gate, hcont_some, hgate_true, hgate_false, put_some, put_none, ev_t, ev_k, wantedA, execA, stepA, List.set_cons_succ, List.set_cons_zero, List.getD_cons_succ, List.getD_cons_zero, List.getElem?_cons_zero, List.getElem?_cons_succ, if_true, if_false, binA, binInt, unA, eqA, Option.map, eq_self, true_or, or_true, true_and, and_true, and_self, beq_self_eq_true, Bool.not_true, Bool.not_false, reduceCtorEq, Bool.false_eq_true, ite_true, ite_false, fitsAll, CK.fits, decide_true, Bool.and_true, Bool.true_and, fillA, AV.cells, writeN, readN, sliceCells, appendA, lenA, i64, loA, hiA, hcells_last, hown_last, List.take_zero, List.drop_zero, List.nil_append, List.cons_append, List.append_nil, List.take_nil, List.drop_nil, List.length_cons, List.length_nil, List.length_append, Nat.zero_add, Nat.add_zero, Nat.reduceAdd, Nat.reduceMul, Nat.reduceDiv, Nat.reduceSub, Nat.mul_one, Nat.one_mul, Nat.div_one, Nat.le_refl, Nat.reduceLeDiff, Nat.reduceLT, Int.toNat_natCast, Int.toNat_zero, Nat.zero_le, Int.natCast_nonneg, Int.reduceLE, Int.reduceLT, Option.some.injEq, foldA, maxA, minA, Cell.int.injEq, AV.c.injEq, pre_nil, pre_cons, pre_gate, pre1_cons, pre1_gate, qstop_true, qstop_false, qstopg_false, qgate_true, qgate_false, pcont_some, pstop_true, pstop_false, pstopg_false, pgate_true, pgate_false, hpre_nil, hpre_cons, hpre_gate, hpre1_cons, hpre1_gate, hqstop_true, hqstop_false, hqstopg_false, hqgate_true, hqgate_false, hpcont_some, hpstop_true, hpstop_false, hpstopg_false, hpgate_true, hpgate_false, Int.reduceBEq, Int.reduceBNe, Int.reduceGT, Int.reduceGE, Int.reduceEq, Int.reduceNe, decide_false, nat_0, nat_1, nat_2, nat_3, nat_4, nat_8, nat_16, nat_64, nat_128, Int.reduceToNat, AOp.stops, pre1_nil, hpre1_nil, ↓want_eq, wantV_bool, wantV_undef, ↓exec_lenX, lenX_snil, lenX_slc, e]; with_reducible rfl))))
  refine AW_cond (t := true) rfl (fun _ => ?_) (fun h => by cases h)
  (repeat (first | with_reducible refine thenQ_n ?_ | with_reducible refine blockQ_n ?_ | refine AW_skip ?_ | refine AW_seq ?_ | refine AW_ops ?_ | refine AW_blockS ?_ | refine AW_blockR ?_ | refine AW_blockD ?_ | refine AW_blockC ?_ | refine AO_nil ?_ | refine AW_draw ?_ | refine AHd_nil ?_ | ((first | with_reducible apply AO_pre | with_reducible apply AHd_pre); focus (simp only [List.take_succ_cons, List.take_zero, List.drop_succ_cons, List.drop_zero, bne_self_eq_false, List.map_cons, List.map_nil, Bool.true_beq, Bool.false_beq, run_nil, run_cons, run_gate, cont_some, gate_true, gate_false, hrun_nil, hrun_cons, hrun_gate, hcont_some, hgate_true, hgate_false, put_some, put_none, ev_t, ev_k, wantedA, execA, stepA, List.set_cons_succ, List.set_cons_zero, List.getD_cons_succ, List.getD_cons_zero, List.getElem?_cons_zero, List.getElem?_cons_succ, if_true, if_false, binA, binInt, unA, eqA, Option.map, eq_self, true_or, or_true, true_and, and_true, and_self, beq_self_eq_true, Bool.not_true, Bool.not_false, reduceCtorEq, Bool.false_eq_true, ite_true, ite_false, fitsAll, CK.fits, decide_true, Bool.and_true, Bool.true_and, fillA, AV.cells, writeN, readN, sliceCells, appendA, lenA, i64, loA, hiA, hcells_last, hown_last, List.take_zero, List.drop_zero, List.nil_append, List.cons_append, List.append_nil, List.take_nil, List.drop_nil, List.length_cons, List.length_nil, List.length_append, Nat.zero_add, Nat.add_zero, Nat.reduceAdd, Nat.reduceMul, Nat.reduceDiv, Nat.reduceSub, Nat.mul_one, Nat.one_mul, Nat.div_one, Nat.le_refl, Nat.reduceLeDiff, Nat.reduceLT, Int.toNat_natCast, Int.toNat_zero, Nat.zero_le, Int.natCast_nonneg, Int.reduceLE, Int.reduceLT, Option.some.injEq, foldA, maxA, minA, Cell.int.injEq, AV.c.injEq, pre_nil, pre_cons, pre_gate, pre1_cons, pre1_gate, qstop_true, qstop_false, qstopg_false, qgate_true, qgate_false, pcont_some, pstop_true, pstop_false, pstopg_false, pgate_true, pgate_false, hpre_nil, hpre_cons, hpre_gate, hpre1_cons, hpre1_gate, hqstop_true, hqstop_false, hqstopg_false, hqgate_true, hqgate_false, hpcont_some, hpstop_true, hpstop_false, hpstopg_false, hpgate_true, hpgate_false, Int.reduceBEq, Int.reduceBNe, Int.reduceGT, Int.reduceGE, Int.reduceEq, Int.reduceNe, decide_false, nat_0, nat_1, nat_2, nat_3, nat_4, nat_8, nat_16, nat_64, nat_128, Int.reduceToNat, AOp.stops, pre1_nil, hpre1_nil, ↓want_eq, wantV_bool, wantV_undef, ↓exec_lenX, lenX_snil, lenX_slc]; with_reducible rfl))))
  exact AW_ret ⟨_, rfl, rfl, rfl⟩


def mxI (y : Cell) (q o r : Nat) (ls : List Nat) (H0 : AHeap) (i : Nat) (fr : AFrame) (H : AHeap) : Prop :=
  Chg (fun b => b = o ∨ b = o + 1) H0 H ∧ hown H o = some (W32 (outK r ls i)) ∧ hown H (o + 1) = some (W32 (xsK ls i)) ∧ (∃ s : Nat → AV, fr = [s 0, .c y, s 2, s 3, s 4, s 5, s 6, .c (.slc q 0 (2 * r) 1), s 8, .c (.slc o 0 (32 * r) 1), .c (.ptr (o + 1) 0), s 11, s 12, s 13, s 14, s 15, s 16, s 17, s 18, s 19, s 20, s 21, s 22, s 23, s 24, s 25, s 26, s 27, s 28, s 29, s 30, s 31, s 32, s 33, s 34, .c (.int .i64 ((2 * r : Nat) : Int)), .c (.int .i64 (i : Int)), s 37, s 38, s 39, s 40, s 41, s 42, s 43, s 44, s 45, s 46, s 47, s 48, s 49, s 50, s 51, s 52, s 53, s 54, s 55, s 56, s 57, s 58, s 59, s 60, s 61, s 62, s 63, s 64, s 65, s 66, s 67])

def mxJ (y : Cell) (q o r i : Nat) (x ls : List Nat) (H0 : AHeap) (k : Nat) (fr : AFrame) (H : AHeap) : Prop :=
  Chg (· = o + 1) H0 H ∧ hown H (o + 1) = some (W32 (mixIn x ls i k)) ∧ (∃ s : Nat → AV, fr = [s 0, .c y, s 2, s 3, s 4, s 5, s 6, .c (.slc q 0 (2 * r) 1), s 8, .c (.slc o 0 (32 * r) 1), .c (.ptr (o + 1) 0), .c (.int .i64 (i : Int)), s 12, s 13, s 14, s 15, s 16, s 17, s 18, s 19, s 20, s 21, s 22, s 23, s 24, s 25, s 26, s 27, s 28, s 29, s 30, s 31, s 32, s 33, s 34, .c (.int .i64 ((2 * r : Nat) : Int)), .c (.int .i64 (i : Int)), s 37, s 38, .c (.int .i64 (k : Int)), s 40, s 41, s 42, s 43, s 44, s 45, s 46, s 47, s 48, s 49, s 50, s 51, s 52, s 53, s 54, s 55, s 56, s 57, s 58, s 59, s 60, s 61, s 62, s 63, s 64, s 65, s 66, s 67])

theorem whyE_ok {r n : Nat} (h1 : 1 ≤ r) (h2 : r ≤ 512) (h : n = 32 * r) : whyE (r : Int) n = 0 := by
  simp only [whyE]; rw [if_neg (by omega), if_neg (by omega)]

theorem AC_shMix (H : AHeap) (y : Cell) (ls : List Nat) (r : Nat) (hy : Rd H y 1 (W32 ls)) (h : Row r ls) :
    AC A H.length F_shuffle_Mix [.c (.int .i64 (r : Int)), .c y] H (fun v H' => ∃ o, v = .tup [.c (.slc o 0 (32 * r) 1), .c (.int .i64 0)] ∧ H.length ≤ o ∧ hown H' o = some (W32 (mixW r ls))) := by
  have yl : (W32 ls).length = ls.length := W32_length
  have hl := h.len; have hp := h.pos; have hle := h.le
  refine AC_enter t_shuffle_Mix ?_; simp only [c_shuffle_Mix, enterA, List.replicate, List.length_cons, List.length_nil, Nat.reduceAdd, Nat.reduceSub, List.cons_append, List.nil_append]
  (repeat (first | with_reducible refine thenQ_n ?_ | with_reducible refine blockQ_n ?_ | refine AW_skip ?_ | refine AW_seq ?_ | refine AW_ops ?_ | refine AW_blockS ?_ | refine AW_blockR ?_ | refine AW_blockD ?_ | refine AW_blockC ?_ | refine AO_nil ?_ | refine AW_draw ?_ | refine AHd_nil ?_ | ((first | with_reducible apply AO_pre | with_reducible apply AHd_pre); focus (simp only [List.take_succ_cons, List.take_zero, List.drop_succ_cons, List.drop_zero, bne_self_eq_false, List.map_cons, List.map_nil, Bool.true_beq, Bool.false_beq, run_nil, run_cons, run_gate, cont_some, gate_true, gate_false, hrun_nil, hrun_cons, hrun_gate, hcont_some, hgate_true, hgate_false, put_some, put_none, ev_t, ev_k, wantedA, execA, stepA, List.set_cons_succ, List.set_cons_zero, List.getD_cons_succ, List.getD_cons_zero, List.getElem?_cons_zero, List.getElem?_cons_succ, if_true, if_false, binA, binInt, unA, eqA, Option.map, eq_self, true_or, or_true, true_and, and_true, and_self, beq_self_eq_true, Bool.not_true, Bool.not_false, reduceCtorEq, Bool.false_eq_true, ite_true, ite_false, fitsAll, CK.fits, decide_true, Bool.and_true, Bool.true_and, fillA, AV.cells, writeN, readN, sliceCells, appendA, lenA, i64, loA, hiA, hcells_last, hown_last, List.take_zero, List.drop_zero, List.nil_append, List.cons_append, List.append_nil, List.take_nil, List.drop_nil, List.length_cons, List.length_nil, List.length_append, Nat.zero_add, Nat.add_zero, Nat.reduceAdd, Nat.reduceMul, Nat.reduceDiv, Nat.reduceSub, Nat.mul_one, Nat.one_mul, Nat.div_one, Nat.le_refl, Nat.reduceLeDiff, Nat.reduceLT, Int.toNat_natCast, Int.toNat_zero, Nat.zero_le, Int.natCast_nonneg, Int.reduceLE, Int.reduceLT, Option.some.injEq, foldA, maxA, minA, Cell.int.injEq, AV.c.injEq, pre_nil, pre_cons, pre_gate, pre1_cons, pre1_gate, qstop_true, qstop_false, qstopg_false, qgate_true, qgate_false, pcont_some, pstop_true, pstop_false, pstopg_false, pgate_true, pgate_false, hpre_nil, hpre_cons, hpre_gate, hpre1_cons, hpre1_gate, hqstop_true, hqstop_false, hqstopg_false, hqgate_true, hqgate_false, hpcont_some, hpstop_true, hpstop_false, hpstopg_false, hpgate_true, hpgate_false, Int.reduceBEq, Int.reduceBNe, Int.reduceGT, Int.reduceGE, Int.reduceEq, Int.reduceNe, decide_false, nat_0, nat_1, nat_2, nat_3, nat_4, nat_8, nat_16, nat_64, nat_128, Int.reduceToNat, AOp.stops, pre1_nil, hpre1_nil, ↓want_eq, wantV_bool, wantV_undef, ↓exec_lenX, lenX_snil, lenX_slc]; with_reducible rfl))))
  refine AO_call rfl (AC_shCheck H y ls r hy) ?_
  rintro _ _ ⟨rfl, rfl⟩
  rw [whyE_ok hp hle hl]
  (repeat (first | with_reducible refine thenQ_n ?_ | with_reducible refine blockQ_n ?_ | refine AW_skip ?_ | refine AW_seq ?_ | refine AW_ops ?_ | refine AW_blockS ?_ | refine AW_blockR ?_ | refine AW_blockD ?_ | refine AW_blockC ?_ | refine AO_nil ?_ | refine AW_draw ?_ | refine AHd_nil ?_ | ((first | with_reducible apply AO_pre | with_reducible apply AHd_pre); focus (simp only [List.take_succ_cons, List.take_zero, List.drop_succ_cons, List.drop_zero, bne_self_eq_false, List.map_cons, List.map_nil, Bool.true_beq, Bool.false_beq, run_nil, run_cons, run_gate, cont_some, gate_true, gate_false, hrun_nil, hrun_cons, hrun_gate, hcont_some, hgate_true, hgate_false, put_some, put_none, ev_t, ev_k, wantedA, execA, stepA, List.set_cons_succ, List.set_cons_zero, List.getD_cons_succ, List.getD_cons_zero, List.getElem?_cons_zero, List.getElem?_cons_succ, if_true, if_false, binA, binInt, unA, eqA, Option.map, eq_self, true_or, or_true, true_and, and_true, and_self, beq_self_eq_true, Bool.not_true, Bool.not_false, reduceCtorEq, Bool.false_eq_true, ite_true, ite_false, fitsAll, CK.fits, decide_true, Bool.and_true, Bool.true_and, fillA, AV.cells, writeN, readN, sliceCells, appendA, lenA, i64, loA, hiA, hcells_last, hown_last, List.take_zero, List.drop_zero, List.nil_append, List.cons_append, List.append_nil, List.take_nil, List.drop_nil, List.length_cons, List.length_nil, List.length_append, Nat.zero_add, Nat.add_zero, Nat.reduceAdd, Nat.reduceMul, Nat.reduceDiv, Nat.reduceSub, Nat.mul_one, Nat.one_mul, Nat.div_one, Nat.le_refl, Nat.reduceLeDiff, Nat.reduceLT, Int.toNat_natCast, Int.toNat_zero, Nat.zero_le, Int.natCast_nonneg, Int.reduceLE, Int.reduceLT, Option.some.injEq, foldA, maxA, minA, Cell.int.injEq, AV.c.injEq, pre_nil, pre_cons, pre_gate, pre1_cons, pre1_gate, qstop_true, qstop_false, qstopg_false, qgate_true, qgate_false, pcont_some, pstop_true, pstop_false, pstopg_false, pgate_true, pgate_false, hpre_nil, hpre_cons, hpre_gate, hpre1_cons, hpre1_gate, hqstop_true, hqstop_false, hqstopg_false, hqgate_true, hqgate_false, hpcont_some, hpstop_true, hpstop_false, hpstopg_false, hpgate_true, hpgate_false, Int.reduceBEq, Int.reduceBNe, Int.reduceGT, Int.reduceGE, Int.reduceEq, Int.reduceNe, decide_false, nat_0, nat_1, nat_2, nat_3, nat_4, nat_8, nat_16, nat_64, nat_128, Int.reduceToNat, AOp.stops, pre1_nil, hpre1_nil, ↓want_eq, wantV_bool, wantV_undef, ↓exec_lenX, lenX_snil, lenX_slc]; with_reducible rfl))))
  refine AW_cond (t := false) rfl (fun h => by cases h) fun _ => ?_
  (repeat (first | with_reducible refine thenQ_n ?_ | with_reducible refine blockQ_n ?_ | refine AW_skip ?_ | refine AW_seq ?_ | refine AW_ops ?_ | refine AW_blockS ?_ | refine AW_blockR ?_ | refine AW_blockD ?_ | refine AW_blockC ?_ | refine AO_nil ?_ | refine AW_draw ?_ | refine AHd_nil ?_ | ((first | with_reducible apply AO_pre | with_reducible apply AHd_pre); focus (simp only [List.take_succ_cons, List.take_zero, List.drop_succ_cons, List.drop_zero, bne_self_eq_false, List.map_cons, List.map_nil, Bool.true_beq, Bool.false_beq, run_nil, run_cons, run_gate, cont_some, gate_true, gate_false, hrun_nil, hrun_cons, hrun_gate, hcont_some, hgate_true, hgate_false, put_some, put_none, ev_t, ev_k, wantedA, execA, stepA, List.set_cons_succ, List.set_cons_zero, List.getD_cons_succ, List.getD_cons_zero, List.getElem?_cons_zero, List.getElem?_cons_succ, if_true, if_false, binA, binInt, unA, eqA, Option.map, eq_self, true_or, or_true, true_and, and_true, and_self, beq_self_eq_true, Bool.not_true, Bool.not_false, reduceCtorEq, Bool.false_eq_true, ite_true, ite_false, fitsAll, CK.fits, decide_true, Bool.and_true, Bool.true_and, fillA, AV.cells, writeN, readN, sliceCells, appendA, lenA, i64, loA, hiA, hcells_last, hown_last, List.take_zero, List.drop_zero, List.nil_append, List.cons_append, List.append_nil, List.take_nil, List.drop_nil, List.length_cons, List.length_nil, List.length_append, Nat.zero_add, Nat.add_zero, Nat.reduceAdd, Nat.reduceMul, Nat.reduceDiv, Nat.reduceSub, Nat.mul_one, Nat.one_mul, Nat.div_one, Nat.le_refl, Nat.reduceLeDiff, Nat.reduceLT, Int.toNat_natCast, Int.toNat_zero, Nat.zero_le, Int.natCast_nonneg, Int.reduceLE, Int.reduceLT, Option.some.injEq, foldA, maxA, minA, Cell.int.injEq, AV.c.injEq, pre_nil, pre_cons, pre_gate, pre1_cons, pre1_gate, qstop_true, qstop_false, qstopg_false, qgate_true, qgate_false, pcont_some, pstop_true, pstop_false, pstopg_false, pgate_true, pgate_false, hpre_nil, hpre_cons, hpre_gate, hpre1_cons, hpre1_gate, hqstop_true, hqstop_false, hqstopg_false, hqgate_true, hqgate_false, hpcont_some, hpstop_true, hpstop_false, hpstopg_false, hpgate_true, hpgate_false, Int.reduceBEq, Int.reduceBNe, Int.reduceGT, Int.reduceGE, Int.reduceEq, Int.reduceNe, decide_false, nat_0, nat_1, nat_2, nat_3, nat_4, nat_8, nat_16, nat_64, nat_128, Int.reduceToNat, AOp.stops, pre1_nil, hpre1_nil, ↓want_eq, wantV_bool, wantV_undef, ↓exec_lenX, lenX_snil, lenX_slc]; with_reducible rfl))))
  refine AO_call rfl ((AC_Places H (r : Int) (by omega)).kept (Nat.le_refl _)) ?_
  rintro v H1 ⟨hv, k1⟩
  rcases hv with ⟨hv, _⟩ | ⟨_, _, q, rfl, hq, ho⟩
  · omega
  rw [Int.toNat_natCast] at ho ⊢
  have hy1 := hy.kept k1
  have hl1 := k1.1
  have b1 : ((32 * r : Nat) : Int) * 4 ≤ 140737488355328 := by omega
  have e1 : IntKind.i64.wrap (((32 * r : Nat) : Int) - 16) = ((32 * r - 16 : Nat) : Int) := by rw [i64_of (by omega) (by omega)]; omega
  have hyl : ∀ b, inX y b → b < H.length := fun b hb => hy.lt hb
  (repeat (first | with_reducible refine thenQ_n ?_ | with_reducible refine blockQ_n ?_ | refine AW_skip ?_ | refine AW_seq ?_ | refine AW_ops ?_ | refine AW_blockS ?_ | refine AW_blockR ?_ | refine AW_blockD ?_ | refine AW_blockC ?_ | refine AO_nil ?_ | refine AW_draw ?_ | refine AHd_nil ?_ | ((first | with_reducible apply AO_pre | with_reducible apply AHd_pre); focus (simp only [List.take_succ_cons, List.take_zero, List.drop_succ_cons, List.drop_zero, bne_self_eq_false, List.map_cons, List.map_nil, Bool.true_beq, Bool.false_beq, run_nil, run_cons, run_gate, cont_some, gate_true, gate_false, hrun_nil, hrun_cons, hrun_gate, hcont_some, hgate_true, hgate_false, put_some, put_none, ev_t, ev_k, wantedA, execA, stepA, List.set_cons_succ, List.set_cons_zero, List.getD_cons_succ, List.getD_cons_zero, List.getElem?_cons_zero, List.getElem?_cons_succ, if_true, if_false, binA, binInt, unA, eqA, Option.map, eq_self, true_or, or_true, true_and, and_true, and_self, beq_self_eq_true, Bool.not_true, Bool.not_false, reduceCtorEq, Bool.false_eq_true, ite_true, ite_false, fitsAll, CK.fits, decide_true, Bool.and_true, Bool.true_and, fillA, AV.cells, writeN, readN, sliceCells, appendA, lenA, i64, loA, hiA, hcells_last, hown_last, List.take_zero, List.drop_zero, List.nil_append, List.cons_append, List.append_nil, List.take_nil, List.drop_nil, List.length_cons, List.length_nil, List.length_append, Nat.zero_add, Nat.add_zero, Nat.reduceAdd, Nat.reduceMul, Nat.reduceDiv, Nat.reduceSub, Nat.mul_one, Nat.one_mul, Nat.div_one, Nat.le_refl, Nat.reduceLeDiff, Nat.reduceLT, Int.toNat_natCast, Int.toNat_zero, Nat.zero_le, Int.natCast_nonneg, Int.reduceLE, Int.reduceLT, Option.some.injEq, foldA, maxA, minA, Cell.int.injEq, AV.c.injEq, pre_nil, pre_cons, pre_gate, pre1_cons, pre1_gate, qstop_true, qstop_false, qstopg_false, qgate_true, qgate_false, pcont_some, pstop_true, pstop_false, pstopg_false, pgate_true, pgate_false, hpre_nil, hpre_cons, hpre_gate, hpre1_cons, hpre1_gate, hqstop_true, hqstop_false, hqstopg_false, hqgate_true, hqgate_false, hpcont_some, hpstop_true, hpstop_false, hpstopg_false, hpgate_true, hpgate_false, Int.reduceBEq, Int.reduceBNe, Int.reduceGT, Int.reduceGE, Int.reduceEq, Int.reduceNe, decide_false, nat_0, nat_1, nat_2, nat_3, nat_4, nat_8, nat_16, nat_64, nat_128, Int.reduceToNat, AOp.stops, pre1_nil, hpre1_nil, ↓want_eq, wantV_bool, wantV_undef, ↓exec_lenX, lenX_snil, lenX_slc, hy1.len1 _ (yl.trans hl), b1, Int.le_refl, zeros32]; with_reducible rfl))))
  have hy2 : Rd (H1 ++ [Blk.own (W32 (List.replicate (32 * r) 0))]) y 1 (W32 ls) := hy1.kept (Kept.push _ _ _)
  obtain ⟨y', hs, hy', hin⟩ := hy2.slice_from (k := 32 * r - 16) (by rw [yl]; omega)
  have hlast : (W32 ls).drop (32 * r - 16) = W32 (lastW ls) := by
    simp only [lastW, W32, ← List.map_drop, hl]
    rw [List.take_of_length_le (by rw [List.length_drop]; omega)]
  rw [hlast] at hy'
  have hL := h.last
  rcases hy' with ⟨_, h1⟩ | ⟨u, uo, n, rfl, hn, hr⟩
  · have := hL.len; rw [h1] at this; simp at this
  obtain rfl : n = 16 := by have := hL.len; omega
  rw [Nat.mul_one] at hr
  have hu : u < H1.length + 1 := by have := hyl u (hin u ⟨_, _, _, rfl⟩); omega
  have ho2 := hown_app (l := [Blk.own (W32 (List.replicate (32 * r) 0))]) ho
  have hql := hown_lt ho
  have e2 : IntKind.i64.wrap (2 * (r : Int)) = ((2 * r : Nat) : Int) := by rw [i64_of (by omega) (by omega)]; omega
  obtain ⟨full, hcu⟩ : ∃ full, hcells (H1 ++ [Blk.own (W32 (List.replicate (32 * r) 0))]) u = some full := by
    cases hcu : hcells (H1 ++ [Blk.own (W32 (List.replicate (32 * r) 0))]) u with
    | none => simp only [readN, hcu] at hr; cases hr
    | some full => exact ⟨full, rfl⟩
  (repeat (first | with_reducible refine thenQ_n ?_ | with_reducible refine blockQ_n ?_ | refine AW_skip ?_ | refine AW_seq ?_ | refine AW_ops ?_ | refine AW_blockS ?_ | refine AW_blockR ?_ | refine AW_blockD ?_ | refine AW_blockC ?_ | refine AO_nil ?_ | refine AW_draw ?_ | refine AHd_nil ?_ | with_reducible refine AP_at ?_ | with_reducible refine AHP_at ?_ | ((first | with_reducible apply AO_any | with_reducible apply AHd_any | with_reducible apply AP_go | with_reducible apply AHP_go); focus (simp only [List.take_succ_cons, List.take_zero, List.drop_succ_cons, List.drop_zero, bne_self_eq_false, List.map_cons, List.map_nil, Bool.true_beq, Bool.false_beq, run_nil, run_cons, run_gate, cont_some, gate_true, gate_false, hrun_nil, hrun_cons, hrun_gate, hcont_some, hgate_true, hgate_false, put_some, put_none, ev_t, ev_k, wantedA, execA, stepA, List.set_cons_succ, List.set_cons_zero, List.getD_cons_succ, List.getD_cons_zero, List.getElem?_cons_zero, List.getElem?_cons_succ, if_true, if_false, binA, binInt, unA, eqA, Option.map, eq_self, true_or, or_true, true_and, and_true, and_self, beq_self_eq_true, Bool.not_true, Bool.not_false, reduceCtorEq, Bool.false_eq_true, ite_true, ite_false, fitsAll, CK.fits, decide_true, Bool.and_true, Bool.true_and, fillA, AV.cells, writeN, sliceCells, appendA, lenA, i64, loA, hiA, hcells_last, hown_last, List.take_zero, List.drop_zero, List.nil_append, List.cons_append, List.append_nil, List.take_nil, List.drop_nil, List.length_cons, List.length_nil, List.length_append, Nat.zero_add, Nat.add_zero, Nat.reduceAdd, Nat.reduceMul, Nat.reduceDiv, Nat.reduceSub, Nat.mul_one, Nat.one_mul, Nat.div_one, Nat.le_refl, Nat.reduceLeDiff, Nat.reduceLT, Int.toNat_natCast, Int.toNat_zero, Nat.zero_le, Int.natCast_nonneg, Int.reduceLE, Int.reduceLT, Option.some.injEq, foldA, maxA, minA, Cell.int.injEq, AV.c.injEq, pre_nil, pre_cons, pre_gate, pre1_cons, pre1_gate, qstop_true, qstop_false, qstopg_false, qgate_true, qgate_false, pcont_some, pstop_true, pstop_false, pstopg_false, pgate_true, pgate_false, hpre_nil, hpre_cons, hpre_gate, hpre1_cons, hpre1_gate, hqstop_true, hqstop_false, hqstopg_false, hqgate_true, hqgate_false, hpcont_some, hpstop_true, hpstop_false, hpstopg_false, hpgate_true, hpgate_false, Int.reduceBEq, Int.reduceBNe, Int.reduceGT, Int.reduceGE, Int.reduceEq, Int.reduceNe, decide_false, nat_0, nat_1, nat_2, nat_3, nat_4, nat_8, nat_16, nat_64, nat_128, Int.reduceToNat, AOp.stops, pre1_nil, hpre1_nil, ↓want_eq, wantV_bool, wantV_undef, ↓exec_lenX, lenX_snil, lenX_slc, ↓exec_storeX, ↓exec_storeN, storeN_one, ↓exec_bsX, ↓exec_sliceX, ↓exec_copyX, ↓exec_appNil, Nat.sub_zero, Nat.reduceLT, rep_len, hy2.len1 _ (yl.trans hl), e1, e2, hs, hcu, ↓hr, storeN_lastp (by simp : H1.length + 1 = (H1 ++ [Blk.own (W32 (List.replicate (32 * r) 0))]).length) (by omega : H.length ≤ H1.length + 1), rep_len, hL.len]; with_reducible first | exact EqP.at_ | exact EqP.cont | exact EqP.hcont)) | ((first | refine AW_ift ?_ ?_ | fail); focus (simp only [ev_t, List.getD_cons_succ, List.getD_cons_zero]; done)) | ((first | refine AW_iff ?_ ?_ | fail); focus (simp only [ev_t, List.getD_cons_succ, List.getD_cons_zero]; done))))
  have ho3 := hown_app (l := [Blk.own (W32 (lastW ls))]) ho2
  have hy3 : Rd (H1 ++ [Blk.own (W32 (List.replicate (32 * r) 0))] ++ [Blk.own (W32 (lastW ls))]) y 1 (W32 ls) := hy2.kept (Kept.push _ _ _)
  have g0 : hown (H1 ++ [Blk.own (W32 (List.replicate (32 * r) 0))] ++ [Blk.own (W32 (lastW ls))]) H1.length = some (W32 (List.replicate (32 * r) 0)) := hown_app hown_last
  have g1 : hown (H1 ++ [Blk.own (W32 (List.replicate (32 * r) 0))] ++ [Blk.own (W32 (lastW ls))]) (H1.length + 1) = some (W32 (lastW ls)) := by
    have := hown_last (H := H1 ++ [Blk.own (W32 (List.replicate (32 * r) 0))]) (cs := W32 (lastW ls))
    simpa using this
  clear ho ho2 hy2 hr hcu hs
  generalize H1 ++ [Blk.own (W32 (List.replicate (32 * r) 0))] ++ [Blk.own (W32 (lastW ls))] = H2 at *
  have hyo : ∀ b, inX y b → ¬ (b = H1.length ∨ b = H1.length + 1) := fun b hb => by have := hyl b hb; omega
  have hqo : ¬ (q = H1.length ∨ q = H1.length + 1) := by omega
  clear hy1 k1 hu hql hin
  generalize hoe : H1.length = o at *
  refine AW_mid (fun e fr H' => e = .normal ∧ mxI y q o r ls H2 (2 * r) fr H') ?_ ?_
  · refine AW_block (AW_up (mxI y q o r ls H2) (2 * r) ⟨Chg.refl _ _, g0, g1, stale _ _ rfl⟩ ?_)
    rintro i fr H3 hi ⟨c3, o3, x3, st, rfl⟩
    (repeat (first | with_reducible refine thenQ_n ?_ | with_reducible refine blockQ_n ?_ | refine AW_skip ?_ | refine AW_seq ?_ | refine AW_ops ?_ | refine AW_blockS ?_ | refine AW_blockR ?_ | refine AW_blockD ?_ | refine AW_blockC ?_ | refine AO_nil ?_ | refine AW_draw ?_ | refine AHd_nil ?_ | ((first | with_reducible apply AO_pre | with_reducible apply AHd_pre); focus (simp only [List.take_succ_cons, List.take_zero, List.drop_succ_cons, List.drop_zero, bne_self_eq_false, List.map_cons, List.map_nil, Bool.true_beq, Bool.false_beq, run_nil, run_cons, run_gate, cont_some, gate_true, gate_false, hrun_nil, hrun_cons, hrun_gate, hcont_some, hgate_true, hgate_false, put_some, put_none, ev_t, ev_k, wantedA, execA, stepA, List.set_cons_succ, List.set_cons_zero, List.getD_cons_succ, List.getD_cons_zero, List.getElem?_cons_zero, List.getElem?_cons_succ, if_true, if_false, binA, binInt, unA, eqA, Option.map, eq_self, true_or, or_true, true_and, and_true, and_self, beq_self_eq_true, Bool.not_true, Bool.not_false, reduceCtorEq, Bool.false_eq_true, ite_true, ite_false, fitsAll, CK.fits, decide_true, Bool.and_true, Bool.true_and, fillA, AV.cells, writeN, readN, sliceCells, appendA, lenA, i64, loA, hiA, hcells_last, hown_last, List.take_zero, List.drop_zero, List.nil_append, List.cons_append, List.append_nil, List.take_nil, List.drop_nil, List.length_cons, List.length_nil, List.length_append, Nat.zero_add, Nat.add_zero, Nat.reduceAdd, Nat.reduceMul, Nat.reduceDiv, Nat.reduceSub, Nat.mul_one, Nat.one_mul, Nat.div_one, Nat.le_refl, Nat.reduceLeDiff, Nat.reduceLT, Int.toNat_natCast, Int.toNat_zero, Nat.zero_le, Int.natCast_nonneg, Int.reduceLE, Int.reduceLT, Option.some.injEq, foldA, maxA, minA, Cell.int.injEq, AV.c.injEq, pre_nil, pre_cons, pre_gate, pre1_cons, pre1_gate, qstop_true, qstop_false, qstopg_false, qgate_true, qgate_false, pcont_some, pstop_true, pstop_false, pstopg_false, pgate_true, pgate_false, hpre_nil, hpre_cons, hpre_gate, hpre1_cons, hpre1_gate, hqstop_true, hqstop_false, hqstopg_false, hqgate_true, hqgate_false, hpcont_some, hpstop_true, hpstop_false, hpstopg_false, hpgate_true, hpgate_false, Int.reduceBEq, Int.reduceBNe, Int.reduceGT, Int.reduceGE, Int.reduceEq, Int.reduceNe, decide_false, nat_0, nat_1, nat_2, nat_3, nat_4, nat_8, nat_16, nat_64, nat_128, Int.reduceToNat, AOp.stops, pre1_nil, hpre1_nil, ↓want_eq, wantV_bool, wantV_undef, ↓exec_lenX, lenX_snil, lenX_slc]; with_reducible rfl))))
    refine AW_cond rfl ?_ ?_ <;> intro ht
    · have ht : (i : Int) < ((2 * r : Nat) : Int) := of_decide_eq_true ht
      have hi2 : i < 2 * r := by omega
      have hX := h.xs i
      (repeat (first | with_reducible refine thenQ_n ?_ | with_reducible refine blockQ_n ?_ | refine AW_skip ?_ | refine AW_seq ?_ | refine AW_ops ?_ | refine AW_blockS ?_ | refine AW_blockR ?_ | refine AW_blockD ?_ | refine AW_blockC ?_ | refine AO_nil ?_ | refine AW_draw ?_ | refine AHd_nil ?_ | ((first | with_reducible apply AO_pre | with_reducible apply AHd_pre); focus (simp only [List.take_succ_cons, List.take_zero, List.drop_succ_cons, List.drop_zero, bne_self_eq_false, List.map_cons, List.map_nil, Bool.true_beq, Bool.false_beq, run_nil, run_cons, run_gate, cont_some, gate_true, gate_false, hrun_nil, hrun_cons, hrun_gate, hcont_some, hgate_true, hgate_false, put_some, put_none, ev_t, ev_k, wantedA, execA, stepA, List.set_cons_succ, List.set_cons_zero, List.getD_cons_succ, List.getD_cons_zero, List.getElem?_cons_zero, List.getElem?_cons_succ, if_true, if_false, binA, binInt, unA, eqA, Option.map, eq_self, true_or, or_true, true_and, and_true, and_self, beq_self_eq_true, Bool.not_true, Bool.not_false, reduceCtorEq, Bool.false_eq_true, ite_true, ite_false, fitsAll, CK.fits, decide_true, Bool.and_true, Bool.true_and, fillA, AV.cells, writeN, readN, sliceCells, appendA, lenA, i64, loA, hiA, hcells_last, hown_last, List.take_zero, List.drop_zero, List.nil_append, List.cons_append, List.append_nil, List.take_nil, List.drop_nil, List.length_cons, List.length_nil, List.length_append, Nat.zero_add, Nat.add_zero, Nat.reduceAdd, Nat.reduceMul, Nat.reduceDiv, Nat.reduceSub, Nat.mul_one, Nat.one_mul, Nat.div_one, Nat.le_refl, Nat.reduceLeDiff, Nat.reduceLT, Int.toNat_natCast, Int.toNat_zero, Nat.zero_le, Int.natCast_nonneg, Int.reduceLE, Int.reduceLT, Option.some.injEq, foldA, maxA, minA, Cell.int.injEq, AV.c.injEq, pre_nil, pre_cons, pre_gate, pre1_cons, pre1_gate, qstop_true, qstop_false, qstopg_false, qgate_true, qgate_false, pcont_some, pstop_true, pstop_false, pstopg_false, pgate_true, pgate_false, hpre_nil, hpre_cons, hpre_gate, hpre1_cons, hpre1_gate, hqstop_true, hqstop_false, hqstopg_false, hqgate_true, hqgate_false, hpcont_some, hpstop_true, hpstop_false, hpstopg_false, hpgate_true, hpgate_false, Int.reduceBEq, Int.reduceBNe, Int.reduceGT, Int.reduceGE, Int.reduceEq, Int.reduceNe, decide_false, nat_0, nat_1, nat_2, nat_3, nat_4, nat_8, nat_16, nat_64, nat_128, Int.reduceToNat, AOp.stops, pre1_nil, hpre1_nil, ↓want_eq, wantV_bool, wantV_undef, ↓exec_lenX, lenX_snil, lenX_slc]; with_reducible rfl))))
      refine AW_mid (fun e fr H' => e = .normal ∧ mxJ y q o r i (xsK ls i) ls H3 16 fr H') ?_ ?_
      · refine AW_block (AW_up (mxJ y q o r i (xsK ls i) ls H3) 16 ⟨Chg.refl _ _, x3, stale _ _ rfl⟩ ?_)
        rintro k fr H4 hk ⟨c4, x4, st, rfl⟩
        (repeat (first | with_reducible refine thenQ_n ?_ | with_reducible refine blockQ_n ?_ | refine AW_skip ?_ | refine AW_seq ?_ | refine AW_ops ?_ | refine AW_blockS ?_ | refine AW_blockR ?_ | refine AW_blockD ?_ | refine AW_blockC ?_ | refine AO_nil ?_ | refine AW_draw ?_ | refine AHd_nil ?_ | ((first | with_reducible apply AO_pre | with_reducible apply AHd_pre); focus (simp only [List.take_succ_cons, List.take_zero, List.drop_succ_cons, List.drop_zero, bne_self_eq_false, List.map_cons, List.map_nil, Bool.true_beq, Bool.false_beq, run_nil, run_cons, run_gate, cont_some, gate_true, gate_false, hrun_nil, hrun_cons, hrun_gate, hcont_some, hgate_true, hgate_false, put_some, put_none, ev_t, ev_k, wantedA, execA, stepA, List.set_cons_succ, List.set_cons_zero, List.getD_cons_succ, List.getD_cons_zero, List.getElem?_cons_zero, List.getElem?_cons_succ, if_true, if_false, binA, binInt, unA, eqA, Option.map, eq_self, true_or, or_true, true_and, and_true, and_self, beq_self_eq_true, Bool.not_true, Bool.not_false, reduceCtorEq, Bool.false_eq_true, ite_true, ite_false, fitsAll, CK.fits, decide_true, Bool.and_true, Bool.true_and, fillA, AV.cells, writeN, readN, sliceCells, appendA, lenA, i64, loA, hiA, hcells_last, hown_last, List.take_zero, List.drop_zero, List.nil_append, List.cons_append, List.append_nil, List.take_nil, List.drop_nil, List.length_cons, List.length_nil, List.length_append, Nat.zero_add, Nat.add_zero, Nat.reduceAdd, Nat.reduceMul, Nat.reduceDiv, Nat.reduceSub, Nat.mul_one, Nat.one_mul, Nat.div_one, Nat.le_refl, Nat.reduceLeDiff, Nat.reduceLT, Int.toNat_natCast, Int.toNat_zero, Nat.zero_le, Int.natCast_nonneg, Int.reduceLE, Int.reduceLT, Option.some.injEq, foldA, maxA, minA, Cell.int.injEq, AV.c.injEq, pre_nil, pre_cons, pre_gate, pre1_cons, pre1_gate, qstop_true, qstop_false, qstopg_false, qgate_true, qgate_false, pcont_some, pstop_true, pstop_false, pstopg_false, pgate_true, pgate_false, hpre_nil, hpre_cons, hpre_gate, hpre1_cons, hpre1_gate, hqstop_true, hqstop_false, hqstopg_false, hqgate_true, hqgate_false, hpcont_some, hpstop_true, hpstop_false, hpstopg_false, hpgate_true, hpgate_false, Int.reduceBEq, Int.reduceBNe, Int.reduceGT, Int.reduceGE, Int.reduceEq, Int.reduceNe, decide_false, nat_0, nat_1, nat_2, nat_3, nat_4, nat_8, nat_16, nat_64, nat_128, Int.reduceToNat, AOp.stops, pre1_nil, hpre1_nil, ↓want_eq, wantV_bool, wantV_undef, ↓exec_lenX, lenX_snil, lenX_slc]; with_reducible rfl))))
        refine AW_cond rfl ?_ ?_ <;> intro ht4
        · have ht4 : (k : Int) < 16 := of_decide_eq_true ht4
          have hk2 : k < 16 := by omega
          have hy4 : Rd H4 y 1 (W32 ls) := (hy3.chg c3 hyo).chg c4 fun b hb e => hyo b hb (.inr e)
          have e3 : IntKind.i64.wrap (16 * (i : Int)) = ((16 * i : Nat) : Int) := by rw [i64_of (by omega) (by omega)]; omega
          have e4 : IntKind.i64.wrap (((16 * i : Nat) : Int) + (k : Int)) = ((16 * i + k : Nat) : Int) := i64_add (by omega)
          have hM := h.mixIn hX i k
          have gx := hM.get hk2
          rw [mixIn_self (by rw [hX.1]; exact hk2)] at gx
          obtain ⟨u, uo, full, rfl, hf, hg⟩ := hy4.get (i := 16 * i + k) (by rw [yl]; omega)
          rw [W32_get (by omega)] at hg
          have b3 : ((16 * i + k : Nat) : Int) < (((W32 ls).length : Nat) : Int) := by rw [yl]; omega
          have ex := xor32 (hX.2 k) (h.lt (16 * i + k))
          (repeat (first | with_reducible refine thenQ_n ?_ | with_reducible refine blockQ_n ?_ | refine AW_skip ?_ | refine AW_seq ?_ | refine AW_ops ?_ | refine AW_blockS ?_ | refine AW_blockR ?_ | refine AW_blockD ?_ | refine AW_blockC ?_ | refine AO_nil ?_ | refine AW_draw ?_ | refine AHd_nil ?_ | ((first | with_reducible apply AO_pre | with_reducible apply AHd_pre); focus (simp only [List.take_succ_cons, List.take_zero, List.drop_succ_cons, List.drop_zero, bne_self_eq_false, List.map_cons, List.map_nil, Bool.true_beq, Bool.false_beq, run_nil, run_cons, run_gate, cont_some, gate_true, gate_false, hrun_nil, hrun_cons, hrun_gate, hcont_some, hgate_true, hgate_false, put_some, put_none, ev_t, ev_k, wantedA, execA, stepA, List.set_cons_succ, List.set_cons_zero, List.getD_cons_succ, List.getD_cons_zero, List.getElem?_cons_zero, List.getElem?_cons_succ, if_true, if_false, binA, binInt, unA, eqA, Option.map, eq_self, true_or, or_true, true_and, and_true, and_self, beq_self_eq_true, Bool.not_true, Bool.not_false, reduceCtorEq, Bool.false_eq_true, ite_true, ite_false, fitsAll, CK.fits, decide_true, Bool.and_true, Bool.true_and, fillA, AV.cells, writeN, readN, sliceCells, appendA, lenA, i64, loA, hiA, hcells_last, hown_last, List.take_zero, List.drop_zero, List.nil_append, List.cons_append, List.append_nil, List.take_nil, List.drop_nil, List.length_cons, List.length_nil, List.length_append, Nat.zero_add, Nat.add_zero, Nat.reduceAdd, Nat.reduceMul, Nat.reduceDiv, Nat.reduceSub, Nat.mul_one, Nat.one_mul, Nat.div_one, Nat.le_refl, Nat.reduceLeDiff, Nat.reduceLT, Int.toNat_natCast, Int.toNat_zero, Nat.zero_le, Int.natCast_nonneg, Int.reduceLE, Int.reduceLT, Option.some.injEq, foldA, maxA, minA, Cell.int.injEq, AV.c.injEq, pre_nil, pre_cons, pre_gate, pre1_cons, pre1_gate, qstop_true, qstop_false, qstopg_false, qgate_true, qgate_false, pcont_some, pstop_true, pstop_false, pstopg_false, pgate_true, pgate_false, hpre_nil, hpre_cons, hpre_gate, hpre1_cons, hpre1_gate, hqstop_true, hqstop_false, hqstopg_false, hqgate_true, hqgate_false, hpcont_some, hpstop_true, hpstop_false, hpstopg_false, hpgate_true, hpgate_false, Int.reduceBEq, Int.reduceBNe, Int.reduceGT, Int.reduceGE, Int.reduceEq, Int.reduceNe, decide_false, nat_0, nat_1, nat_2, nat_3, nat_4, nat_8, nat_16, nat_64, nat_128, Int.reduceToNat, AOp.stops, pre1_nil, hpre1_nil, ↓want_eq, wantV_bool, wantV_undef, ↓exec_lenX, lenX_snil, lenX_slc, hcells_own x4, ht4, gx, e3, e4, hf, hg, b3, ex, ↓exec_storeX, storeX_own x4 (by omega : H.length ≤ o + 1) (by rw [hM.len]; exact hk2 : k < _), Nat.zero_add, i64_succ (show k < 9223372036854775807 by omega)]; with_reducible rfl))))
          refine ⟨hk2, c4.trans (Chg.set (S := (· = o + 1)) rfl) fun _ _ h => h, ?_, stale _ _ rfl⟩
          rw [hown_set (hown_lt x4), W32_setL, mixIn_step]
        · obtain rfl : k = 16 := by have : ¬ (k : Int) < 16 := of_decide_eq_false ht4; omega
          exact AW_exit ⟨rfl, c4, x4, stale _ _ rfl⟩
      rintro e fr H4 ⟨rfl, c4, x4, st, rfl⟩
      have hM := h.mixIn hX i 16
      have hr4 : readN H4 (o + 1) 0 16 = some (W32 (mixIn (xsK ls i) ls i 16)) := by have := readN_all (hcells_own x4); rw [hM.len] at this; exact this
      (repeat (first | with_reducible refine thenQ_n ?_ | with_reducible refine blockQ_n ?_ | refine AW_skip ?_ | refine AW_seq ?_ | refine AW_ops ?_ | refine AW_blockS ?_ | refine AW_blockR ?_ | refine AW_blockD ?_ | refine AW_blockC ?_ | refine AO_nil ?_ | refine AW_draw ?_ | refine AHd_nil ?_ | ((first | with_reducible apply AO_pre | with_reducible apply AHd_pre); focus (simp only [List.take_succ_cons, List.take_zero, List.drop_succ_cons, List.drop_zero, bne_self_eq_false, List.map_cons, List.map_nil, Bool.true_beq, Bool.false_beq, run_nil, run_cons, run_gate, cont_some, gate_true, gate_false, hrun_nil, hrun_cons, hrun_gate, hcont_some, hgate_true, hgate_false, put_some, put_none, ev_t, ev_k, wantedA, execA, stepA, List.set_cons_succ, List.set_cons_zero, List.getD_cons_succ, List.getD_cons_zero, List.getElem?_cons_zero, List.getElem?_cons_succ, if_true, if_false, binA, binInt, unA, eqA, Option.map, eq_self, true_or, or_true, true_and, and_true, and_self, beq_self_eq_true, Bool.not_true, Bool.not_false, reduceCtorEq, Bool.false_eq_true, ite_true, ite_false, fitsAll, CK.fits, decide_true, Bool.and_true, Bool.true_and, fillA, AV.cells, writeN, readN, sliceCells, appendA, lenA, i64, loA, hiA, hcells_last, hown_last, List.take_zero, List.drop_zero, List.nil_append, List.cons_append, List.append_nil, List.take_nil, List.drop_nil, List.length_cons, List.length_nil, List.length_append, Nat.zero_add, Nat.add_zero, Nat.reduceAdd, Nat.reduceMul, Nat.reduceDiv, Nat.reduceSub, Nat.mul_one, Nat.one_mul, Nat.div_one, Nat.le_refl, Nat.reduceLeDiff, Nat.reduceLT, Int.toNat_natCast, Int.toNat_zero, Nat.zero_le, Int.natCast_nonneg, Int.reduceLE, Int.reduceLT, Option.some.injEq, foldA, maxA, minA, Cell.int.injEq, AV.c.injEq, pre_nil, pre_cons, pre_gate, pre1_cons, pre1_gate, qstop_true, qstop_false, qstopg_false, qgate_true, qgate_false, pcont_some, pstop_true, pstop_false, pstopg_false, pgate_true, pgate_false, hpre_nil, hpre_cons, hpre_gate, hpre1_cons, hpre1_gate, hqstop_true, hqstop_false, hqstopg_false, hqgate_true, hqgate_false, hpcont_some, hpstop_true, hpstop_false, hpstopg_false, hpgate_true, hpgate_false, Int.reduceBEq, Int.reduceBNe, Int.reduceGT, Int.reduceGE, Int.reduceEq, Int.reduceNe, decide_false, nat_0, nat_1, nat_2, nat_3, nat_4, nat_8, nat_16, nat_64, nat_128, Int.reduceToNat, AOp.stops, pre1_nil, hpre1_nil, ↓want_eq, wantV_bool, wantV_undef, ↓exec_lenX, lenX_snil, lenX_slc, ↓hr4]; with_reducible rfl))))
      refine AO_call rfl ((AC_Eight H4 _ hM).kept (by have := c3.1; have := c4.1; have := hown_lt x4; omega)) ?_
      rintro _ H5 ⟨rfl, k5⟩
      have c5 := Chg.of_kept k5
      have x5 := c5.hown (fun h => h) x4
      have o5 := c5.hown (fun h => h) (c4.hown (by omega : ¬ o = o + 1) o3)
      have q5 := c5.hown (fun h => h) (c4.hown (by omega : ¬ q = o + 1) (c3.hown hqo ho3))
      have hC : Words (core (mixIn (xsK ls i) ls i 16) 4) := h.xs (i + 1)
      have eC : xsK ls (i + 1) = core (mixIn (xsK ls i) ls i 16) 4 := rfl
      have hol := h.outK_length i (by omega)
      have hput := putL_length (l := outK r ls i) (m := xsK ls (i + 1)) (o := 16 * plc r i) (by rw [eC, hC.1, hol]; have := plc_lt hi2; omega)
      have hout : outK r ls (i + 1) = putL (outK r ls i) (16 * plc r i) (xsK ls (i + 1)) := rfl
      rw [eC] at hout hput
      generalize core (mixIn (xsK ls i) ls i 16) 4 = C at *
      have hp := plc_lt hi2
      (repeat (first | with_reducible refine thenQ_n ?_ | with_reducible refine blockQ_n ?_ | refine AW_skip ?_ | refine AW_seq ?_ | refine AW_ops ?_ | refine AW_blockS ?_ | refine AW_blockR ?_ | refine AW_blockD ?_ | refine AW_blockC ?_ | refine AO_nil ?_ | refine AW_draw ?_ | refine AHd_nil ?_ | ((first | with_reducible apply AO_pre | with_reducible apply AHd_pre); focus (simp only [List.take_succ_cons, List.take_zero, List.drop_succ_cons, List.drop_zero, bne_self_eq_false, List.map_cons, List.map_nil, Bool.true_beq, Bool.false_beq, run_nil, run_cons, run_gate, cont_some, gate_true, gate_false, hrun_nil, hrun_cons, hrun_gate, hcont_some, hgate_true, hgate_false, put_some, put_none, ev_t, ev_k, wantedA, execA, stepA, List.set_cons_succ, List.set_cons_zero, List.getD_cons_succ, List.getD_cons_zero, List.getElem?_cons_zero, List.getElem?_cons_succ, if_true, if_false, binA, binInt, unA, eqA, Option.map, eq_self, true_or, or_true, true_and, and_true, and_self, beq_self_eq_true, Bool.not_true, Bool.not_false, reduceCtorEq, Bool.false_eq_true, ite_true, ite_false, fitsAll, CK.fits, decide_true, Bool.and_true, Bool.true_and, fillA, AV.cells, writeN, readN, sliceCells, appendA, lenA, i64, loA, hiA, hcells_last, hown_last, List.take_zero, List.drop_zero, List.nil_append, List.cons_append, List.append_nil, List.take_nil, List.drop_nil, List.length_cons, List.length_nil, List.length_append, Nat.zero_add, Nat.add_zero, Nat.reduceAdd, Nat.reduceMul, Nat.reduceDiv, Nat.reduceSub, Nat.mul_one, Nat.one_mul, Nat.div_one, Nat.le_refl, Nat.reduceLeDiff, Nat.reduceLT, Int.toNat_natCast, Int.toNat_zero, Nat.zero_le, Int.natCast_nonneg, Int.reduceLE, Int.reduceLT, Option.some.injEq, foldA, maxA, minA, Cell.int.injEq, AV.c.injEq, pre_nil, pre_cons, pre_gate, pre1_cons, pre1_gate, qstop_true, qstop_false, qstopg_false, qgate_true, qgate_false, pcont_some, pstop_true, pstop_false, pstopg_false, pgate_true, pgate_false, hpre_nil, hpre_cons, hpre_gate, hpre1_cons, hpre1_gate, hqstop_true, hqstop_false, hqstopg_false, hqgate_true, hqgate_false, hpcont_some, hpstop_true, hpstop_false, hpstopg_false, hpgate_true, hpgate_false, Int.reduceBEq, Int.reduceBNe, Int.reduceGT, Int.reduceGE, Int.reduceEq, Int.reduceNe, decide_false, nat_0, nat_1, nat_2, nat_3, nat_4, nat_8, nat_16, nat_64, nat_128, Int.reduceToNat, AOp.stops, pre1_nil, hpre1_nil, ↓want_eq, wantV_bool, wantV_undef, ↓exec_lenX, lenX_snil, lenX_slc, ↓exec_storeN, storeN_all x5 (by omega : H.length ≤ o + 1) hM.len hC.len]; with_reducible rfl))))
      have o6 : hown (H5.set (o + 1) (.own (W32 C))) o = some (W32 (outK r ls i)) := by rw [hown_set_ne (by omega)]; exact o5
      have q6 : hown (H5.set (o + 1) (.own (W32 C))) q = some (I64 (upd (plc r) (List.replicate (2 * r) 0) (2 * r))) := by rw [hown_set_ne (by omega)]; exact q5
      have x6 : hown (H5.set (o + 1) (.own (W32 C))) (o + 1) = some (W32 C) := hown_set (hown_lt x5)
      have c6 : Chg (fun b => b = o ∨ b = o + 1) H2 (H5.set (o + 1) (.own (W32 C))) := ((c3.trans c4 fun _ _ h => .inr h).trans c5 fun _ _ h => h.elim).trans (Chg.set (S := (· = o + 1)) rfl) fun _ _ h => .inr h
      clear o5 q5 x5 c5 k5 c4 x4 c3 o3 x3 hr4
      generalize H5.set (o + 1) (.own (W32 C)) = H6 at *
      have gq : (I64 (upd (plc r) (List.replicate (2 * r) 0) (2 * r)))[i]? = some (.int .i64 ((plc r i : Nat) : Int)) := by
        have ul : (upd (plc r) (List.replicate (2 * r) 0) (2 * r)).length = 2 * r := by rw [upd_length]; simp
        rw [I64_get (by rw [ul]; exact hi2), List.getD_eq_getElem?_getD, upd_get _ _ (by simpa using hi2), if_pos hi2]; rfl
      have e5 : IntKind.i64.wrap (16 * ((plc r i : Nat) : Int)) = ((16 * plc r i : Nat) : Int) := by rw [i64_of (by omega) (by omega)]; omega
      have l6 : (W32 (outK r ls i)).length = 32 * r := by rw [W32_length, hol]
      have a6 : 0 + 16 * 1 ≤ (W32 C).length := by rw [hC.len]; omega
      (repeat (first | with_reducible refine thenQ_n ?_ | with_reducible refine blockQ_n ?_ | refine AW_skip ?_ | refine AW_seq ?_ | refine AW_ops ?_ | refine AW_blockS ?_ | refine AW_blockR ?_ | refine AW_blockD ?_ | refine AW_blockC ?_ | refine AO_nil ?_ | refine AW_draw ?_ | refine AHd_nil ?_ | ((first | with_reducible apply AO_pre | with_reducible apply AHd_pre); focus (simp only [List.take_succ_cons, List.take_zero, List.drop_succ_cons, List.drop_zero, bne_self_eq_false, List.map_cons, List.map_nil, Bool.true_beq, Bool.false_beq, run_nil, run_cons, run_gate, cont_some, gate_true, gate_false, hrun_nil, hrun_cons, hrun_gate, hcont_some, hgate_true, hgate_false, put_some, put_none, ev_t, ev_k, wantedA, execA, stepA, List.set_cons_succ, List.set_cons_zero, List.getD_cons_succ, List.getD_cons_zero, List.getElem?_cons_zero, List.getElem?_cons_succ, if_true, if_false, binA, binInt, unA, eqA, Option.map, eq_self, true_or, or_true, true_and, and_true, and_self, beq_self_eq_true, Bool.not_true, Bool.not_false, reduceCtorEq, Bool.false_eq_true, ite_true, ite_false, fitsAll, CK.fits, decide_true, Bool.and_true, Bool.true_and, fillA, AV.cells, writeN, readN, sliceCells, appendA, lenA, i64, loA, hiA, hcells_last, hown_last, List.take_zero, List.drop_zero, List.nil_append, List.cons_append, List.append_nil, List.take_nil, List.drop_nil, List.length_cons, List.length_nil, List.length_append, Nat.zero_add, Nat.add_zero, Nat.reduceAdd, Nat.reduceMul, Nat.reduceDiv, Nat.reduceSub, Nat.mul_one, Nat.one_mul, Nat.div_one, Nat.le_refl, Nat.reduceLeDiff, Nat.reduceLT, Int.toNat_natCast, Int.toNat_zero, Nat.zero_le, Int.natCast_nonneg, Int.reduceLE, Int.reduceLT, Option.some.injEq, foldA, maxA, minA, Cell.int.injEq, AV.c.injEq, pre_nil, pre_cons, pre_gate, pre1_cons, pre1_gate, qstop_true, qstop_false, qstopg_false, qgate_true, qgate_false, pcont_some, pstop_true, pstop_false, pstopg_false, pgate_true, pgate_false, hpre_nil, hpre_cons, hpre_gate, hpre1_cons, hpre1_gate, hqstop_true, hqstop_false, hqstopg_false, hqgate_true, hqgate_false, hpcont_some, hpstop_true, hpstop_false, hpstopg_false, hpgate_true, hpgate_false, Int.reduceBEq, Int.reduceBNe, Int.reduceGT, Int.reduceGE, Int.reduceEq, Int.reduceNe, decide_false, nat_0, nat_1, nat_2, nat_3, nat_4, nat_8, nat_16, nat_64, nat_128, Int.reduceToNat, AOp.stops, pre1_nil, hpre1_nil, ↓want_eq, wantV_bool, wantV_undef, ↓exec_lenX, lenX_snil, lenX_slc, hcells_own q6, ht, gq, e5, Nat.zero_add, Nat.mul_one, ↓exec_sliceX, sliceX_from (hcells_own o6) (by omega : 16 * plc r i ≤ 32 * r), hcells_own x6, hC.len, Nat.sub_zero, ↓exec_copyX, copyX_own o6 (by omega : H.length ≤ o) (Rd.all (hcells_own x6) hC.len) (by rw [hC.len]; omega : min _ (32 * r - 16 * plc r i) = 16) (by rw [l6]; omega : 16 * plc r i + 16 ≤ _), i64_succ (show i < 9223372036854775807 by omega)]; with_reducible rfl))))
      have e8 : (W32 C).take 16 = W32 C := List.take_of_length_le (by rw [hC.len]; omega)
      have e7 : List.take (16 * plc r i) (W32 (outK r ls i)) ++ List.take 16 (W32 C) ++ List.drop (16 * plc r i + 16) (W32 (outK r ls i)) = W32 (outK r ls (i + 1)) := by
        rw [hout, e8]
        simp only [putL, W32, List.map_append, List.map_take, List.map_drop, hC.1]
      rw [e7]
      refine ⟨hi2, c6.trans (Chg.set (S := (· = o)) rfl) fun _ _ h => .inl h, ?_, ?_, stale _ _ rfl⟩
      · exact hown_set (hown_lt o6)
      · rw [hown_set_ne (by omega), eC]; exact x6
    · obtain rfl : i = 2 * r := by have : ¬ (i : Int) < ((2 * r : Nat) : Int) := of_decide_eq_false ht; omega
      exact AW_exit ⟨rfl, c3, o3, x3, stale _ _ rfl⟩
  rintro e fr H3 ⟨rfl, c3, o3, x3, st, rfl⟩
  rw [h.outK_all] at o3
  (repeat (first | with_reducible refine thenQ_n ?_ | with_reducible refine blockQ_n ?_ | refine AW_skip ?_ | refine AW_seq ?_ | refine AW_ops ?_ | refine AW_blockS ?_ | refine AW_blockR ?_ | refine AW_blockD ?_ | refine AW_blockC ?_ | refine AO_nil ?_ | refine AW_draw ?_ | refine AHd_nil ?_ | ((first | with_reducible apply AO_pre | with_reducible apply AHd_pre); focus (simp only [List.take_succ_cons, List.take_zero, List.drop_succ_cons, List.drop_zero, bne_self_eq_false, List.map_cons, List.map_nil, Bool.true_beq, Bool.false_beq, run_nil, run_cons, run_gate, cont_some, gate_true, gate_false, hrun_nil, hrun_cons, hrun_gate, hcont_some, hgate_true, hgate_false, put_some, put_none, ev_t, ev_k, wantedA, execA, stepA, List.set_cons_succ, List.set_cons_zero, List.getD_cons_succ, List.getD_cons_zero, List.getElem?_cons_zero, List.getElem?_cons_succ, if_true, if_false, binA, binInt, unA, eqA, Option.map, eq_self, true_or, or_true, true_and, and_true, and_self, beq_self_eq_true, Bool.not_true, Bool.not_false, reduceCtorEq, Bool.false_eq_true, ite_true, ite_false, fitsAll, CK.fits, decide_true, Bool.and_true, Bool.true_and, fillA, AV.cells, writeN, readN, sliceCells, appendA, lenA, i64, loA, hiA, hcells_last, hown_last, List.take_zero, List.drop_zero, List.nil_append, List.cons_append, List.append_nil, List.take_nil, List.drop_nil, List.length_cons, List.length_nil, List.length_append, Nat.zero_add, Nat.add_zero, Nat.reduceAdd, Nat.reduceMul, Nat.reduceDiv, Nat.reduceSub, Nat.mul_one, Nat.one_mul, Nat.div_one, Nat.le_refl, Nat.reduceLeDiff, Nat.reduceLT, Int.toNat_natCast, Int.toNat_zero, Nat.zero_le, Int.natCast_nonneg, Int.reduceLE, Int.reduceLT, Option.some.injEq, foldA, maxA, minA, Cell.int.injEq, AV.c.injEq, pre_nil, pre_cons, pre_gate, pre1_cons, pre1_gate, qstop_true, qstop_false, qstopg_false, qgate_true, qgate_false, pcont_some, pstop_true, pstop_false, pstopg_false, pgate_true, pgate_false, hpre_nil, hpre_cons, hpre_gate, hpre1_cons, hpre1_gate, hqstop_true, hqstop_false, hqstopg_false, hqgate_true, hqgate_false, hpcont_some, hpstop_true, hpstop_false, hpstopg_false, hpgate_true, hpgate_false, Int.reduceBEq, Int.reduceBNe, Int.reduceGT, Int.reduceGE, Int.reduceEq, Int.reduceNe, decide_false, nat_0, nat_1, nat_2, nat_3, nat_4, nat_8, nat_16, nat_64, nat_128, Int.reduceToNat, AOp.stops, pre1_nil, hpre1_nil, ↓want_eq, wantV_bool, wantV_undef, ↓exec_lenX, lenX_snil, lenX_slc]; with_reducible rfl))))
  exact AW_ret ⟨_, rfl, o, rfl, by omega, o3⟩
end PK
