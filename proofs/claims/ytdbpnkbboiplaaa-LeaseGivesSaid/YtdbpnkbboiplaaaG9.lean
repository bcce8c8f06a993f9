/- Texts of this claim, put together: L21a KPestlelaw21 L21b. -/
import Derived.Test.YtdbpnkbboiplaaaG8
/- Package lease: Open, Take, Held, Peak, Close. -/
namespace PK
open Go PAbs
set_option linter.unusedSimpArgs false
set_option linter.unusedVariables false
set_option maxRecDepth 100000
set_option maxHeartbeats 4000000

abbrev Pcs := List (Nat × Nat × Nat)
def bl (ps : Pcs) : List Nat := ps.flatMap fun p => [p.1, p.2.1]
def sumP (ps : Pcs) : Nat := (ps.map fun p => p.2.2).sum
def ptrP (ps : Pcs) : List Cell := ps.map fun p => Cell.ptr p.1 0
theorem bl_app (a b : Pcs) : bl (a ++ b) = bl a ++ bl b := List.flatMap_append ..
theorem sumP_app (a b : Pcs) : sumP (a ++ b) = sumP a + sumP b := by simp [sumP]
theorem ptrP_app (a b : Pcs) : ptrP (a ++ b) = ptrP a ++ ptrP b := by simp [ptrP]
theorem bl_mem {ps : Pcs} {p : Nat × Nat × Nat} (h : p ∈ ps) : p.1 ∈ bl ps ∧ p.2.1 ∈ bl ps := by
  simp only [bl, List.mem_flatMap]; exact ⟨⟨p, h, by simp⟩, ⟨p, h, by simp⟩⟩
theorem bl_of {ps : Pcs} {b : Nat} (h : b ∈ bl ps) : ∃ p ∈ ps, b = p.1 ∨ b = p.2.1 := by
  simp only [bl, List.mem_flatMap] at h
  obtain ⟨p, hp, hb⟩ := h
  exact ⟨p, hp, by simpa using hb⟩
theorem sumP_take_le (ps : Pcs) (i : Nat) : sumP (ps.take i) ≤ sumP ps := by
  have := List.take_append_drop i ps
  conv => rhs; rw [← this]
  rw [sumP_app]; omega

def foot (L : Nat) (y : Cell) (ps : Pcs) (b : Nat) : Prop := b = L ∨ inX y b ∨ b ∈ bl ps
structure LeaseAt (fl : Nat) (H : AHeap) (L a : Nat) (y : Cell) (op : Bool) (hi : Nat) (ps : Pcs) : Prop where
  own : hown H L = some [.ptr a 0, y, .bool op, .int .i64 (hi : Int)]
  ys : OwnT fl H y 1 (ptrP ps)
  pcs : ∀ p ∈ ps, ∃ cs, PieceAt H p.1 a p.2.1 p.2.2 true cs
  nd : (bl ps).Nodup
  La : L ≠ a
  Ly : ¬ inX y L
  Lb : L ∉ bl ps
  ya : ¬ inX y a
  yb : ∀ b ∈ bl ps, ¬ inX y b
  ab : a ∉ bl ps
  low : fl ≤ L ∧ ∀ b ∈ bl ps, fl ≤ b
theorem LeaseAt.chg {fl : Nat} {S : Nat → Prop} {H H' : AHeap} {L a : Nat} {y : Cell} {op : Bool} {hi : Nat} {ps : Pcs} (h : LeaseAt fl H L a y op hi ps) (hc : Chg S H H') (hs : ∀ b, foot L y ps b → ¬ S b) : LeaseAt fl H' L a y op hi ps :=
  ⟨hc.hown (hs L (.inl rfl)) h.own, h.ys.chg hc (fun b hb => hs b (.inr (.inl hb))), fun p hp => by
    obtain ⟨cs, hcs⟩ := h.pcs p hp
    exact ⟨cs, hcs.chg hc (hs _ (.inr (.inr (bl_mem hp).1))) (hs _ (.inr (.inr (bl_mem hp).2)))⟩, h.nd, h.La, h.Ly, h.Lb, h.ya, h.yb, h.ab, h.low⟩
theorem LeaseAt.kept {fl : Nat} {H H' : AHeap} {L a : Nat} {y : Cell} {op : Bool} {hi : Nat} {ps : Pcs} (h : LeaseAt fl H L a y op hi ps) (k : Kept H.length H H') : LeaseAt fl H' L a y op hi ps := h.chg (Chg.of_kept k) (fun _ _ h => h)
theorem LeaseAt.lt {fl : Nat} {H : AHeap} {L a : Nat} {y : Cell} {op : Bool} {hi : Nat} {ps : Pcs} (h : LeaseAt fl H L a y op hi ps) {b : Nat} (hb : foot L y ps b) : b < H.length := by
  rcases hb with rfl | hb | hb
  · exact hown_lt h.own
  · exact h.ys.lt hb
  · obtain ⟨p, hp, hb⟩ := bl_of hb
    obtain ⟨cs, hcs⟩ := h.pcs p hp
    rcases hb with rfl | rfl
    · exact hown_lt hcs.own
    · exact hown_lt hcs.blk

section
variable (fl : Nat) (H : AHeap)
theorem AC_leOpen_nil : AC A fl F_lease_Open [.c .pnil] H (fun v H' => v = .tup [.c .pnil, .c (.int .i64 11)] ∧ H = H') := by
  refine AC_enter t_lease_Open ?_; simp only [c_lease_Open, enterA, List.replicate, List.length_cons, List.length_nil, Nat.reduceAdd, Nat.reduceSub, List.cons_append, List.nil_append]
  (repeat (first | with_reducible (first | refine thenQ_n ?_ | refine blockQ_n ?_ | refine thenQ_e ?_ | refine thenQ_r ?_ | refine blockQ_r ?_ | refine blockQ_s ?_ | refine blockQ_o rfl ?_) | refine AW_skip ?_ | refine AW_seq ?_ | refine AW_ops ?_ | refine AW_blockS ?_ | refine AW_blockR ?_ | refine AW_blockD ?_ | refine AW_blockC ?_ | refine AO_nil ?_ | refine AW_draw ?_ | refine AW_draw3 ?_ | refine AW_blockD3 ?_ | (refine AW_drawA ?_; simp only [atBlk, Sm]) | refine AHd_nil ?_ | with_reducible (first | refine AP_at ?_ | refine AHP_at ?_) | (with_reducible (first | apply AO_any | apply AHd_any | apply AP_go | apply AHP_go); focus (simp only [Sm, wantedA, execA, stepA, List.getElem?_cons_zero, List.getElem?_cons_succ, if_true, if_false, binA, binInt, unA, eqA, Option.map, eq_self, reduceCtorEq, ite_true, ite_false, cellsAV, fitsAll, CK.fits, fillA, AV.cells, writeN, sliceCells, appendA, lenA, i64, loA, hiA, Nat.reduceAdd, Nat.reduceMul, Nat.reduceDiv, Nat.reduceSub, Nat.reduceLeDiff, Nat.reduceLT, Int.reduceLE, Int.reduceLT, foldA, maxA, minA, Int.reduceBEq, Int.reduceBNe, Int.reduceGT, Int.reduceGE, Int.reduceEq, Int.reduceNe, Int.reduceToNat, AOp.stops, ↓want_eq, ↓exec_lenX, ↓exec_storeX, ↓exec_storeN, storeN_one, ↓exec_bsX, ↓exec_sliceX, ↓exec_copyX, ↓exec_appNil, ↓exec_carryX, Nat.sub_zero, rep_len]; with_reducible first | exact EqP.at_ | exact EqP.cont | exact EqP.hcont | exact EqP.gate | exact EqP.hgate)) | (refine AW_ift ?_ ?_; focus (simp only [Sm]; done)) | (refine AW_iff ?_ ?_; focus (simp only [Sm]; done))))
  exact AW_ret ⟨_, rfl, rfl, rfl⟩
theorem AC_leOpen (a : Nat) (ha : ∃ cs, hown H a = some cs) (hf : fl ≤ H.length) : AC A fl F_lease_Open [.c (.ptr a 0)] H (fun v H' => v = .tup [.c (.ptr H.length 0), .c (.int .i64 0)] ∧ LeaseAt fl H' H.length a .snil true 0 [] ∧ Kept H.length H H' ∧ H'.length = H.length + 1) := by
  obtain ⟨cs, ha⟩ := ha
  have hc := hcells_own ha
  have hl := hown_lt ha
  refine AC_enter t_lease_Open ?_; simp only [c_lease_Open, enterA, List.replicate, List.length_cons, List.length_nil, Nat.reduceAdd, Nat.reduceSub, List.cons_append, List.nil_append]
  (repeat (first | with_reducible (first | refine thenQ_n ?_ | refine blockQ_n ?_ | refine thenQ_e ?_ | refine thenQ_r ?_ | refine blockQ_r ?_ | refine blockQ_s ?_ | refine blockQ_o rfl ?_) | refine AW_skip ?_ | refine AW_seq ?_ | refine AW_ops ?_ | refine AW_blockS ?_ | refine AW_blockR ?_ | refine AW_blockD ?_ | refine AW_blockC ?_ | refine AO_nil ?_ | refine AW_draw ?_ | refine AW_draw3 ?_ | refine AW_blockD3 ?_ | (refine AW_drawA ?_; simp only [atBlk, Sm]) | refine AHd_nil ?_ | with_reducible (first | refine AP_at ?_ | refine AHP_at ?_) | (with_reducible (first | apply AO_any | apply AHd_any | apply AP_go | apply AHP_go); focus (simp only [Sm, wantedA, execA, stepA, List.getElem?_cons_zero, List.getElem?_cons_succ, if_true, if_false, binA, binInt, unA, eqA, Option.map, eq_self, reduceCtorEq, ite_true, ite_false, cellsAV, fitsAll, CK.fits, fillA, AV.cells, writeN, sliceCells, appendA, lenA, i64, loA, hiA, Nat.reduceAdd, Nat.reduceMul, Nat.reduceDiv, Nat.reduceSub, Nat.reduceLeDiff, Nat.reduceLT, Int.reduceLE, Int.reduceLT, foldA, maxA, minA, Int.reduceBEq, Int.reduceBNe, Int.reduceGT, Int.reduceGE, Int.reduceEq, Int.reduceNe, Int.reduceToNat, AOp.stops, ↓want_eq, ↓exec_lenX, ↓exec_storeX, ↓exec_storeN, storeN_one, ↓exec_bsX, ↓exec_sliceX, ↓exec_copyX, ↓exec_appNil, ↓exec_carryX, Nat.sub_zero, rep_len, hc]; with_reducible first | exact EqP.at_ | exact EqP.cont | exact EqP.hcont | exact EqP.gate | exact EqP.hgate)) | (refine AW_ift ?_ ?_; focus (simp only [Sm]; done)) | (refine AW_iff ?_ ?_; focus (simp only [Sm]; done))))
  exact AW_ret ⟨_, rfl, rfl, ⟨hown_last, OwnT.nil, by simp, by simp [bl], by omega, inX_snil, by simp [bl], inX_snil, by simp [bl], by simp [bl], hf, by simp [bl]⟩, Kept.push _ _ _, by simp⟩
theorem AC_leHeld_nil : AC A fl F_lease_Lease_Held [.c .pnil] H (fun v H' => v = .c (.int .i64 0) ∧ H = H') := by
  refine AC_enter t_lease_Lease_Held ?_; simp only [c_lease_Lease_Held, enterA, List.replicate, List.length_cons, List.length_nil, Nat.reduceAdd, Nat.reduceSub, List.cons_append, List.nil_append]
  (repeat (first | with_reducible (first | refine thenQ_n ?_ | refine blockQ_n ?_ | refine thenQ_e ?_ | refine thenQ_r ?_ | refine blockQ_r ?_ | refine blockQ_s ?_ | refine blockQ_o rfl ?_) | refine AW_skip ?_ | refine AW_seq ?_ | refine AW_ops ?_ | refine AW_blockS ?_ | refine AW_blockR ?_ | refine AW_blockD ?_ | refine AW_blockC ?_ | refine AO_nil ?_ | refine AW_draw ?_ | refine AW_draw3 ?_ | refine AW_blockD3 ?_ | (refine AW_drawA ?_; simp only [atBlk, Sm]) | refine AHd_nil ?_ | with_reducible (first | refine AP_at ?_ | refine AHP_at ?_) | (with_reducible (first | apply AO_any | apply AHd_any | apply AP_go | apply AHP_go); focus (simp only [Sm, wantedA, execA, stepA, List.getElem?_cons_zero, List.getElem?_cons_succ, if_true, if_false, binA, binInt, unA, eqA, Option.map, eq_self, reduceCtorEq, ite_true, ite_false, cellsAV, fitsAll, CK.fits, fillA, AV.cells, writeN, sliceCells, appendA, lenA, i64, loA, hiA, Nat.reduceAdd, Nat.reduceMul, Nat.reduceDiv, Nat.reduceSub, Nat.reduceLeDiff, Nat.reduceLT, Int.reduceLE, Int.reduceLT, foldA, maxA, minA, Int.reduceBEq, Int.reduceBNe, Int.reduceGT, Int.reduceGE, Int.reduceEq, Int.reduceNe, Int.reduceToNat, AOp.stops, ↓want_eq, ↓exec_lenX, ↓exec_storeX, ↓exec_storeN, storeN_one, ↓exec_bsX, ↓exec_sliceX, ↓exec_copyX, ↓exec_appNil, ↓exec_carryX, Nat.sub_zero, rep_len]; with_reducible first | exact EqP.at_ | exact EqP.cont | exact EqP.hcont | exact EqP.gate | exact EqP.hgate)) | (refine AW_ift ?_ ?_; focus (simp only [Sm]; done)) | (refine AW_iff ?_ ?_; focus (simp only [Sm]; done))))
  exact AW_ret ⟨_, rfl, rfl, rfl⟩
theorem AC_lePeak_nil : AC A fl F_lease_Lease_Peak [.c .pnil] H (fun v H' => v = .c (.int .i64 0) ∧ H = H') := by
  refine AC_enter t_lease_Lease_Peak ?_; simp only [c_lease_Lease_Peak, enterA, List.replicate, List.length_cons, List.length_nil, Nat.reduceAdd, Nat.reduceSub, List.cons_append, List.nil_append]
  (repeat (first | with_reducible (first | refine thenQ_n ?_ | refine blockQ_n ?_ | refine thenQ_e ?_ | refine thenQ_r ?_ | refine blockQ_r ?_ | refine blockQ_s ?_ | refine blockQ_o rfl ?_) | refine AW_skip ?_ | refine AW_seq ?_ | refine AW_ops ?_ | refine AW_blockS ?_ | refine AW_blockR ?_ | refine AW_blockD ?_ | refine AW_blockC ?_ | refine AO_nil ?_ | refine AW_draw ?_ | refine AW_draw3 ?_ | refine AW_blockD3 ?_ | (refine AW_drawA ?_; simp only [atBlk, Sm]) | refine AHd_nil ?_ | with_reducible (first | refine AP_at ?_ | refine AHP_at ?_) | (with_reducible (first | apply AO_any | apply AHd_any | apply AP_go | apply AHP_go); focus (simp only [Sm, wantedA, execA, stepA, List.getElem?_cons_zero, List.getElem?_cons_succ, if_true, if_false, binA, binInt, unA, eqA, Option.map, eq_self, reduceCtorEq, ite_true, ite_false, cellsAV, fitsAll, CK.fits, fillA, AV.cells, writeN, sliceCells, appendA, lenA, i64, loA, hiA, Nat.reduceAdd, Nat.reduceMul, Nat.reduceDiv, Nat.reduceSub, Nat.reduceLeDiff, Nat.reduceLT, Int.reduceLE, Int.reduceLT, foldA, maxA, minA, Int.reduceBEq, Int.reduceBNe, Int.reduceGT, Int.reduceGE, Int.reduceEq, Int.reduceNe, Int.reduceToNat, AOp.stops, ↓want_eq, ↓exec_lenX, ↓exec_storeX, ↓exec_storeN, storeN_one, ↓exec_bsX, ↓exec_sliceX, ↓exec_copyX, ↓exec_appNil, ↓exec_carryX, Nat.sub_zero, rep_len]; with_reducible first | exact EqP.at_ | exact EqP.cont | exact EqP.hcont | exact EqP.gate | exact EqP.hgate)) | (refine AW_ift ?_ ?_; focus (simp only [Sm]; done)) | (refine AW_iff ?_ ?_; focus (simp only [Sm]; done))))
  exact AW_ret ⟨_, rfl, rfl, rfl⟩
theorem AC_lePeak {g : Nat} {L a hi : Nat} {y : Cell} {op : Bool} {ps : Pcs} (h : LeaseAt g H L a y op hi ps) : AC A fl F_lease_Lease_Peak [.c (.ptr L 0)] H (fun v H' => v = .c (.int .i64 (hi : Int)) ∧ H = H') := by
  have hc := hcells_own h.own
  refine AC_enter t_lease_Lease_Peak ?_; simp only [c_lease_Lease_Peak, enterA, List.replicate, List.length_cons, List.length_nil, Nat.reduceAdd, Nat.reduceSub, List.cons_append, List.nil_append]
  (repeat (first | with_reducible (first | refine thenQ_n ?_ | refine blockQ_n ?_ | refine thenQ_e ?_ | refine thenQ_r ?_ | refine blockQ_r ?_ | refine blockQ_s ?_ | refine blockQ_o rfl ?_) | refine AW_skip ?_ | refine AW_seq ?_ | refine AW_ops ?_ | refine AW_blockS ?_ | refine AW_blockR ?_ | refine AW_blockD ?_ | refine AW_blockC ?_ | refine AO_nil ?_ | refine AW_draw ?_ | refine AW_draw3 ?_ | refine AW_blockD3 ?_ | (refine AW_drawA ?_; simp only [atBlk, Sm]) | refine AHd_nil ?_ | with_reducible (first | refine AP_at ?_ | refine AHP_at ?_) | (with_reducible (first | apply AO_any | apply AHd_any | apply AP_go | apply AHP_go); focus (simp only [Sm, wantedA, execA, stepA, List.getElem?_cons_zero, List.getElem?_cons_succ, if_true, if_false, binA, binInt, unA, eqA, Option.map, eq_self, reduceCtorEq, ite_true, ite_false, cellsAV, fitsAll, CK.fits, fillA, AV.cells, writeN, sliceCells, appendA, lenA, i64, loA, hiA, Nat.reduceAdd, Nat.reduceMul, Nat.reduceDiv, Nat.reduceSub, Nat.reduceLeDiff, Nat.reduceLT, Int.reduceLE, Int.reduceLT, foldA, maxA, minA, Int.reduceBEq, Int.reduceBNe, Int.reduceGT, Int.reduceGE, Int.reduceEq, Int.reduceNe, Int.reduceToNat, AOp.stops, ↓want_eq, ↓exec_lenX, ↓exec_storeX, ↓exec_storeN, storeN_one, ↓exec_bsX, ↓exec_sliceX, ↓exec_copyX, ↓exec_appNil, ↓exec_carryX, Nat.sub_zero, rep_len, hc]; with_reducible first | exact EqP.at_ | exact EqP.cont | exact EqP.hcont | exact EqP.gate | exact EqP.hgate)) | (refine AW_ift ?_ ?_; focus (simp only [Sm]; done)) | (refine AW_iff ?_ ?_; focus (simp only [Sm]; done))))
  exact AW_ret ⟨_, rfl, rfl, rfl⟩

def lhI (y : Cell) (N : Nat) (ps : Pcs) (H0 : AHeap) (i : Nat) (fr : AFrame) (H : AHeap) : Prop := H0 = H ∧ (∃ s : Nat → AV, fr = [s 0, s 1, s 2, .c (.int .i64 ((sumP (ps.take i) : Nat) : Int)), s 4, s 5, s 6, s 7, s 8, s 9, s 10, .c y, .c (.int .i64 (N : Int)), .c (.int .i64 (i : Int)), s 14, s 15, s 16, s 17, s 18, s 19, s 20, s 21, s 22])
theorem AC_leHeld {g : Nat} {L a hi : Nat} {y : Cell} {op : Bool} {ps : Pcs} (h : LeaseAt g H L a y op hi ps) (hs : sumP ps ≤ 1000000000) (hl : ps.length ≤ 1000000) : AC A fl F_lease_Lease_Held [.c (.ptr L 0)] H (fun v H' => v = .c (.int .i64 (sumP ps : Int)) ∧ H = H') := by
  have hc := hcells_own h.own
  have ry := h.ys.rd
  have yl : (ptrP ps).length = ps.length := by simp [ptrP]
  have ly := ry.len ps.length (by rw [yl, Nat.mul_one]) (by decide)
  refine AC_enter t_lease_Lease_Held ?_; simp only [c_lease_Lease_Held, enterA, List.replicate, List.length_cons, List.length_nil, Nat.reduceAdd, Nat.reduceSub, List.cons_append, List.nil_append]
  (repeat (first | with_reducible (first | refine thenQ_n ?_ | refine blockQ_n ?_ | refine thenQ_e ?_ | refine thenQ_r ?_ | refine blockQ_r ?_ | refine blockQ_s ?_ | refine blockQ_o rfl ?_) | refine AW_skip ?_ | refine AW_seq ?_ | refine AW_ops ?_ | refine AW_blockS ?_ | refine AW_blockR ?_ | refine AW_blockD ?_ | refine AW_blockC ?_ | refine AO_nil ?_ | refine AW_draw ?_ | refine AW_draw3 ?_ | refine AW_blockD3 ?_ | (refine AW_drawA ?_; simp only [atBlk, Sm]) | refine AHd_nil ?_ | with_reducible (first | refine AP_at ?_ | refine AHP_at ?_) | (with_reducible (first | apply AO_any | apply AHd_any | apply AP_go | apply AHP_go); focus (simp only [Sm, wantedA, execA, stepA, List.getElem?_cons_zero, List.getElem?_cons_succ, if_true, if_false, binA, binInt, unA, eqA, Option.map, eq_self, reduceCtorEq, ite_true, ite_false, cellsAV, fitsAll, CK.fits, fillA, AV.cells, writeN, sliceCells, appendA, lenA, i64, loA, hiA, Nat.reduceAdd, Nat.reduceMul, Nat.reduceDiv, Nat.reduceSub, Nat.reduceLeDiff, Nat.reduceLT, Int.reduceLE, Int.reduceLT, foldA, maxA, minA, Int.reduceBEq, Int.reduceBNe, Int.reduceGT, Int.reduceGE, Int.reduceEq, Int.reduceNe, Int.reduceToNat, AOp.stops, ↓want_eq, ↓exec_lenX, ↓exec_storeX, ↓exec_storeN, storeN_one, ↓exec_bsX, ↓exec_sliceX, ↓exec_copyX, ↓exec_appNil, ↓exec_carryX, Nat.sub_zero, rep_len, hc, ly]; with_reducible first | exact EqP.at_ | exact EqP.cont | exact EqP.hcont | exact EqP.gate | exact EqP.hgate)) | (refine AW_ift ?_ ?_; focus (simp only [Sm]; done)) | (refine AW_iff ?_ ?_; focus (simp only [Sm]; done))))
  refine AW_mid (fun e fr H' => e = .normal ∧ lhI y ps.length ps H ps.length fr H') ?_ ?_
  · refine AW_block (AW_up (lhI y ps.length ps H) ps.length ⟨rfl, stale _ _ rfl⟩ ?_)
    rintro i fr H1 hi ⟨rfl, st, rfl⟩
    (repeat (first | with_reducible (first | refine thenQ_n ?_ | refine blockQ_n ?_ | refine thenQ_e ?_ | refine thenQ_r ?_ | refine blockQ_r ?_ | refine blockQ_s ?_ | refine blockQ_o rfl ?_) | refine AW_skip ?_ | refine AW_seq ?_ | refine AW_ops ?_ | refine AW_blockS ?_ | refine AW_blockR ?_ | refine AW_blockD ?_ | refine AW_blockC ?_ | refine AO_nil ?_ | refine AW_draw ?_ | refine AW_draw3 ?_ | refine AW_blockD3 ?_ | (refine AW_drawA ?_; simp only [atBlk, Sm]) | refine AHd_nil ?_ | with_reducible (first | refine AP_at ?_ | refine AHP_at ?_) | (with_reducible (first | apply AO_any | apply AHd_any | apply AP_go | apply AHP_go); focus (simp only [Sm, wantedA, execA, stepA, List.getElem?_cons_zero, List.getElem?_cons_succ, if_true, if_false, binA, binInt, unA, eqA, Option.map, eq_self, reduceCtorEq, ite_true, ite_false, cellsAV, fitsAll, CK.fits, fillA, AV.cells, writeN, sliceCells, appendA, lenA, i64, loA, hiA, Nat.reduceAdd, Nat.reduceMul, Nat.reduceDiv, Nat.reduceSub, Nat.reduceLeDiff, Nat.reduceLT, Int.reduceLE, Int.reduceLT, foldA, maxA, minA, Int.reduceBEq, Int.reduceBNe, Int.reduceGT, Int.reduceGE, Int.reduceEq, Int.reduceNe, Int.reduceToNat, AOp.stops, ↓want_eq, ↓exec_lenX, ↓exec_storeX, ↓exec_storeN, storeN_one, ↓exec_bsX, ↓exec_sliceX, ↓exec_copyX, ↓exec_appNil, ↓exec_carryX, Nat.sub_zero, rep_len]; with_reducible first | exact EqP.at_ | exact EqP.cont | exact EqP.hcont | exact EqP.gate | exact EqP.hgate)) | (refine AW_ift ?_ ?_; focus (simp only [Sm]; done)) | (refine AW_iff ?_ ?_; focus (simp only [Sm]; done))))
    refine AW_cond rfl ?_ ?_ <;> intro ht
    · have ht : (i : Int) < ((ps.length : Nat) : Int) := of_decide_eq_true ht
      have hi2 : i < ps.length := by omega
      obtain ⟨p, hp⟩ : ∃ p, ps[i]? = some p := ⟨_, List.getElem?_eq_getElem hi2⟩
      have hpm := List.mem_of_getElem? hp
      obtain ⟨cs, hpc⟩ := h.pcs p hpm
      obtain ⟨u, o, f, rfl, hf, hg⟩ := ry.get (i := i) (by rw [yl]; exact hi2)
      have hg : f[o + i]? = some (.ptr p.1 0) := by rw [hg, ptrP, List.getElem?_map, hp]; rfl
      have hst : sumP (ps.take (i + 1)) = sumP (ps.take i) + p.2.2 := by rw [take_one' hp, sumP_app]; simp [sumP]
      have hle := sumP_take_le ps (i + 1)
      rw [yl] at *
      have e1 : IntKind.i64.wrap (((sumP (ps.take i) : Nat) : Int) + ((p.2.2 : Nat) : Int)) = ((sumP (ps.take (i + 1)) : Nat) : Int) := by rw [hst]; exact i64_add (by omega)
      have esc := i64_succ (show i < 9223372036854775807 by omega)
      (repeat (first | with_reducible (first | refine thenQ_n ?_ | refine blockQ_n ?_ | refine thenQ_e ?_ | refine thenQ_r ?_ | refine blockQ_r ?_ | refine blockQ_s ?_ | refine blockQ_o rfl ?_) | refine AW_skip ?_ | refine AW_seq ?_ | refine AW_ops ?_ | refine AW_blockS ?_ | refine AW_blockR ?_ | refine AW_blockD ?_ | refine AW_blockC ?_ | refine AO_nil ?_ | refine AW_draw ?_ | refine AW_draw3 ?_ | refine AW_blockD3 ?_ | (refine AW_drawA ?_; simp only [atBlk, Sm]) | refine AHd_nil ?_ | with_reducible (first | refine AP_at ?_ | refine AHP_at ?_) | (with_reducible (first | apply AO_any | apply AHd_any | apply AP_go | apply AHP_go); focus (simp only [Sm, wantedA, execA, stepA, List.getElem?_cons_zero, List.getElem?_cons_succ, if_true, if_false, binA, binInt, unA, eqA, Option.map, eq_self, reduceCtorEq, ite_true, ite_false, cellsAV, fitsAll, CK.fits, fillA, AV.cells, writeN, sliceCells, appendA, lenA, i64, loA, hiA, Nat.reduceAdd, Nat.reduceMul, Nat.reduceDiv, Nat.reduceSub, Nat.reduceLeDiff, Nat.reduceLT, Int.reduceLE, Int.reduceLT, foldA, maxA, minA, Int.reduceBEq, Int.reduceBNe, Int.reduceGT, Int.reduceGE, Int.reduceEq, Int.reduceNe, Int.reduceToNat, AOp.stops, ↓want_eq, ↓exec_lenX, ↓exec_storeX, ↓exec_storeN, storeN_one, ↓exec_bsX, ↓exec_sliceX, ↓exec_copyX, ↓exec_appNil, ↓exec_carryX, Nat.sub_zero, rep_len, ht, hf, hg]; with_reducible first | exact EqP.at_ | exact EqP.cont | exact EqP.hcont | exact EqP.gate | exact EqP.hgate)) | (refine AW_ift ?_ ?_; focus (simp only [Sm]; done)) | (refine AW_iff ?_ ?_; focus (simp only [Sm]; done))))
      refine AO_call rfl (AC_pcLen fl H p.1 a p.2.1 p.2.2 true cs hpc) ?_
      rintro _ _ ⟨rfl, rfl⟩
      (repeat (first | with_reducible (first | refine thenQ_n ?_ | refine blockQ_n ?_ | refine thenQ_e ?_ | refine thenQ_r ?_ | refine blockQ_r ?_ | refine blockQ_s ?_ | refine blockQ_o rfl ?_) | refine AW_skip ?_ | refine AW_seq ?_ | refine AW_ops ?_ | refine AW_blockS ?_ | refine AW_blockR ?_ | refine AW_blockD ?_ | refine AW_blockC ?_ | refine AO_nil ?_ | refine AW_draw ?_ | refine AW_draw3 ?_ | refine AW_blockD3 ?_ | (refine AW_drawA ?_; simp only [atBlk, Sm]) | refine AHd_nil ?_ | with_reducible (first | refine AP_at ?_ | refine AHP_at ?_) | (with_reducible (first | apply AO_any | apply AHd_any | apply AP_go | apply AHP_go); focus (simp only [Sm, wantedA, execA, stepA, List.getElem?_cons_zero, List.getElem?_cons_succ, if_true, if_false, binA, binInt, unA, eqA, Option.map, eq_self, reduceCtorEq, ite_true, ite_false, cellsAV, fitsAll, CK.fits, fillA, AV.cells, writeN, sliceCells, appendA, lenA, i64, loA, hiA, Nat.reduceAdd, Nat.reduceMul, Nat.reduceDiv, Nat.reduceSub, Nat.reduceLeDiff, Nat.reduceLT, Int.reduceLE, Int.reduceLT, foldA, maxA, minA, Int.reduceBEq, Int.reduceBNe, Int.reduceGT, Int.reduceGE, Int.reduceEq, Int.reduceNe, Int.reduceToNat, AOp.stops, ↓want_eq, ↓exec_lenX, ↓exec_storeX, ↓exec_storeN, storeN_one, ↓exec_bsX, ↓exec_sliceX, ↓exec_copyX, ↓exec_appNil, ↓exec_carryX, Nat.sub_zero, rep_len, e1, esc]; with_reducible first | exact EqP.at_ | exact EqP.cont | exact EqP.hcont | exact EqP.gate | exact EqP.hgate)) | (refine AW_ift ?_ ?_; focus (simp only [Sm]; done)) | (refine AW_iff ?_ ?_; focus (simp only [Sm]; done))))
      exact ⟨hi2, rfl, stale _ _ rfl⟩
    · obtain rfl : i = ps.length := by have : ¬ (i : Int) < ((ps.length : Nat) : Int) := of_decide_eq_false ht; omega
      exact AW_exit ⟨rfl, rfl, stale _ _ rfl⟩
  rintro e fr H1 ⟨rfl, rfl, st, rfl⟩
  rw [List.take_length]
  (repeat (first | with_reducible (first | refine thenQ_n ?_ | refine blockQ_n ?_ | refine thenQ_e ?_ | refine thenQ_r ?_ | refine blockQ_r ?_ | refine blockQ_s ?_ | refine blockQ_o rfl ?_) | refine AW_skip ?_ | refine AW_seq ?_ | refine AW_ops ?_ | refine AW_blockS ?_ | refine AW_blockR ?_ | refine AW_blockD ?_ | refine AW_blockC ?_ | refine AO_nil ?_ | refine AW_draw ?_ | refine AW_draw3 ?_ | refine AW_blockD3 ?_ | (refine AW_drawA ?_; simp only [atBlk, Sm]) | refine AHd_nil ?_ | with_reducible (first | refine AP_at ?_ | refine AHP_at ?_) | (with_reducible (first | apply AO_any | apply AHd_any | apply AP_go | apply AHP_go); focus (simp only [Sm, wantedA, execA, stepA, List.getElem?_cons_zero, List.getElem?_cons_succ, if_true, if_false, binA, binInt, unA, eqA, Option.map, eq_self, reduceCtorEq, ite_true, ite_false, cellsAV, fitsAll, CK.fits, fillA, AV.cells, writeN, sliceCells, appendA, lenA, i64, loA, hiA, Nat.reduceAdd, Nat.reduceMul, Nat.reduceDiv, Nat.reduceSub, Nat.reduceLeDiff, Nat.reduceLT, Int.reduceLE, Int.reduceLT, foldA, maxA, minA, Int.reduceBEq, Int.reduceBNe, Int.reduceGT, Int.reduceGE, Int.reduceEq, Int.reduceNe, Int.reduceToNat, AOp.stops, ↓want_eq, ↓exec_lenX, ↓exec_storeX, ↓exec_storeN, storeN_one, ↓exec_bsX, ↓exec_sliceX, ↓exec_copyX, ↓exec_appNil, ↓exec_carryX, Nat.sub_zero, rep_len]; with_reducible first | exact EqP.at_ | exact EqP.cont | exact EqP.hcont | exact EqP.gate | exact EqP.hgate)) | (refine AW_ift ?_ ?_; focus (simp only [Sm]; done)) | (refine AW_iff ?_ ?_; focus (simp only [Sm]; done))))
  exact AW_ret ⟨_, rfl, rfl, rfl⟩

theorem AC_leTake_nil (z : Int) : AC A fl F_lease_Lease_Take [.c .pnil, .c (.int .i64 z)] H (fun v H' => v = .tup [.c .pnil, .c (.int .i64 11)] ∧ H = H') := by
  refine AC_enter t_lease_Lease_Take ?_; simp only [c_lease_Lease_Take, enterA, List.replicate, List.length_cons, List.length_nil, Nat.reduceAdd, Nat.reduceSub, List.cons_append, List.nil_append]
  (repeat (first | with_reducible (first | refine thenQ_n ?_ | refine blockQ_n ?_ | refine thenQ_e ?_ | refine thenQ_r ?_ | refine blockQ_r ?_ | refine blockQ_s ?_ | refine blockQ_o rfl ?_) | refine AW_skip ?_ | refine AW_seq ?_ | refine AW_ops ?_ | refine AW_blockS ?_ | refine AW_blockR ?_ | refine AW_blockD ?_ | refine AW_blockC ?_ | refine AO_nil ?_ | refine AW_draw ?_ | refine AW_draw3 ?_ | refine AW_blockD3 ?_ | (refine AW_drawA ?_; simp only [atBlk, Sm]) | refine AHd_nil ?_ | with_reducible (first | refine AP_at ?_ | refine AHP_at ?_) | (with_reducible (first | apply AO_any | apply AHd_any | apply AP_go | apply AHP_go); focus (simp only [Sm, wantedA, execA, stepA, List.getElem?_cons_zero, List.getElem?_cons_succ, if_true, if_false, binA, binInt, unA, eqA, Option.map, eq_self, reduceCtorEq, ite_true, ite_false, cellsAV, fitsAll, CK.fits, fillA, AV.cells, writeN, sliceCells, appendA, lenA, i64, loA, hiA, Nat.reduceAdd, Nat.reduceMul, Nat.reduceDiv, Nat.reduceSub, Nat.reduceLeDiff, Nat.reduceLT, Int.reduceLE, Int.reduceLT, foldA, maxA, minA, Int.reduceBEq, Int.reduceBNe, Int.reduceGT, Int.reduceGE, Int.reduceEq, Int.reduceNe, Int.reduceToNat, AOp.stops, ↓want_eq, ↓exec_lenX, ↓exec_storeX, ↓exec_storeN, storeN_one, ↓exec_bsX, ↓exec_sliceX, ↓exec_copyX, ↓exec_appNil, ↓exec_carryX, Nat.sub_zero, rep_len]; with_reducible first | exact EqP.at_ | exact EqP.cont | exact EqP.hcont | exact EqP.gate | exact EqP.hgate)) | (refine AW_ift ?_ ?_; focus (simp only [Sm]; done)) | (refine AW_iff ?_ ?_; focus (simp only [Sm]; done))))
  exact AW_ret ⟨_, rfl, rfl, rfl⟩
theorem AC_leTake_bad {g : Nat} {L a hi : Nat} {y : Cell} {ps : Pcs} (b u h_ l : Nat) (z : Int) (h : LeaseAt g H L a y true hi ps) (ho : hown H a = some (arC b u h_ l)) (hb : b ≤ 4194304) (hu : u ≤ b) (hz : z < 0 ∨ z > ((b - u : Nat) : Int)) :
    AC A fl F_lease_Lease_Take [.c (.ptr L 0), .c (.int .i64 z)] H (fun v H' => v = .tup [.c .pnil, .c (.int .i64 (if z < 0 then 1 else 4))] ∧ H = H') := by
  have hc := hcells_own h.own
  refine AC_enter t_lease_Lease_Take ?_; simp only [c_lease_Lease_Take, enterA, List.replicate, List.length_cons, List.length_nil, Nat.reduceAdd, Nat.reduceSub, List.cons_append, List.nil_append]
  (repeat (first | with_reducible (first | refine thenQ_n ?_ | refine blockQ_n ?_ | refine thenQ_e ?_ | refine thenQ_r ?_ | refine blockQ_r ?_ | refine blockQ_s ?_ | refine blockQ_o rfl ?_) | refine AW_skip ?_ | refine AW_seq ?_ | refine AW_ops ?_ | refine AW_blockS ?_ | refine AW_blockR ?_ | refine AW_blockD ?_ | refine AW_blockC ?_ | refine AO_nil ?_ | refine AW_draw ?_ | refine AW_draw3 ?_ | refine AW_blockD3 ?_ | (refine AW_drawA ?_; simp only [atBlk, Sm]) | refine AHd_nil ?_ | with_reducible (first | refine AP_at ?_ | refine AHP_at ?_) | (with_reducible (first | apply AO_any | apply AHd_any | apply AP_go | apply AHP_go); focus (simp only [Sm, wantedA, execA, stepA, List.getElem?_cons_zero, List.getElem?_cons_succ, if_true, if_false, binA, binInt, unA, eqA, Option.map, eq_self, reduceCtorEq, ite_true, ite_false, cellsAV, fitsAll, CK.fits, fillA, AV.cells, writeN, sliceCells, appendA, lenA, i64, loA, hiA, Nat.reduceAdd, Nat.reduceMul, Nat.reduceDiv, Nat.reduceSub, Nat.reduceLeDiff, Nat.reduceLT, Int.reduceLE, Int.reduceLT, foldA, maxA, minA, Int.reduceBEq, Int.reduceBNe, Int.reduceGT, Int.reduceGE, Int.reduceEq, Int.reduceNe, Int.reduceToNat, AOp.stops, ↓want_eq, ↓exec_lenX, ↓exec_storeX, ↓exec_storeN, storeN_one, ↓exec_bsX, ↓exec_sliceX, ↓exec_copyX, ↓exec_appNil, ↓exec_carryX, Nat.sub_zero, rep_len, hc]; with_reducible first | exact EqP.at_ | exact EqP.cont | exact EqP.hcont | exact EqP.gate | exact EqP.hgate)) | (refine AW_ift ?_ ?_; focus (simp only [Sm]; done)) | (refine AW_iff ?_ ?_; focus (simp only [Sm]; done))))
  refine AO_call rfl (AC_arReserve_bad fl H a b u h_ l z ho hb hu hz) ?_
  rintro _ _ ⟨rfl, rfl⟩
  by_cases h1 : z < 0
  · rw [if_pos h1]
    (repeat (first | with_reducible (first | refine thenQ_n ?_ | refine blockQ_n ?_ | refine thenQ_e ?_ | refine thenQ_r ?_ | refine blockQ_r ?_ | refine blockQ_s ?_ | refine blockQ_o rfl ?_) | refine AW_skip ?_ | refine AW_seq ?_ | refine AW_ops ?_ | refine AW_blockS ?_ | refine AW_blockR ?_ | refine AW_blockD ?_ | refine AW_blockC ?_ | refine AO_nil ?_ | refine AW_draw ?_ | refine AW_draw3 ?_ | refine AW_blockD3 ?_ | (refine AW_drawA ?_; simp only [atBlk, Sm]) | refine AHd_nil ?_ | with_reducible (first | refine AP_at ?_ | refine AHP_at ?_) | (with_reducible (first | apply AO_any | apply AHd_any | apply AP_go | apply AHP_go); focus (simp only [Sm, wantedA, execA, stepA, List.getElem?_cons_zero, List.getElem?_cons_succ, if_true, if_false, binA, binInt, unA, eqA, Option.map, eq_self, reduceCtorEq, ite_true, ite_false, cellsAV, fitsAll, CK.fits, fillA, AV.cells, writeN, sliceCells, appendA, lenA, i64, loA, hiA, Nat.reduceAdd, Nat.reduceMul, Nat.reduceDiv, Nat.reduceSub, Nat.reduceLeDiff, Nat.reduceLT, Int.reduceLE, Int.reduceLT, foldA, maxA, minA, Int.reduceBEq, Int.reduceBNe, Int.reduceGT, Int.reduceGE, Int.reduceEq, Int.reduceNe, Int.reduceToNat, AOp.stops, ↓want_eq, ↓exec_lenX, ↓exec_storeX, ↓exec_storeN, storeN_one, ↓exec_bsX, ↓exec_sliceX, ↓exec_copyX, ↓exec_appNil, ↓exec_carryX, Nat.sub_zero, rep_len]; with_reducible first | exact EqP.at_ | exact EqP.cont | exact EqP.hcont | exact EqP.gate | exact EqP.hgate)) | (refine AW_ift ?_ ?_; focus (simp only [Sm]; done)) | (refine AW_iff ?_ ?_; focus (simp only [Sm]; done))))
    exact AW_ret ⟨_, rfl, rfl, rfl⟩
  · rw [if_neg h1]
    (repeat (first | with_reducible (first | refine thenQ_n ?_ | refine blockQ_n ?_ | refine thenQ_e ?_ | refine thenQ_r ?_ | refine blockQ_r ?_ | refine blockQ_s ?_ | refine blockQ_o rfl ?_) | refine AW_skip ?_ | refine AW_seq ?_ | refine AW_ops ?_ | refine AW_blockS ?_ | refine AW_blockR ?_ | refine AW_blockD ?_ | refine AW_blockC ?_ | refine AO_nil ?_ | refine AW_draw ?_ | refine AW_draw3 ?_ | refine AW_blockD3 ?_ | (refine AW_drawA ?_; simp only [atBlk, Sm]) | refine AHd_nil ?_ | with_reducible (first | refine AP_at ?_ | refine AHP_at ?_) | (with_reducible (first | apply AO_any | apply AHd_any | apply AP_go | apply AHP_go); focus (simp only [Sm, wantedA, execA, stepA, List.getElem?_cons_zero, List.getElem?_cons_succ, if_true, if_false, binA, binInt, unA, eqA, Option.map, eq_self, reduceCtorEq, ite_true, ite_false, cellsAV, fitsAll, CK.fits, fillA, AV.cells, writeN, sliceCells, appendA, lenA, i64, loA, hiA, Nat.reduceAdd, Nat.reduceMul, Nat.reduceDiv, Nat.reduceSub, Nat.reduceLeDiff, Nat.reduceLT, Int.reduceLE, Int.reduceLT, foldA, maxA, minA, Int.reduceBEq, Int.reduceBNe, Int.reduceGT, Int.reduceGE, Int.reduceEq, Int.reduceNe, Int.reduceToNat, AOp.stops, ↓want_eq, ↓exec_lenX, ↓exec_storeX, ↓exec_storeN, storeN_one, ↓exec_bsX, ↓exec_sliceX, ↓exec_copyX, ↓exec_appNil, ↓exec_carryX, Nat.sub_zero, rep_len]; with_reducible first | exact EqP.at_ | exact EqP.cont | exact EqP.hcont | exact EqP.gate | exact EqP.hgate)) | (refine AW_ift ?_ ?_; focus (simp only [Sm]; done)) | (refine AW_iff ?_ ?_; focus (simp only [Sm]; done))))
    exact AW_ret ⟨_, rfl, rfl, rfl⟩
theorem AC_leTake {L a hi : Nat} {y : Cell} {ps : Pcs} (b u h_ l n : Nat) (h : LeaseAt fl H L a y true hi ps) (ho : hown H a = some (arC b u h_ l)) (hfa : fl ≤ a) (hfH : fl ≤ H.length) (hb : b ≤ 4194304) (hu : u ≤ b) (hh : h_ ≤ 4194304) (hl : l ≤ 1000000) (hn : n ≤ b - u)
    (hs : sumP ps ≤ u) (hpl : ps.length ≤ 100000) (hhi : hi ≤ 4194304) :
    AC A fl F_lease_Lease_Take [.c (.ptr L 0), .c (.int .i64 (n : Int))] H (fun v H' => v = .tup [.c (.ptr (H.length + 1) 0), .c (.int .i64 0)] ∧ (∃ y', LeaseAt fl H' L a y' true (max hi (sumP ps + n)) (ps ++ [(H.length + 1, H.length, n)]) ∧ ∀ b, inX y' b → H.length ≤ b) ∧
      hown H' a = some (arC b (u + n) (max h_ (u + n)) (l + 1)) ∧ Chg (fun b => b = a ∨ foot L y ps b) H H') := by
  have hc := hcells_own h.own
  refine AC_enter t_lease_Lease_Take ?_; simp only [c_lease_Lease_Take, enterA, List.replicate, List.length_cons, List.length_nil, Nat.reduceAdd, Nat.reduceSub, List.cons_append, List.nil_append]
  (repeat (first | with_reducible (first | refine thenQ_n ?_ | refine blockQ_n ?_ | refine thenQ_e ?_ | refine thenQ_r ?_ | refine blockQ_r ?_ | refine blockQ_s ?_ | refine blockQ_o rfl ?_) | refine AW_skip ?_ | refine AW_seq ?_ | refine AW_ops ?_ | refine AW_blockS ?_ | refine AW_blockR ?_ | refine AW_blockD ?_ | refine AW_blockC ?_ | refine AO_nil ?_ | refine AW_draw ?_ | refine AW_draw3 ?_ | refine AW_blockD3 ?_ | (refine AW_drawA ?_; simp only [atBlk, Sm]) | refine AHd_nil ?_ | with_reducible (first | refine AP_at ?_ | refine AHP_at ?_) | (with_reducible (first | apply AO_any | apply AHd_any | apply AP_go | apply AHP_go); focus (simp only [Sm, wantedA, execA, stepA, List.getElem?_cons_zero, List.getElem?_cons_succ, if_true, if_false, binA, binInt, unA, eqA, Option.map, eq_self, reduceCtorEq, ite_true, ite_false, cellsAV, fitsAll, CK.fits, fillA, AV.cells, writeN, sliceCells, appendA, lenA, i64, loA, hiA, Nat.reduceAdd, Nat.reduceMul, Nat.reduceDiv, Nat.reduceSub, Nat.reduceLeDiff, Nat.reduceLT, Int.reduceLE, Int.reduceLT, foldA, maxA, minA, Int.reduceBEq, Int.reduceBNe, Int.reduceGT, Int.reduceGE, Int.reduceEq, Int.reduceNe, Int.reduceToNat, AOp.stops, ↓want_eq, ↓exec_lenX, ↓exec_storeX, ↓exec_storeN, storeN_one, ↓exec_bsX, ↓exec_sliceX, ↓exec_copyX, ↓exec_appNil, ↓exec_carryX, Nat.sub_zero, rep_len, hc]; with_reducible first | exact EqP.at_ | exact EqP.cont | exact EqP.hcont | exact EqP.gate | exact EqP.hgate)) | (refine AW_ift ?_ ?_; focus (simp only [Sm]; done)) | (refine AW_iff ?_ ?_; focus (simp only [Sm]; done))))
  refine AO_call rfl (AC_arReserve fl H a b u h_ l n ho hfa hfH hb hu hh hl hn) ?_
  rintro _ H1 ⟨rfl, hp, ho1, c1, l1⟩
  have h1 := h.chg c1 (fun x hx e => by
    subst e
    rcases hx with e | e | e
    · exact h.La e.symm
    · exact h.ya e
    · exact h.ab e)
  have hc1 := hcells_own h1.own
  have hLl := h.lt (.inl rfl)
  have hal := hown_lt ho
  (repeat (first | with_reducible (first | refine thenQ_n ?_ | refine blockQ_n ?_ | refine thenQ_e ?_ | refine thenQ_r ?_ | refine blockQ_r ?_ | refine blockQ_s ?_ | refine blockQ_o rfl ?_) | refine AW_skip ?_ | refine AW_seq ?_ | refine AW_ops ?_ | refine AW_blockS ?_ | refine AW_blockR ?_ | refine AW_blockD ?_ | refine AW_blockC ?_ | refine AO_nil ?_ | refine AW_draw ?_ | refine AW_draw3 ?_ | refine AW_blockD3 ?_ | (refine AW_drawA ?_; simp only [atBlk, Sm]) | refine AHd_nil ?_ | with_reducible (first | refine AP_at ?_ | refine AHP_at ?_) | (with_reducible (first | apply AO_any | apply AHd_any | apply AP_go | apply AHP_go); focus (simp only [Sm, wantedA, execA, stepA, List.getElem?_cons_zero, List.getElem?_cons_succ, if_true, if_false, binA, binInt, unA, eqA, Option.map, eq_self, reduceCtorEq, ite_true, ite_false, cellsAV, fitsAll, CK.fits, fillA, AV.cells, writeN, sliceCells, appendA, lenA, i64, loA, hiA, Nat.reduceAdd, Nat.reduceMul, Nat.reduceDiv, Nat.reduceSub, Nat.reduceLeDiff, Nat.reduceLT, Int.reduceLE, Int.reduceLT, foldA, maxA, minA, Int.reduceBEq, Int.reduceBNe, Int.reduceGT, Int.reduceGE, Int.reduceEq, Int.reduceNe, Int.reduceToNat, AOp.stops, ↓want_eq, ↓exec_lenX, ↓exec_storeX, ↓exec_storeN, storeN_one, ↓exec_bsX, ↓exec_sliceX, ↓exec_copyX, ↓exec_appNil, ↓exec_carryX, Nat.sub_zero, rep_len, hc1]; with_reducible first | exact EqP.at_ | exact EqP.cont | exact EqP.hcont | exact EqP.gate | exact EqP.hgate)) | (refine AW_ift ?_ ?_; focus (simp only [Sm]; done)) | (refine AW_iff ?_ ?_; focus (simp only [Sm]; done))))
  have c2 := Chg.push (· = a) H1 [Blk.own [Cell.ptr (H.length + 1) 0]]
  have h2 := h1.kept (Kept.push H1.length H1 [Blk.own [Cell.ptr (H.length + 1) 0]])
  refine AO_appendT (bytes := 8) (f := fl) h2.ys (cells_last (n := 1) rfl) rfl (by omega) (Nat.mod_one _) (Nat.le_refl _) (by rw [List.length_append]; omega) (by simp [ptrP]; omega) rfl rfl ?_
  intro q n' H3 hq h3 c3
  have hq' : q = H.length + 3 := by rw [hq, List.length_append, l1]; rfl
  have e3 : ptrP ps ++ [Cell.ptr (H.length + 1) 0] = ptrP (ps ++ [(H.length + 1, H.length, n)]) := by rw [ptrP_app]; rfl
  rw [e3] at h3
  have o3 : hown H3 L = some [.ptr a 0, y, .bool true, .int .i64 (hi : Int)] := c3.hown h2.Ly h2.own
  have hc3 := hcells_own o3
  have hfL := h.low.1
  obtain ⟨H4, s4, o4, c4, l4⟩ := storeX_ex (o := 1) o3 hfL (by simp) (.slc q 0 n' 1)
  simp only [List.set_cons_succ, List.set_cons_zero] at o4
  have hp2 := hp.kept (Kept.push H1.length H1 [Blk.own [Cell.ptr (H.length + 1) 0]])
  have pn1 : ¬ inX y (H.length + 1) := fun hx => by have := h.lt (.inr (.inl hx)); omega
  have pn2 : ¬ inX y H.length := fun hx => by have := h.lt (.inr (.inl hx)); omega
  have hp4 := (hp2.chg c3 pn1 pn2).chg c4 (by omega) (by omega)
  have ho4 : hown H4 a = some (arC b (u + n) (max h_ (u + n)) (l + 1)) := c4.hown (fun e => h.La e.symm) (c3.hown h.ya (hown_app ho1))
  have hbl : ∀ x ∈ bl ps, x < H.length := fun x hx => h.lt (.inr (.inr hx))
  have h4 : LeaseAt fl H4 L a (.slc q 0 n' 1) true hi (ps ++ [(H.length + 1, H.length, n)]) := by
    refine ⟨o4, h3.t.chg c4 (fun x hx => by have := inX_slc.mp hx; omega), ?_, ?_, h.La, fun hx => by have := inX_slc.mp hx; omega, ?_, fun hx => by have := inX_slc.mp hx; omega, ?_, ?_, hfL, ?_⟩
    · intro p hpm
      rcases List.mem_append.1 hpm with hpm | hpm
      · obtain ⟨cs, hcs⟩ := h2.pcs p hpm
        have m1 := bl_mem hpm
        exact ⟨cs, (hcs.chg c3 (h.yb _ m1.1) (h.yb _ m1.2)).chg c4 (fun e => h.Lb (by rw [← e]; exact m1.1)) (fun e => h.Lb (by rw [← e]; exact m1.2))⟩
      · simp at hpm; subst hpm; exact ⟨_, hp4⟩
    · rw [bl_app, List.nodup_append]
      refine ⟨h.nd, by simp [bl], fun x hx z hz => ?_⟩
      have := hbl x hx
      simp [bl] at hz
      omega
    · rw [bl_app, List.mem_append]
      rintro (hx | hx)
      · exact h.Lb hx
      · simp [bl] at hx; omega
    · intro x hx hxx
      have := inX_slc.mp hxx
      rw [bl_app, List.mem_append] at hx
      rcases hx with hx | hx
      · have := hbl x hx; omega
      · simp [bl] at hx; omega
    · rw [bl_app, List.mem_append]
      rintro (hx | hx)
      · exact h.ab hx
      · simp [bl] at hx; omega
    · intro x hx
      rw [bl_app, List.mem_append] at hx
      rcases hx with hx | hx
      · exact h.low.2 x hx
      · simp [bl] at hx; omega
  have hc4 := hcells_own o4
  have hsum : sumP (ps ++ [(H.length + 1, H.length, n)]) = sumP ps + n := by rw [sumP_app]; simp [sumP]
  (repeat (first | with_reducible (first | refine thenQ_n ?_ | refine blockQ_n ?_ | refine thenQ_e ?_ | refine thenQ_r ?_ | refine blockQ_r ?_ | refine blockQ_s ?_ | refine blockQ_o rfl ?_) | refine AW_skip ?_ | refine AW_seq ?_ | refine AW_ops ?_ | refine AW_blockS ?_ | refine AW_blockR ?_ | refine AW_blockD ?_ | refine AW_blockC ?_ | refine AO_nil ?_ | refine AW_draw ?_ | refine AW_draw3 ?_ | refine AW_blockD3 ?_ | (refine AW_drawA ?_; simp only [atBlk, Sm]) | refine AHd_nil ?_ | with_reducible (first | refine AP_at ?_ | refine AHP_at ?_) | (with_reducible (first | apply AO_any | apply AHd_any | apply AP_go | apply AHP_go); focus (simp only [Sm, wantedA, execA, stepA, List.getElem?_cons_zero, List.getElem?_cons_succ, if_true, if_false, binA, binInt, unA, eqA, Option.map, eq_self, reduceCtorEq, ite_true, ite_false, cellsAV, fitsAll, CK.fits, fillA, AV.cells, writeN, sliceCells, appendA, lenA, i64, loA, hiA, Nat.reduceAdd, Nat.reduceMul, Nat.reduceDiv, Nat.reduceSub, Nat.reduceLeDiff, Nat.reduceLT, Int.reduceLE, Int.reduceLT, foldA, maxA, minA, Int.reduceBEq, Int.reduceBNe, Int.reduceGT, Int.reduceGE, Int.reduceEq, Int.reduceNe, Int.reduceToNat, AOp.stops, ↓want_eq, ↓exec_lenX, ↓exec_storeX, ↓exec_storeN, storeN_one, ↓exec_bsX, ↓exec_sliceX, ↓exec_copyX, ↓exec_appNil, ↓exec_carryX, Nat.sub_zero, rep_len, hc3, s4, hc4]; with_reducible first | exact EqP.at_ | exact EqP.cont | exact EqP.hcont | exact EqP.gate | exact EqP.hgate)) | (refine AW_ift ?_ ?_; focus (simp only [Sm]; done)) | (refine AW_iff ?_ ?_; focus (simp only [Sm]; done))))
  refine AHd_call rfl (AC_leHeld H4.length H4 h4 (by rw [hsum]; omega) (by simp; omega)) ?_
  rintro _ _ ⟨rfl, rfl⟩ -
  rw [hsum]
  have em : (if ((sumP ps + n : Nat) : Int) > (hi : Int) then ((sumP ps + n : Nat) : Int) else (hi : Int)) = ((max hi (sumP ps + n) : Nat) : Int) := by
    split
    · rw [Nat.max_eq_right (by omega)]
    · rw [Nat.max_eq_left (by omega)]
  obtain ⟨H5, s5, o5, c5, l5⟩ := storeX_ex (o := 3) o4 hfL (by simp) (.int .i64 ((max hi (sumP ps + n) : Nat) : Int))
  simp only [List.set_cons_succ, List.set_cons_zero] at o5
  (repeat (first | with_reducible (first | refine thenQ_n ?_ | refine blockQ_n ?_ | refine thenQ_e ?_ | refine thenQ_r ?_ | refine blockQ_r ?_ | refine blockQ_s ?_ | refine blockQ_o rfl ?_) | refine AW_skip ?_ | refine AW_seq ?_ | refine AW_ops ?_ | refine AW_blockS ?_ | refine AW_blockR ?_ | refine AW_blockD ?_ | refine AW_blockC ?_ | refine AO_nil ?_ | refine AW_draw ?_ | refine AW_draw3 ?_ | refine AW_blockD3 ?_ | (refine AW_drawA ?_; simp only [atBlk, Sm]) | refine AHd_nil ?_ | with_reducible (first | refine AP_at ?_ | refine AHP_at ?_) | (with_reducible (first | apply AO_any | apply AHd_any | apply AP_go | apply AHP_go); focus (simp only [Sm, wantedA, execA, stepA, List.getElem?_cons_zero, List.getElem?_cons_succ, if_true, if_false, binA, binInt, unA, eqA, Option.map, eq_self, reduceCtorEq, ite_true, ite_false, cellsAV, fitsAll, CK.fits, fillA, AV.cells, writeN, sliceCells, appendA, lenA, i64, loA, hiA, Nat.reduceAdd, Nat.reduceMul, Nat.reduceDiv, Nat.reduceSub, Nat.reduceLeDiff, Nat.reduceLT, Int.reduceLE, Int.reduceLT, foldA, maxA, minA, Int.reduceBEq, Int.reduceBNe, Int.reduceGT, Int.reduceGE, Int.reduceEq, Int.reduceNe, Int.reduceToNat, AOp.stops, ↓want_eq, ↓exec_lenX, ↓exec_storeX, ↓exec_storeN, storeN_one, ↓exec_bsX, ↓exec_sliceX, ↓exec_copyX, ↓exec_appNil, ↓exec_carryX, Nat.sub_zero, rep_len, em, hc4, s5]; with_reducible first | exact EqP.at_ | exact EqP.cont | exact EqP.hcont | exact EqP.gate | exact EqP.hgate)) | (refine AW_ift ?_ ?_; focus (simp only [Sm]; done)) | (refine AW_iff ?_ ?_; focus (simp only [Sm]; done))))
  refine AW_ret ⟨_, rfl, rfl, ⟨.slc q 0 n' 1, ⟨o5, h4.ys.chg c5 (fun x hx e => h4.Ly (by rw [← e]; exact hx)), fun p hpm => ?_, h4.nd, h4.La, h4.Ly, h4.Lb, h4.ya, h4.yb, h4.ab, h4.low⟩, fun x hx => by have := inX_slc.mp hx; omega⟩, c5.hown (fun e => h.La e.symm) ho4, ?_⟩
  · obtain ⟨cs, hcs⟩ := h4.pcs p hpm
    have m1 := bl_mem hpm
    exact ⟨cs, hcs.chg c5 (fun e => h4.Lb (by rw [← e]; exact m1.1)) (fun e => h4.Lb (by rw [← e]; exact m1.2))⟩
  · have l3 := c3.1
    rw [List.length_append] at l3
    refine ⟨by omega, fun x hx hxs => ?_⟩
    have x1 : ¬ x = a := fun e => hxs (.inl e)
    have x2 : ¬ x = L := fun e => hxs (.inr (.inl e))
    have x3 : ¬ inX y x := fun e => hxs (.inr (.inr (.inl e)))
    rw [c5.2 x (by omega) x2, c4.2 x (by omega) x2, c3.2 x (by rw [List.length_append]; omega) x3, c2.2 x (by omega) x1, c1.2 x hx x1]

theorem AC_leClose_nil : AC A fl F_lease_Lease_Close [.c .pnil] H (fun v H' => v = .c (.int .i64 11) ∧ H = H') := by
  refine AC_enter t_lease_Lease_Close ?_; simp only [c_lease_Lease_Close, enterA, List.replicate, List.length_cons, List.length_nil, Nat.reduceAdd, Nat.reduceSub, List.cons_append, List.nil_append]
  (repeat (first | with_reducible (first | refine thenQ_n ?_ | refine blockQ_n ?_ | refine thenQ_e ?_ | refine thenQ_r ?_ | refine blockQ_r ?_ | refine blockQ_s ?_ | refine blockQ_o rfl ?_) | refine AW_skip ?_ | refine AW_seq ?_ | refine AW_ops ?_ | refine AW_blockS ?_ | refine AW_blockR ?_ | refine AW_blockD ?_ | refine AW_blockC ?_ | refine AO_nil ?_ | refine AW_draw ?_ | refine AW_draw3 ?_ | refine AW_blockD3 ?_ | (refine AW_drawA ?_; simp only [atBlk, Sm]) | refine AHd_nil ?_ | with_reducible (first | refine AP_at ?_ | refine AHP_at ?_) | (with_reducible (first | apply AO_any | apply AHd_any | apply AP_go | apply AHP_go); focus (simp only [Sm, wantedA, execA, stepA, List.getElem?_cons_zero, List.getElem?_cons_succ, if_true, if_false, binA, binInt, unA, eqA, Option.map, eq_self, reduceCtorEq, ite_true, ite_false, cellsAV, fitsAll, CK.fits, fillA, AV.cells, writeN, sliceCells, appendA, lenA, i64, loA, hiA, Nat.reduceAdd, Nat.reduceMul, Nat.reduceDiv, Nat.reduceSub, Nat.reduceLeDiff, Nat.reduceLT, Int.reduceLE, Int.reduceLT, foldA, maxA, minA, Int.reduceBEq, Int.reduceBNe, Int.reduceGT, Int.reduceGE, Int.reduceEq, Int.reduceNe, Int.reduceToNat, AOp.stops, ↓want_eq, ↓exec_lenX, ↓exec_storeX, ↓exec_storeN, storeN_one, ↓exec_bsX, ↓exec_sliceX, ↓exec_copyX, ↓exec_appNil, ↓exec_carryX, Nat.sub_zero, rep_len]; with_reducible first | exact EqP.at_ | exact EqP.cont | exact EqP.hcont | exact EqP.gate | exact EqP.hgate)) | (refine AW_ift ?_ ?_; focus (simp only [Sm]; done)) | (refine AW_iff ?_ ?_; focus (simp only [Sm]; done))))
  exact AW_ret ⟨_, rfl, rfl, rfl⟩
def lcI (fl L a hi b u h_ l : Nat) (y : Cell) (ps : Pcs) (H0 : AHeap) (k : Nat) (fr : AFrame) (H : AHeap) : Prop :=
  Chg (fun x => x = a ∨ x ∈ bl ps) H0 H ∧ hown H a = some (arC b (u - sumP (ps.drop (ps.length - k))) h_ (l - k)) ∧ (∀ p ∈ ps.take (ps.length - k), ∃ cs, PieceAt H p.1 a p.2.1 p.2.2 true cs) ∧ (∃ s : Nat → AV, fr = [.c (.ptr L 0), s 1, s 2, .c (.int .i64 (((ps.length : Nat) : Int) - 1 - (k : Int))), s 4, s 5, s 6, s 7, s 8, s 9, s 10, s 11, s 12, s 13, s 14, s 15, s 16, s 17, s 18, s 19, s 20, s 21, s 22, s 23, s 24, s 25, s 26, s 27, s 28, s 29, s 30, s 31, s 32, s 33, s 34, s 35, s 36, s 37, s 38, s 39, s 40])
theorem AC_leClose {L a hi : Nat} {y : Cell} {ps : Pcs} (b u h_ l : Nat) (h : LeaseAt fl H L a y true hi ps) (ho : hown H a = some (arC b u h_ l)) (hfa : fl ≤ a) (hu : u ≤ 4194304) (hs : sumP ps ≤ u) (hl : ps.length ≤ l) (hl2 : l ≤ 1000000) :
    AC A fl F_lease_Lease_Close [.c (.ptr L 0)] H (fun v H' => v = .c (.int .i64 0) ∧ LeaseAt fl H' L a .snil false hi [] ∧ hown H' a = some (arC b (u - sumP ps) h_ (l - ps.length)) ∧ Chg (fun b => b = a ∨ foot L y ps b) H H') := by
  have hc := hcells_own h.own
  have yl : (ptrP ps).length = ps.length := by simp [ptrP]
  have ly := h.ys.rd.len ps.length (by rw [yl, Nat.mul_one]) (by decide)
  have e0 : IntKind.i64.wrap (((ps.length : Nat) : Int) - 1) = ((ps.length : Nat) : Int) - 1 - ((0 : Nat) : Int) := by rw [i64_of (by omega) (by omega)]; omega
  refine AC_enter t_lease_Lease_Close ?_; simp only [c_lease_Lease_Close, enterA, List.replicate, List.length_cons, List.length_nil, Nat.reduceAdd, Nat.reduceSub, List.cons_append, List.nil_append]
  (repeat (first | with_reducible (first | refine thenQ_n ?_ | refine blockQ_n ?_ | refine thenQ_e ?_ | refine thenQ_r ?_ | refine blockQ_r ?_ | refine blockQ_s ?_ | refine blockQ_o rfl ?_) | refine AW_skip ?_ | refine AW_seq ?_ | refine AW_ops ?_ | refine AW_blockS ?_ | refine AW_blockR ?_ | refine AW_blockD ?_ | refine AW_blockC ?_ | refine AO_nil ?_ | refine AW_draw ?_ | refine AW_draw3 ?_ | refine AW_blockD3 ?_ | (refine AW_drawA ?_; simp only [atBlk, Sm]) | refine AHd_nil ?_ | with_reducible (first | refine AP_at ?_ | refine AHP_at ?_) | (with_reducible (first | apply AO_any | apply AHd_any | apply AP_go | apply AHP_go); focus (simp only [Sm, wantedA, execA, stepA, List.getElem?_cons_zero, List.getElem?_cons_succ, if_true, if_false, binA, binInt, unA, eqA, Option.map, eq_self, reduceCtorEq, ite_true, ite_false, cellsAV, fitsAll, CK.fits, fillA, AV.cells, writeN, sliceCells, appendA, lenA, i64, loA, hiA, Nat.reduceAdd, Nat.reduceMul, Nat.reduceDiv, Nat.reduceSub, Nat.reduceLeDiff, Nat.reduceLT, Int.reduceLE, Int.reduceLT, foldA, maxA, minA, Int.reduceBEq, Int.reduceBNe, Int.reduceGT, Int.reduceGE, Int.reduceEq, Int.reduceNe, Int.reduceToNat, AOp.stops, ↓want_eq, ↓exec_lenX, ↓exec_storeX, ↓exec_storeN, storeN_one, ↓exec_bsX, ↓exec_sliceX, ↓exec_copyX, ↓exec_appNil, ↓exec_carryX, Nat.sub_zero, rep_len, hc, ly, e0]; with_reducible first | exact EqP.at_ | exact EqP.cont | exact EqP.hcont | exact EqP.gate | exact EqP.hgate)) | (refine AW_ift ?_ ?_; focus (simp only [Sm]; done)) | (refine AW_iff ?_ ?_; focus (simp only [Sm]; done))))
  refine AW_mid (fun e fr H' => e = .normal ∧ lcI fl L a hi b u h_ l y ps H ps.length fr H') ?_ ?_
  · refine AW_block (AW_up (lcI fl L a hi b u h_ l y ps H) ps.length ⟨Chg.refl _ _, by simpa [sumP] using ho, by simpa using h.pcs, stale _ _ rfl⟩ ?_)
    rintro k fr H1 hk ⟨c1, o1, hps, st, rfl⟩
    have hS : ∀ x, foot L y ps x → x ∉ bl ps → ¬ (x = a ∨ x ∈ bl ps) := fun x hx hn h' => by
      rcases h' with e | e
      · subst e
        rcases hx with e | e | e
        · exact h.La e.symm
        · exact h.ya e
        · exact hn e
      · exact hn e
    have oL1 := c1.hown (hS L (.inl rfl) h.Lb) h.own
    have hcL1 := hcells_own oL1
    have y1 := h.ys.chg c1 (fun x hx => hS x (.inr (.inl hx)) (fun hb => h.yb x hb hx))
    (repeat (first | with_reducible (first | refine thenQ_n ?_ | refine blockQ_n ?_ | refine thenQ_e ?_ | refine thenQ_r ?_ | refine blockQ_r ?_ | refine blockQ_s ?_ | refine blockQ_o rfl ?_) | refine AW_skip ?_ | refine AW_seq ?_ | refine AW_ops ?_ | refine AW_blockS ?_ | refine AW_blockR ?_ | refine AW_blockD ?_ | refine AW_blockC ?_ | refine AO_nil ?_ | refine AW_draw ?_ | refine AW_draw3 ?_ | refine AW_blockD3 ?_ | (refine AW_drawA ?_; simp only [atBlk, Sm]) | refine AHd_nil ?_ | with_reducible (first | refine AP_at ?_ | refine AHP_at ?_) | (with_reducible (first | apply AO_any | apply AHd_any | apply AP_go | apply AHP_go); focus (simp only [Sm, wantedA, execA, stepA, List.getElem?_cons_zero, List.getElem?_cons_succ, if_true, if_false, binA, binInt, unA, eqA, Option.map, eq_self, reduceCtorEq, ite_true, ite_false, cellsAV, fitsAll, CK.fits, fillA, AV.cells, writeN, sliceCells, appendA, lenA, i64, loA, hiA, Nat.reduceAdd, Nat.reduceMul, Nat.reduceDiv, Nat.reduceSub, Nat.reduceLeDiff, Nat.reduceLT, Int.reduceLE, Int.reduceLT, foldA, maxA, minA, Int.reduceBEq, Int.reduceBNe, Int.reduceGT, Int.reduceGE, Int.reduceEq, Int.reduceNe, Int.reduceToNat, AOp.stops, ↓want_eq, ↓exec_lenX, ↓exec_storeX, ↓exec_storeN, storeN_one, ↓exec_bsX, ↓exec_sliceX, ↓exec_copyX, ↓exec_appNil, ↓exec_carryX, Nat.sub_zero, rep_len]; with_reducible first | exact EqP.at_ | exact EqP.cont | exact EqP.hcont | exact EqP.gate | exact EqP.hgate)) | (refine AW_ift ?_ ?_; focus (simp only [Sm]; done)) | (refine AW_iff ?_ ?_; focus (simp only [Sm]; done))))
    refine AW_cond rfl ?_ ?_ <;> intro ht
    · have ht : (((ps.length : Nat) : Int) - 1 - (k : Int)) ≥ 0 := of_decide_eq_true ht
      have hk2 : k < ps.length := by omega
      obtain ⟨i, hi'⟩ : ∃ i, ps.length - k = i + 1 := ⟨ps.length - k - 1, by omega⟩
      have ei : ((ps.length : Nat) : Int) - 1 - (k : Int) = (i : Int) := by omega
      have hil : i < ps.length := by omega
      obtain ⟨p, hp⟩ : ∃ p, ps[i]? = some p := ⟨_, List.getElem?_eq_getElem hil⟩
      rw [hi'] at o1 hps
      have hpt : p ∈ ps.take (i + 1) := by rw [take_one' hp]; simp
      have hpm := List.mem_of_getElem? hp
      obtain ⟨cs, hpc⟩ := hps p hpt
      have m1 := bl_mem hpm
      have hdr : sumP (ps.drop i) = p.2.2 + sumP (ps.drop (i + 1)) := by
        rw [List.drop_eq_getElem_cons hil, (List.getElem?_eq_some_iff.1 hp).2]; simp [sumP]
      have hsd : sumP (ps.drop i) ≤ sumP ps := by
        have := List.take_append_drop i ps
        conv => rhs; rw [← this]
        rw [sumP_app]; omega
      obtain ⟨u0, o0, f0, ey, hf, hg⟩ := y1.rd.get (i := i) (by rw [yl]; exact hil)
      have hg : f0[o0 + i]? = some (.ptr p.1 0) := by rw [hg, ptrP, List.getElem?_map, hp]; rfl
      rw [yl] at ey
      have hi3 : (i : Int) < ((ps.length : Nat) : Int) := by omega
      have esc : IntKind.i64.wrap ((i : Int) - 1) = ((ps.length : Nat) : Int) - 1 - ((k + 1 : Nat) : Int) := by rw [i64_of (by omega) (by omega)]; omega
      rw [ei]
      rw [ey] at hcL1
      (repeat (first | with_reducible (first | refine thenQ_n ?_ | refine blockQ_n ?_ | refine thenQ_e ?_ | refine thenQ_r ?_ | refine blockQ_r ?_ | refine blockQ_s ?_ | refine blockQ_o rfl ?_) | refine AW_skip ?_ | refine AW_seq ?_ | refine AW_ops ?_ | refine AW_blockS ?_ | refine AW_blockR ?_ | refine AW_blockD ?_ | refine AW_blockC ?_ | refine AO_nil ?_ | refine AW_draw ?_ | refine AW_draw3 ?_ | refine AW_blockD3 ?_ | (refine AW_drawA ?_; simp only [atBlk, Sm]) | refine AHd_nil ?_ | with_reducible (first | refine AP_at ?_ | refine AHP_at ?_) | (with_reducible (first | apply AO_any | apply AHd_any | apply AP_go | apply AHP_go); focus (simp only [Sm, wantedA, execA, stepA, List.getElem?_cons_zero, List.getElem?_cons_succ, if_true, if_false, binA, binInt, unA, eqA, Option.map, eq_self, reduceCtorEq, ite_true, ite_false, cellsAV, fitsAll, CK.fits, fillA, AV.cells, writeN, sliceCells, appendA, lenA, i64, loA, hiA, Nat.reduceAdd, Nat.reduceMul, Nat.reduceDiv, Nat.reduceSub, Nat.reduceLeDiff, Nat.reduceLT, Int.reduceLE, Int.reduceLT, foldA, maxA, minA, Int.reduceBEq, Int.reduceBNe, Int.reduceGT, Int.reduceGE, Int.reduceEq, Int.reduceNe, Int.reduceToNat, AOp.stops, ↓want_eq, ↓exec_lenX, ↓exec_storeX, ↓exec_storeN, storeN_one, ↓exec_bsX, ↓exec_sliceX, ↓exec_copyX, ↓exec_appNil, ↓exec_carryX, Nat.sub_zero, rep_len, hcL1, hf, hg, hi3]; with_reducible first | exact EqP.at_ | exact EqP.cont | exact EqP.hcont | exact EqP.gate | exact EqP.hgate)) | (refine AW_ift ?_ ?_; focus (simp only [Sm]; done)) | (refine AW_iff ?_ ?_; focus (simp only [Sm]; done))))
      refine AO_call rfl (AC_arRelease fl H1 a b _ h_ _ p.1 p.2.1 p.2.2 cs o1 hpc hfa (h.low.2 _ m1.1) (h.low.2 _ m1.2) (by omega) (by omega) (by omega) (by omega)) ?_
      rintro _ H2 ⟨rfl, o2, hp2, c2⟩
      have hk1 : ps.length - (k + 1) = i := by omega
      (repeat (first | with_reducible (first | refine thenQ_n ?_ | refine blockQ_n ?_ | refine thenQ_e ?_ | refine thenQ_r ?_ | refine blockQ_r ?_ | refine blockQ_s ?_ | refine blockQ_o rfl ?_) | refine AW_skip ?_ | refine AW_seq ?_ | refine AW_ops ?_ | refine AW_blockS ?_ | refine AW_blockR ?_ | refine AW_blockD ?_ | refine AW_blockC ?_ | refine AO_nil ?_ | refine AW_draw ?_ | refine AW_draw3 ?_ | refine AW_blockD3 ?_ | (refine AW_drawA ?_; simp only [atBlk, Sm]) | refine AHd_nil ?_ | with_reducible (first | refine AP_at ?_ | refine AHP_at ?_) | (with_reducible (first | apply AO_any | apply AHd_any | apply AP_go | apply AHP_go); focus (simp only [Sm, wantedA, execA, stepA, List.getElem?_cons_zero, List.getElem?_cons_succ, if_true, if_false, binA, binInt, unA, eqA, Option.map, eq_self, reduceCtorEq, ite_true, ite_false, cellsAV, fitsAll, CK.fits, fillA, AV.cells, writeN, sliceCells, appendA, lenA, i64, loA, hiA, Nat.reduceAdd, Nat.reduceMul, Nat.reduceDiv, Nat.reduceSub, Nat.reduceLeDiff, Nat.reduceLT, Int.reduceLE, Int.reduceLT, foldA, maxA, minA, Int.reduceBEq, Int.reduceBNe, Int.reduceGT, Int.reduceGE, Int.reduceEq, Int.reduceNe, Int.reduceToNat, AOp.stops, ↓want_eq, ↓exec_lenX, ↓exec_storeX, ↓exec_storeN, storeN_one, ↓exec_bsX, ↓exec_sliceX, ↓exec_copyX, ↓exec_appNil, ↓exec_carryX, Nat.sub_zero, rep_len, esc]; with_reducible first | exact EqP.at_ | exact EqP.cont | exact EqP.hcont | exact EqP.gate | exact EqP.hgate)) | (refine AW_ift ?_ ?_; focus (simp only [Sm]; done)) | (refine AW_iff ?_ ?_; focus (simp only [Sm]; done))))
      refine ⟨hk2, c1.trans c2 (fun x _ h' => ?_), ?_, fun p' hp' => ?_, stale _ _ rfl⟩
      · rcases h' with e | e | e
        · exact .inl e
        · exact .inr (by rw [e]; exact m1.1)
        · exact .inr (by rw [e]; exact m1.2)
      · rw [hk1, hdr, show u - (p.2.2 + sumP (ps.drop (i + 1))) = u - sumP (ps.drop (i + 1)) - p.2.2 by omega, show l - (k + 1) = l - k - 1 by omega]
        exact o2
      · rw [hk1] at hp'
        have hp'' : p' ∈ ps.take (i + 1) := by rw [take_one' hp]; simp [hp']
        obtain ⟨cs', hcs'⟩ := hps p' hp''
        have m2 := bl_mem (List.mem_of_mem_take hp')
        -- the blocks of p' are none of p's
        have hnd := h.nd
        have hsplit : bl ps = bl (ps.take i) ++ ([p.1, p.2.1] ++ bl (ps.drop (i + 1))) := by
          have e1 := List.take_append_drop i ps
          have e2 : ps.drop i = p :: ps.drop (i + 1) := by rw [List.drop_eq_getElem_cons hil, (List.getElem?_eq_some_iff.1 hp).2]
          conv => lhs; rw [← e1, e2]
          rw [bl_app]; rfl
        rw [hsplit, List.nodup_append] at hnd
        have m3 := bl_mem hp'
        have n1 : p'.1 ≠ p.1 := fun e => hnd.2.2 _ m3.1 p.1 (by simp) e
        have n2 : p'.1 ≠ p.2.1 := fun e => hnd.2.2 _ m3.1 p.2.1 (by simp) e
        have n3 : p'.2.1 ≠ p.1 := fun e => hnd.2.2 _ m3.2 p.1 (by simp) e
        have n4 : p'.2.1 ≠ p.2.1 := fun e => hnd.2.2 _ m3.2 p.2.1 (by simp) e
        refine ⟨cs', hcs'.chg c2 ?_ ?_⟩
        · rintro (e | e | e)
          · exact hcs'.pa e
          · exact n1 e
          · exact n2 e
        · rintro (e | e | e)
          · exact hcs'.qa e
          · exact n3 e
          · exact n4 e
    · obtain rfl : k = ps.length := by have : ¬ (((ps.length : Nat) : Int) - 1 - (k : Int)) ≥ 0 := of_decide_eq_false ht; omega
      exact AW_exit ⟨rfl, c1, o1, hps, stale _ _ rfl⟩
  rintro e fr H1 ⟨rfl, c1, o1, _, st, rfl⟩
  have hnL : ¬ (L = a ∨ L ∈ bl ps) := by rintro (e | e); exact h.La e; exact h.Lb e
  have oL1 := c1.hown hnL h.own
  have hcL1 := hcells_own oL1
  rw [Nat.sub_self, List.drop_zero] at o1
  have hfL := h.low.1
  obtain ⟨H2, s2, o2, c2, l2⟩ := storeX_ex (o := 1) oL1 hfL (by simp) .snil
  simp only [List.set_cons_succ, List.set_cons_zero] at o2
  have hc2 := hcells_own o2
  obtain ⟨H3, s3, o3, c3, l3⟩ := storeX_ex (o := 2) o2 hfL (by simp) (.bool false)
  simp only [List.set_cons_succ, List.set_cons_zero] at o3
  have c23 : Chg (· = L) H1 H3 := c2.trans c3 fun _ _ h => h
  (repeat (first | with_reducible (first | refine thenQ_n ?_ | refine blockQ_n ?_ | refine thenQ_e ?_ | refine thenQ_r ?_ | refine blockQ_r ?_ | refine blockQ_s ?_ | refine blockQ_o rfl ?_) | refine AW_skip ?_ | refine AW_seq ?_ | refine AW_ops ?_ | refine AW_blockS ?_ | refine AW_blockR ?_ | refine AW_blockD ?_ | refine AW_blockC ?_ | refine AO_nil ?_ | refine AW_draw ?_ | refine AW_draw3 ?_ | refine AW_blockD3 ?_ | (refine AW_drawA ?_; simp only [atBlk, Sm]) | refine AHd_nil ?_ | with_reducible (first | refine AP_at ?_ | refine AHP_at ?_) | (with_reducible (first | apply AO_any | apply AHd_any | apply AP_go | apply AHP_go); focus (simp only [Sm, wantedA, execA, stepA, List.getElem?_cons_zero, List.getElem?_cons_succ, if_true, if_false, binA, binInt, unA, eqA, Option.map, eq_self, reduceCtorEq, ite_true, ite_false, cellsAV, fitsAll, CK.fits, fillA, AV.cells, writeN, sliceCells, appendA, lenA, i64, loA, hiA, Nat.reduceAdd, Nat.reduceMul, Nat.reduceDiv, Nat.reduceSub, Nat.reduceLeDiff, Nat.reduceLT, Int.reduceLE, Int.reduceLT, foldA, maxA, minA, Int.reduceBEq, Int.reduceBNe, Int.reduceGT, Int.reduceGE, Int.reduceEq, Int.reduceNe, Int.reduceToNat, AOp.stops, ↓want_eq, ↓exec_lenX, ↓exec_storeX, ↓exec_storeN, storeN_one, ↓exec_bsX, ↓exec_sliceX, ↓exec_copyX, ↓exec_appNil, ↓exec_carryX, Nat.sub_zero, rep_len, hcL1, s2, hc2, s3]; with_reducible first | exact EqP.at_ | exact EqP.cont | exact EqP.hcont | exact EqP.gate | exact EqP.hgate)) | (refine AW_ift ?_ ?_; focus (simp only [Sm]; done)) | (refine AW_iff ?_ ?_; focus (simp only [Sm]; done))))
  refine AW_ret ⟨_, rfl, rfl, ⟨o3, OwnT.nil, by simp, by simp [bl], h.La, inX_snil, by simp [bl], inX_snil, by simp [bl], by simp [bl], hfL, by simp [bl]⟩, c23.hown (fun e => h.La e.symm) o1, ?_⟩
  refine ⟨by have := c1.1; have := c23.1; omega, fun x hx hxs => ?_⟩
  have x1 : ¬ x = L := fun e => hxs (.inr (.inl e))
  rw [c23.2 x (by have := c1.1; omega) x1, c1.2 x hx (by
    rintro (e | e)
    · exact hxs (.inl e)
    · exact hxs (.inr (.inr (.inr e))))]
end
end PK

/- Package pestlelaw21 as code of the abstract machine. -/
namespace PK
open Go PAbs

noncomputable def c_pestlelaw21_LeaseGives : AFn := AFn.mk 124 [.tmp 8]
  (.seq (.region
      [⟨some 6, .box (.t 2), none⟩,
        ⟨some 7, .box (.t 3), none⟩,
        ⟨some 8, .mv (.k (.c (.bool false))), none⟩])
  (.seq (.seq (.region
        [⟨some 22, .call F_pestlelaw21_awake [], none⟩,
          ⟨some 23, .un .not (.t 22), none⟩])
    (.cond (.t 23)
      (.seq (.region
          [⟨some 8, .mv (.k (.c (.bool false))), none⟩])
      (.ret))
      (.skip)))
  (.seq (.region
      [⟨some 9, .mv (.k (.c (.pnil))), none⟩])
  (.seq (.region
      [⟨some 25, .mv (.t 9), none⟩,
        ⟨some 26, .call F_lease_Lease_Take [.t 25, .k (.c (.int .i64 1))], none⟩,
        ⟨some 24, .mv (.t 26), none⟩,
        ⟨some 27, .extract (.t 24) 0, none⟩,
        ⟨some 28, .extract (.t 24) 1, none⟩,
        ⟨some 10, .mv (.t 27), none⟩,
        ⟨some 11, .mv (.t 28), none⟩])
  (.seq (.region
      [⟨some 30, .call F_lease_Open [.k (.c (.pnil))], none⟩,
        ⟨some 29, .mv (.t 30), none⟩,
        ⟨some 31, .extract (.t 29) 0, none⟩,
        ⟨some 32, .extract (.t 29) 1, none⟩,
        ⟨some 12, .mv (.t 31), none⟩,
        ⟨some 13, .mv (.t 32), none⟩])
  (.seq (.region
      [⟨some 34, .call F_lease_With [.k (.c (.pnil)), .k (.c (.fn F_pestlelaw21_LeaseGives_1))], none⟩,
        ⟨some 33, .mv (.t 34), none⟩,
        ⟨some 35, .extract (.t 33) 0, none⟩,
        ⟨some 36, .extract (.t 33) 1, none⟩,
        ⟨some 14, .mv (.t 35), none⟩,
        ⟨some 15, .mv (.t 36), none⟩])
  (.seq (.seq (.region
        [⟨some 37, .mv (.t 11), none⟩,
          ⟨some 38, .bin .neq (.t 37) (.k (.c (.int .i64 11))), none⟩,
          ⟨some 39, .mv (.t 38), none⟩,
          ⟨some 40, .mv (.t 13), some (39, false)⟩,
          ⟨some 41, .bin .neq (.t 40) (.k (.c (.int .i64 11))), some (39, false)⟩,
          ⟨some 42, .pick (.t 39) (.k (.c (.bool true))) (.t 41), none⟩,
          ⟨some 43, .mv (.t 42), none⟩,
          ⟨some 44, .mv (.t 15), some (43, false)⟩,
          ⟨some 45, .bin .neq (.t 44) (.k (.c (.int .i64 11))), some (43, false)⟩,
          ⟨some 46, .pick (.t 43) (.k (.c (.bool true))) (.t 45), none⟩,
          ⟨some 47, .mv (.t 46), none⟩,
          ⟨some 48, .mv (.t 9), some (47, false)⟩,
          ⟨some 49, .call F_lease_Lease_Close [.t 48], some (47, false)⟩,
          ⟨some 50, .bin .neq (.t 49) (.k (.c (.int .i64 11))), some (47, false)⟩,
          ⟨some 51, .pick (.t 47) (.k (.c (.bool true))) (.t 50), none⟩,
          ⟨some 52, .mv (.t 51), none⟩,
          ⟨some 53, .mv (.t 9), some (52, false)⟩,
          ⟨some 54, .call F_lease_Lease_Held [.t 53], some (52, false)⟩,
          ⟨some 55, .mv (.t 9), some (52, false)⟩,
          ⟨some 56, .call F_lease_Lease_Peak [.t 55], some (52, false)⟩,
          ⟨some 57, .bin .add (.t 54) (.t 56), some (52, false)⟩,
          ⟨some 58, .bin .neq (.t 57) (.k (.c (.int .i64 0))), some (52, false)⟩,
          ⟨some 59, .pick (.t 52) (.k (.c (.bool true))) (.t 58), none⟩])
    (.cond (.t 59)
      (.seq (.region
          [⟨some 8, .mv (.k (.c (.bool false))), none⟩])
      (.ret))
      (.skip)))
  (.seq (.seq (.region
        [⟨some 60, .mv (.t 0), none⟩,
          ⟨some 61, .bin .lss (.t 60) (.k (.c (.int .i64 0))), none⟩,
          ⟨some 62, .mv (.t 61), none⟩,
          ⟨some 63, .mv (.t 0), some (62, false)⟩,
          ⟨some 64, .bin .gtr (.t 63) (.k (.c (.int .i64 1000))), some (62, false)⟩,
          ⟨some 65, .pick (.t 62) (.k (.c (.bool true))) (.t 64), none⟩,
          ⟨some 66, .mv (.t 65), none⟩,
          ⟨some 67, .mv (.t 1), some (66, false)⟩,
          ⟨some 68, .bin .lss (.t 67) (.k (.c (.int .i64 0))), some (66, false)⟩,
          ⟨some 69, .pick (.t 66) (.k (.c (.bool true))) (.t 68), none⟩,
          ⟨some 70, .mv (.t 69), none⟩,
          ⟨some 71, .mv (.t 1), some (70, false)⟩,
          ⟨some 72, .mv (.t 0), some (70, false)⟩,
          ⟨some 73, .bin .gtr (.t 71) (.t 72), some (70, false)⟩,
          ⟨some 74, .pick (.t 70) (.k (.c (.bool true))) (.t 73), none⟩,
          ⟨some 75, .mv (.t 74), none⟩,
          ⟨some 76, .load1 (.t 6), some (75, false)⟩,
          ⟨some 77, .len false (.t 76), some (75, false)⟩,
          ⟨some 78, .bin .gtr (.t 77) (.k (.c (.int .i64 50))), some (75, false)⟩,
          ⟨some 79, .pick (.t 75) (.k (.c (.bool true))) (.t 78), none⟩])
    (.cond (.t 79)
      (.seq (.region
          [⟨some 8, .mv (.k (.c (.bool true))), none⟩])
      (.ret))
      (.skip)))
  (.seq (.region
      [⟨some 81, .mv (.t 0), none⟩,
        ⟨some 82, .call F_arena_New [.t 81], none⟩,
        ⟨some 80, .mv (.t 82), none⟩,
        ⟨some 83, .extract (.t 80) 0, none⟩,
        ⟨some 84, .extract (.t 80) 1, none⟩,
        ⟨some 16, .mv (.t 83), none⟩,
        ⟨some 17, .mv (.t 84), none⟩])
  (.seq (.region
      [⟨some 85, .mv (.t 16), none⟩,
        ⟨some 86, .mv (.t 1), none⟩,
        ⟨some 87, .call F_arena_Arena_Reserve [.t 85, .t 86], none⟩])
  (.seq (.region
      [⟨some 88, .mv (.t 16), none⟩,
        ⟨some 89, .call F_arena_Arena_Lent [.t 88], none⟩,
        ⟨some 18, .alloc ([.int .i64 0]), none⟩,
        ⟨none, .store 1 (.t 18) (.k (.c (.int .i64 0))), none⟩,
        ⟨some 19, .mv (.t 89), none⟩])
  (.seq (.region
      [⟨some 91, .mv (.t 16), none⟩,
        ⟨some 92, .mkClo F_pestlelaw21_LeaseGives_2 [.t 6, .t 18, .t 7], none⟩,
        ⟨some 93, .call F_lease_With [.t 91, .t 92], none⟩,
        ⟨some 90, .mv (.t 93), none⟩,
        ⟨some 94, .extract (.t 90) 0, none⟩,
        ⟨some 95, .extract (.t 90) 1, none⟩,
        ⟨some 20, .mv (.t 94), none⟩,
        ⟨some 21, .mv (.t 95), none⟩])
  (.seq (.region
      [⟨some 96, .mv (.t 16), none⟩,
        ⟨some 97, .call F_arena_Arena_Used [.t 96], none⟩,
        ⟨some 98, .mv (.t 1), none⟩,
        ⟨some 99, .bin .eql (.t 97) (.t 98), none⟩,
        ⟨some 100, .mv (.t 99), none⟩,
        ⟨some 101, .mv (.t 16), some (100, true)⟩,
        ⟨some 102, .call F_arena_Arena_Lent [.t 101], some (100, true)⟩,
        ⟨some 103, .mv (.t 19), some (100, true)⟩,
        ⟨some 104, .bin .eql (.t 102) (.t 103), some (100, true)⟩,
        ⟨some 105, .pick (.t 100) (.t 104) (.k (.c (.bool false))), none⟩,
        ⟨some 106, .mv (.t 105), none⟩,
        ⟨some 107, .mv (.t 20), some (106, true)⟩,
        ⟨some 108, .load1 (.t 18), some (106, true)⟩,
        ⟨some 109, .bin .eql (.t 107) (.t 108), some (106, true)⟩,
        ⟨some 110, .pick (.t 106) (.t 109) (.k (.c (.bool false))), none⟩,
        ⟨some 111, .mv (.t 110), none⟩,
        ⟨some 112, .mv (.t 21), some (111, true)⟩,
        ⟨some 113, .bin .eql (.t 112) (.k (.c (.int .i64 5))), some (111, true)⟩,
        ⟨some 114, .load1 (.t 7), some (111, true)⟩,
        ⟨some 115, .eq false .bool (.t 113) (.t 114), some (111, true)⟩,
        ⟨some 116, .pick (.t 111) (.t 115) (.k (.c (.bool false))), none⟩,
        ⟨some 117, .mv (.t 116), none⟩,
        ⟨some 118, .load1 (.t 18), some (117, true)⟩,
        ⟨some 119, .mv (.t 0), some (117, true)⟩,
        ⟨some 120, .mv (.t 1), some (117, true)⟩,
        ⟨some 121, .bin .sub (.t 119) (.t 120), some (117, true)⟩,
        ⟨some 122, .bin .leq (.t 118) (.t 121), some (117, true)⟩,
        ⟨some 123, .pick (.t 117) (.t 122) (.k (.c (.bool false))), none⟩,
        ⟨some 8, .mv (.t 123), none⟩])
  (.ret))))))))))))))
theorem t_pestlelaw21_LeaseGives : A F_pestlelaw21_LeaseGives = some c_pestlelaw21_LeaseGives := by kernel_rfl

noncomputable def c_pestlelaw21_LeaseGives_2 : AFn := AFn.mk 29 [.tmp 5]
  (.seq (.region
      [⟨some 5, .mv (.k (.c (.int .i64 0))), none⟩])
  (.seq (.seq (.region
        [⟨some 10, .load1 (.t 1), none⟩,
          ⟨some 11, .len false (.t 10), none⟩,
          ⟨some 12, .mv (.k (.c (.int .i64 0))), none⟩])
    (.block 0
      (.loop
        (.seq (.region
            [⟨some 13, .bin .lss (.t 12) (.t 11), none⟩])
        (.seq (.cond (.t 13)
            (.skip)
            (.exit 0))
        (.seq (.block 1
            (.seq (.region
                [⟨some 14, .idxSlc 1 (.t 10) (.t 12), none⟩,
                  ⟨some 15, .load1 (.t 14), none⟩,
                  ⟨some 7, .mv (.t 15), none⟩])
            (.seq (.region
                [⟨some 17, .mv (.t 0), none⟩,
                  ⟨some 18, .mv (.t 7), none⟩,
                  ⟨some 19, .call F_lease_Lease_Take [.t 17, .t 18], none⟩,
                  ⟨some 16, .mv (.t 19), none⟩,
                  ⟨some 20, .extract (.t 16) 0, none⟩,
                  ⟨some 21, .extract (.t 16) 1, none⟩,
                  ⟨some 8, .mv (.t 20), none⟩,
                  ⟨some 9, .mv (.t 21), none⟩])
            (.seq (.region
                [⟨some 22, .mv (.t 9), none⟩,
                  ⟨some 23, .bin .eql (.t 22) (.k (.c (.int .i64 0))), none⟩])
            (.cond (.t 23)
              (.region
                [⟨some 24, .load1 (.t 2), none⟩,
                  ⟨some 25, .mv (.t 7), none⟩,
                  ⟨some 26, .bin .add (.t 24) (.t 25), none⟩,
                  ⟨none, .store 1 (.t 2) (.t 26), none⟩])
              (.skip))))))
        (.region
          [⟨some 27, .bin .add (.t 12) (.k (.c (.int .i64 1))), none⟩,
            ⟨some 12, .mv (.t 27), none⟩])))))))
  (.seq (.seq (.region
        [⟨some 28, .load1 (.t 3), none⟩])
    (.cond (.t 28)
      (.seq (.region
          [⟨some 5, .mv (.k (.c (.int .i64 5))), none⟩])
      (.ret))
      (.skip)))
  (.seq (.region
      [⟨some 5, .mv (.k (.c (.int .i64 0))), none⟩])
  (.ret)))))
theorem t_pestlelaw21_LeaseGives_2 : A F_pestlelaw21_LeaseGives_2 = some c_pestlelaw21_LeaseGives_2 := by kernel_rfl

end PK

/- LeaseGives. -/
namespace PK
open Go PAbs
set_option linter.unusedSimpArgs false
set_option linter.unusedVariables false
set_option maxRecDepth 100000
set_option maxHeartbeats 4000000

theorem wf_ints : ∀ {els : List (List Cell)}, (∀ el ∈ els, wfAll [.int .i64] el = true) → ∃ zs : List Int, els.flatten = zs.map (Cell.int .i64) ∧ zs.length = els.length ∧ ∀ z ∈ zs, -9223372036854775808 ≤ z ∧ z ≤ 9223372036854775807
  | [], _ => ⟨[], rfl, rfl, fun z h => by cases h⟩
  | el :: els, h => by
    obtain ⟨zs, h1, h2, h3⟩ := wf_ints (els := els) fun e he => h e (by simp [he])
    have h0 := h el (by simp)
    have : ∃ z, el = [Cell.int .i64 z] ∧ -9223372036854775808 ≤ z ∧ z ≤ 9223372036854775807 := by
      match el, h0 with
      | [.int k z], h0 =>
        simp only [wfAll, CK.wf, Bool.and_true, Bool.and_eq_true, decide_eq_true_eq] at h0
        obtain ⟨rfl, hw⟩ := h0
        refine ⟨z, rfl, ?_⟩
        simpa [Lit.wf, IntKind.min, IntKind.max, IntKind.signed, IntKind.bits] using hw
      | [.bool _], h0 => simp [wfAll, CK.wf] at h0
      | [.str _], h0 => simp [wfAll, CK.wf] at h0
      | [.pnil], h0 => simp [wfAll, CK.wf] at h0
      | [.ptr _ _], h0 => simp [wfAll, CK.wf] at h0
      | [.snil], h0 => simp [wfAll, CK.wf] at h0
      | [.slc _ _ _ _], h0 => simp [wfAll, CK.wf] at h0
      | [.fnil], h0 => simp [wfAll, CK.wf] at h0
      | [.fn _], h0 => simp [wfAll, CK.wf] at h0
      | [], h0 => simp [wfAll] at h0
      | _ :: _ :: _, h0 => simp [wfAll] at h0
    obtain ⟨z, rfl, hb⟩ := this
    exact ⟨z :: zs, by simp [h1], by simp [h2], fun x hx => by
      rcases List.mem_cons.1 hx with rfl | hx
      · exact hb
      · exact h3 x hx⟩

theorem AC_awake21 (cs xs ys : List Cell) : AC A 3 F_pestlelaw21_awake [] [.ro cs, .own xs, .own ys] (fun v _ => v = .c (.bool true)) := AC_eval 60 (by kernel_rfl)
theorem AC_leWith_nil (fl : Nat) (H : AHeap) (x : AV) : AC A fl F_lease_With [.c .pnil, x] H (fun v H' => v = .tup [.c (.int .i64 0), .c (.int .i64 11)] ∧ H = H') := by
  refine AC_enter t_lease_With ?_; simp only [c_lease_With, enterA, List.replicate, List.length_cons, List.length_nil, Nat.reduceAdd, Nat.reduceSub, List.cons_append, List.nil_append]
  (repeat (first | with_reducible (first | refine thenQ_n ?_ | refine blockQ_n ?_ | refine thenQ_e ?_ | refine thenQ_r ?_ | refine blockQ_r ?_ | refine blockQ_s ?_ | refine blockQ_o rfl ?_) | refine AW_skip ?_ | refine AW_seq ?_ | refine AW_ops ?_ | refine AW_blockS ?_ | refine AW_blockR ?_ | refine AW_blockD ?_ | refine AW_blockC ?_ | refine AO_nil ?_ | refine AW_draw ?_ | refine AW_draw3 ?_ | refine AW_blockD3 ?_ | (refine AW_drawA ?_; simp only [atBlk, Sm]) | refine AHd_nil ?_ | with_reducible (first | refine AP_at ?_ | refine AHP_at ?_) | (with_reducible (first | apply AO_any | apply AHd_any | apply AP_go | apply AHP_go); focus (simp only [Sm, wantedA, execA, stepA, List.getElem?_cons_zero, List.getElem?_cons_succ, if_true, if_false, binA, binInt, unA, eqA, Option.map, eq_self, reduceCtorEq, ite_true, ite_false, cellsAV, fitsAll, CK.fits, fillA, AV.cells, writeN, sliceCells, appendA, lenA, i64, loA, hiA, Nat.reduceAdd, Nat.reduceMul, Nat.reduceDiv, Nat.reduceSub, Nat.reduceLeDiff, Nat.reduceLT, Int.reduceLE, Int.reduceLT, foldA, maxA, minA, Int.reduceBEq, Int.reduceBNe, Int.reduceGT, Int.reduceGE, Int.reduceEq, Int.reduceNe, Int.reduceToNat, AOp.stops, ↓want_eq, ↓exec_lenX, ↓exec_storeX, ↓exec_storeN, storeN_one, ↓exec_bsX, ↓exec_sliceX, ↓exec_copyX, ↓exec_appNil, ↓exec_carryX, Nat.sub_zero, rep_len]; with_reducible first | exact EqP.at_ | exact EqP.cont | exact EqP.hcont | exact EqP.gate | exact EqP.hgate)) | (refine AW_ift ?_ ?_; focus (simp only [Sm]; done)) | (refine AW_iff ?_ ?_; focus (simp only [Sm]; done))))
  refine AO_call rfl (AC_leOpen_nil fl H) ?_
  rintro _ _ ⟨rfl, rfl⟩
  (repeat (first | with_reducible (first | refine thenQ_n ?_ | refine blockQ_n ?_ | refine thenQ_e ?_ | refine thenQ_r ?_ | refine blockQ_r ?_ | refine blockQ_s ?_ | refine blockQ_o rfl ?_) | refine AW_skip ?_ | refine AW_seq ?_ | refine AW_ops ?_ | refine AW_blockS ?_ | refine AW_blockR ?_ | refine AW_blockD ?_ | refine AW_blockC ?_ | refine AO_nil ?_ | refine AW_draw ?_ | refine AW_draw3 ?_ | refine AW_blockD3 ?_ | (refine AW_drawA ?_; simp only [atBlk, Sm]) | refine AHd_nil ?_ | with_reducible (first | refine AP_at ?_ | refine AHP_at ?_) | (with_reducible (first | apply AO_any | apply AHd_any | apply AP_go | apply AHP_go); focus (simp only [Sm, wantedA, execA, stepA, List.getElem?_cons_zero, List.getElem?_cons_succ, if_true, if_false, binA, binInt, unA, eqA, Option.map, eq_self, reduceCtorEq, ite_true, ite_false, cellsAV, fitsAll, CK.fits, fillA, AV.cells, writeN, sliceCells, appendA, lenA, i64, loA, hiA, Nat.reduceAdd, Nat.reduceMul, Nat.reduceDiv, Nat.reduceSub, Nat.reduceLeDiff, Nat.reduceLT, Int.reduceLE, Int.reduceLT, foldA, maxA, minA, Int.reduceBEq, Int.reduceBNe, Int.reduceGT, Int.reduceGE, Int.reduceEq, Int.reduceNe, Int.reduceToNat, AOp.stops, ↓want_eq, ↓exec_lenX, ↓exec_storeX, ↓exec_storeN, storeN_one, ↓exec_bsX, ↓exec_sliceX, ↓exec_copyX, ↓exec_appNil, ↓exec_carryX, Nat.sub_zero, rep_len]; with_reducible first | exact EqP.at_ | exact EqP.cont | exact EqP.hcont | exact EqP.gate | exact EqP.hgate)) | (refine AW_ift ?_ ?_; focus (simp only [Sm]; done)) | (refine AW_iff ?_ ?_; focus (simp only [Sm]; done))))
  exact AW_ret ⟨_, rfl, rfl, rfl⟩

structure Giv (H : AHeap) (L a b bf s bd : Nat) (bad : Bool) (zs : List Int) (i : Nat) (y : Cell) (ps : Pcs) : Prop where
  le : LeaseAt 1 H L a y true (sumP ps) ps
  ar : ∃ h, h ≤ b ∧ hown H a = some (arC b (bf + sumP ps) h (1 + ps.length))
  su : hown H s = some [.int .i64 (sumP ps : Int)]
  ba : hown H bd = some [.bool bad]
  zs : hcells H 0 = some (zs.map (Cell.int .i64))
  le2 : bf + sumP ps ≤ b
  num : ps.length ≤ i
  sL : ¬ foot L y ps s
  bL : ¬ foot L y ps bd
  sa : s ≠ a
  ba' : bd ≠ a
  sb : s ≠ bd
  s1 : 1 ≤ s
  a1 : 1 ≤ a

def gvI (L a b bf p bd : Nat) (bad : Bool) (zs : List Int) (yt : Cell) (N : Nat) (i : Nat) (fr : AFrame) (H : AHeap) : Prop := (∃ y ps, Giv H L a b bf p bd bad zs i y ps) ∧ (∃ s : Nat → AV, fr = [.c (.ptr L 0), s 1, .c (.ptr p 0), .c (.ptr bd 0), s 4, s 5, s 6, s 7, s 8, s 9, .c yt, .c (.int .i64 (N : Int)), .c (.int .i64 (i : Int)), s 13, s 14, s 15, s 16, s 17, s 18, s 19, s 20, s 21, s 22, s 23, s 24, s 25, s 26, s 27, s 28])
theorem AC_gives2 (H : AHeap) (L a b bf p bd t : Nat) (bad : Bool) (zs : List Int) (yt : Cell) (hz : ∀ z ∈ zs, -9223372036854775808 ≤ z ∧ z ≤ 9223372036854775807) (hyt : SlZ 0 yt zs.length 1) (hb : b ≤ 4194304) (hzl : zs.length ≤ 50)
    (ht : hown H t = some [yt]) (hG : Giv H L a b bf p bd bad zs 0 .snil []) :
    AC A 1 F_pestlelaw21_LeaseGives_2 [.c (.ptr L 0), .c (.ptr t 0), .c (.ptr p 0), .c (.ptr bd 0)] H (fun v H' => v = .c (.int .i64 (if bad then 5 else 0)) ∧ ∃ y ps, Giv H' L a b bf p bd bad zs zs.length y ps) := by
  have hct := hcells_own ht
  have yl : (zs.map (Cell.int .i64)).length = zs.length := by simp
  have rd : ∀ H, hcells H 0 = some (zs.map (Cell.int .i64)) → Rd H yt 1 (zs.map (Cell.int .i64)) := fun H h => Rd.of_argZ hyt (by simp) h
  have ly := (rd H hG.zs).len zs.length (by simp) (by decide)
  refine AC_enter t_pestlelaw21_LeaseGives_2 ?_; simp only [c_pestlelaw21_LeaseGives_2, enterA, List.replicate, List.length_cons, List.length_nil, Nat.reduceAdd, Nat.reduceSub, List.cons_append, List.nil_append]
  (repeat (first | with_reducible (first | refine thenQ_n ?_ | refine blockQ_n ?_ | refine thenQ_e ?_ | refine thenQ_r ?_ | refine blockQ_r ?_ | refine blockQ_s ?_ | refine blockQ_o rfl ?_) | refine AW_skip ?_ | refine AW_seq ?_ | refine AW_ops ?_ | refine AW_blockS ?_ | refine AW_blockR ?_ | refine AW_blockD ?_ | refine AW_blockC ?_ | refine AO_nil ?_ | refine AW_draw ?_ | refine AW_draw3 ?_ | refine AW_blockD3 ?_ | (refine AW_drawA ?_; simp only [atBlk, Sm]) | refine AHd_nil ?_ | with_reducible (first | refine AP_at ?_ | refine AHP_at ?_) | (with_reducible (first | apply AO_any | apply AHd_any | apply AP_go | apply AHP_go); focus (simp only [Sm, wantedA, execA, stepA, List.getElem?_cons_zero, List.getElem?_cons_succ, if_true, if_false, binA, binInt, unA, eqA, Option.map, eq_self, reduceCtorEq, ite_true, ite_false, cellsAV, fitsAll, CK.fits, fillA, AV.cells, writeN, sliceCells, appendA, lenA, i64, loA, hiA, Nat.reduceAdd, Nat.reduceMul, Nat.reduceDiv, Nat.reduceSub, Nat.reduceLeDiff, Nat.reduceLT, Int.reduceLE, Int.reduceLT, foldA, maxA, minA, Int.reduceBEq, Int.reduceBNe, Int.reduceGT, Int.reduceGE, Int.reduceEq, Int.reduceNe, Int.reduceToNat, AOp.stops, ↓want_eq, ↓exec_lenX, ↓exec_storeX, ↓exec_storeN, storeN_one, ↓exec_bsX, ↓exec_sliceX, ↓exec_copyX, ↓exec_appNil, ↓exec_carryX, Nat.sub_zero, rep_len, hct, ly]; with_reducible first | exact EqP.at_ | exact EqP.cont | exact EqP.hcont | exact EqP.gate | exact EqP.hgate)) | (refine AW_ift ?_ ?_; focus (simp only [Sm]; done)) | (refine AW_iff ?_ ?_; focus (simp only [Sm]; done))))
  refine AW_mid (fun e fr H' => e = .normal ∧ gvI L a b bf p bd bad zs yt zs.length zs.length fr H') ?_ ?_
  · refine AW_block (AW_up (gvI L a b bf p bd bad zs yt zs.length) zs.length ⟨⟨.snil, [], hG⟩, stale _ _ rfl⟩ ?_)
    rintro i fr H1 hi ⟨⟨y, ps, g⟩, st, rfl⟩
    (repeat (first | with_reducible (first | refine thenQ_n ?_ | refine blockQ_n ?_ | refine thenQ_e ?_ | refine thenQ_r ?_ | refine blockQ_r ?_ | refine blockQ_s ?_ | refine blockQ_o rfl ?_) | refine AW_skip ?_ | refine AW_seq ?_ | refine AW_ops ?_ | refine AW_blockS ?_ | refine AW_blockR ?_ | refine AW_blockD ?_ | refine AW_blockC ?_ | refine AO_nil ?_ | refine AW_draw ?_ | refine AW_draw3 ?_ | refine AW_blockD3 ?_ | (refine AW_drawA ?_; simp only [atBlk, Sm]) | refine AHd_nil ?_ | with_reducible (first | refine AP_at ?_ | refine AHP_at ?_) | (with_reducible (first | apply AO_any | apply AHd_any | apply AP_go | apply AHP_go); focus (simp only [Sm, wantedA, execA, stepA, List.getElem?_cons_zero, List.getElem?_cons_succ, if_true, if_false, binA, binInt, unA, eqA, Option.map, eq_self, reduceCtorEq, ite_true, ite_false, cellsAV, fitsAll, CK.fits, fillA, AV.cells, writeN, sliceCells, appendA, lenA, i64, loA, hiA, Nat.reduceAdd, Nat.reduceMul, Nat.reduceDiv, Nat.reduceSub, Nat.reduceLeDiff, Nat.reduceLT, Int.reduceLE, Int.reduceLT, foldA, maxA, minA, Int.reduceBEq, Int.reduceBNe, Int.reduceGT, Int.reduceGE, Int.reduceEq, Int.reduceNe, Int.reduceToNat, AOp.stops, ↓want_eq, ↓exec_lenX, ↓exec_storeX, ↓exec_storeN, storeN_one, ↓exec_bsX, ↓exec_sliceX, ↓exec_copyX, ↓exec_appNil, ↓exec_carryX, Nat.sub_zero, rep_len]; with_reducible first | exact EqP.at_ | exact EqP.cont | exact EqP.hcont | exact EqP.gate | exact EqP.hgate)) | (refine AW_ift ?_ ?_; focus (simp only [Sm]; done)) | (refine AW_iff ?_ ?_; focus (simp only [Sm]; done))))
    refine AW_cond rfl ?_ ?_ <;> intro hlt
    · have hlt : (i : Int) < ((zs.length : Nat) : Int) := of_decide_eq_true hlt
      have hi2 : i < zs.length := by omega
      obtain ⟨z, hz'⟩ : ∃ z, zs[i]? = some z := ⟨_, List.getElem?_eq_getElem hi2⟩
      have hzb := hz z (List.mem_of_getElem? hz')
      obtain ⟨u, o, f, rfl, hf, hg⟩ := (rd H1 g.zs).get (i := i) (by rw [yl]; exact hi2)
      have hg : f[o + i]? = some (.int .i64 z) := by rw [hg, List.getElem?_map, hz']; rfl
      rw [yl] at *
      have esc := i64_succ (show i < 9223372036854775807 by omega)
      obtain ⟨h, hh, ho⟩ := g.ar
      have hle2 := g.le2
      have hnum := g.num
      (repeat (first | with_reducible (first | refine thenQ_n ?_ | refine blockQ_n ?_ | refine thenQ_e ?_ | refine thenQ_r ?_ | refine blockQ_r ?_ | refine blockQ_s ?_ | refine blockQ_o rfl ?_) | refine AW_skip ?_ | refine AW_seq ?_ | refine AW_ops ?_ | refine AW_blockS ?_ | refine AW_blockR ?_ | refine AW_blockD ?_ | refine AW_blockC ?_ | refine AO_nil ?_ | refine AW_draw ?_ | refine AW_draw3 ?_ | refine AW_blockD3 ?_ | (refine AW_drawA ?_; simp only [atBlk, Sm]) | refine AHd_nil ?_ | with_reducible (first | refine AP_at ?_ | refine AHP_at ?_) | (with_reducible (first | apply AO_any | apply AHd_any | apply AP_go | apply AHP_go); focus (simp only [Sm, wantedA, execA, stepA, List.getElem?_cons_zero, List.getElem?_cons_succ, if_true, if_false, binA, binInt, unA, eqA, Option.map, eq_self, reduceCtorEq, ite_true, ite_false, cellsAV, fitsAll, CK.fits, fillA, AV.cells, writeN, sliceCells, appendA, lenA, i64, loA, hiA, Nat.reduceAdd, Nat.reduceMul, Nat.reduceDiv, Nat.reduceSub, Nat.reduceLeDiff, Nat.reduceLT, Int.reduceLE, Int.reduceLT, foldA, maxA, minA, Int.reduceBEq, Int.reduceBNe, Int.reduceGT, Int.reduceGE, Int.reduceEq, Int.reduceNe, Int.reduceToNat, AOp.stops, ↓want_eq, ↓exec_lenX, ↓exec_storeX, ↓exec_storeN, storeN_one, ↓exec_bsX, ↓exec_sliceX, ↓exec_copyX, ↓exec_appNil, ↓exec_carryX, Nat.sub_zero, rep_len, hlt, hf, hg]; with_reducible first | exact EqP.at_ | exact EqP.cont | exact EqP.hcont | exact EqP.gate | exact EqP.hgate)) | (refine AW_ift ?_ ?_; focus (simp only [Sm]; done)) | (refine AW_iff ?_ ?_; focus (simp only [Sm]; done))))
      by_cases hok : 0 ≤ z ∧ z ≤ ((b - (bf + sumP ps) : Nat) : Int)
      · obtain ⟨n, rfl⟩ := Int.eq_ofNat_of_zero_le hok.1
        have hfL : 1 ≤ H1.length := by have := hown_lt ho; have := g.a1; omega
        refine AO_call rfl (AC_leTake 1 H1 b (bf + sumP ps) h (1 + ps.length) n g.le ho g.a1 hfL hb hle2 (by omega) (by omega) (by omega) (by omega) (by omega) (by omega)) ?_
        rintro _ H2 ⟨rfl, ⟨y', h2, hy'⟩, ho2, c2⟩
        have hsm : sumP (ps ++ [(H1.length + 1, H1.length, n)]) = sumP ps + n := by rw [sumP_app]; simp [sumP]
        have e1 : IntKind.i64.wrap (((sumP ps : Nat) : Int) + ((n : Nat) : Int)) = ((sumP ps + n : Nat) : Int) := i64_add (by omega)
        have sS : ¬ (p = a ∨ foot L y ps p) := by rintro (e | e); exact g.sa e; exact g.sL e
        have bS : ¬ (bd = a ∨ foot L y ps bd) := by rintro (e | e); exact g.ba' e; exact g.bL e
        have su2 := c2.hown sS g.su
        have ba2 := c2.hown bS g.ba
        have hp1 := g.s1
        have hsl := hown_lt g.su
        have hbl := hown_lt g.ba
        obtain ⟨H3, s3, su3, c3, l3⟩ := storeX_ex (o := 0) su2 hp1 (by simp) (.int .i64 ((sumP ps + n : Nat) : Int))
        simp only [List.set_cons_zero] at su3
        have hcs2 := hcells_own su2
        (repeat (first | with_reducible (first | refine thenQ_n ?_ | refine blockQ_n ?_ | refine thenQ_e ?_ | refine thenQ_r ?_ | refine blockQ_r ?_ | refine blockQ_s ?_ | refine blockQ_o rfl ?_) | refine AW_skip ?_ | refine AW_seq ?_ | refine AW_ops ?_ | refine AW_blockS ?_ | refine AW_blockR ?_ | refine AW_blockD ?_ | refine AW_blockC ?_ | refine AO_nil ?_ | refine AW_draw ?_ | refine AW_draw3 ?_ | refine AW_blockD3 ?_ | (refine AW_drawA ?_; simp only [atBlk, Sm]) | refine AHd_nil ?_ | with_reducible (first | refine AP_at ?_ | refine AHP_at ?_) | (with_reducible (first | apply AO_any | apply AHd_any | apply AP_go | apply AHP_go); focus (simp only [Sm, wantedA, execA, stepA, List.getElem?_cons_zero, List.getElem?_cons_succ, if_true, if_false, binA, binInt, unA, eqA, Option.map, eq_self, reduceCtorEq, ite_true, ite_false, cellsAV, fitsAll, CK.fits, fillA, AV.cells, writeN, sliceCells, appendA, lenA, i64, loA, hiA, Nat.reduceAdd, Nat.reduceMul, Nat.reduceDiv, Nat.reduceSub, Nat.reduceLeDiff, Nat.reduceLT, Int.reduceLE, Int.reduceLT, foldA, maxA, minA, Int.reduceBEq, Int.reduceBNe, Int.reduceGT, Int.reduceGE, Int.reduceEq, Int.reduceNe, Int.reduceToNat, AOp.stops, ↓want_eq, ↓exec_lenX, ↓exec_storeX, ↓exec_storeN, storeN_one, ↓exec_bsX, ↓exec_sliceX, ↓exec_copyX, ↓exec_appNil, ↓exec_carryX, Nat.sub_zero, rep_len, hcs2, e1, s3, esc]; with_reducible first | exact EqP.at_ | exact EqP.cont | exact EqP.hcont | exact EqP.gate | exact EqP.hgate)) | (refine AW_ift ?_ ?_; focus (simp only [Sm]; done)) | (refine AW_iff ?_ ?_; focus (simp only [Sm]; done))))
        have zS : ¬ (0 = a ∨ foot L y ps 0) := by
          rintro (e | e | e | e)
          · have := g.a1; omega
          · have := g.le.low.1; omega
          · have := g.le.ys.le e; omega
          · have := g.le.low.2 _ e; omega
        have nf : ∀ x, x < H1.length → ¬ foot L y ps x → ¬ foot L y' (ps ++ [(H1.length + 1, H1.length, n)]) x := by
          rintro x hx hn (e | e | e)
          · exact hn (.inl e)
          · have := hy' x e; omega
          · rw [bl_app, List.mem_append] at e
            rcases e with e | e
            · exact hn (.inr (.inr e))
            · simp [bl] at e; omega
        have mx : max (sumP ps) (sumP ps + n) = sumP ps + n := by omega
        rw [mx] at h2
        have h3 : LeaseAt 1 H3 L a y' true (sumP (ps ++ [(H1.length + 1, H1.length, n)])) (ps ++ [(H1.length + 1, H1.length, n)]) := by
          rw [hsm]; exact h2.chg c3 (fun x hx e => by subst e; exact nf x hsl g.sL hx)
        refine ⟨hi2, ⟨y', _, ⟨h3, ⟨max h (bf + sumP ps + n), by omega, ?_⟩, by rw [hsm]; exact su3, c3.hown (fun e => g.sb e.symm) ba2, ?_, by rw [hsm]; omega, by simp; omega, nf p hsl g.sL, nf bd hbl g.bL, g.sa, g.ba', g.sb, hp1, g.a1⟩⟩, stale _ _ rfl⟩
        · rw [hsm, ← Nat.add_assoc, List.length_append]
          have := c3.hown (fun e => g.sa e.symm) ho2
          simpa [Nat.add_assoc] using this
        · exact c3.hcells (by omega) (c2.hcells zS g.zs)
      · have hbad : z < 0 ∨ z > ((b - (bf + sumP ps) : Nat) : Int) := by omega
        refine AO_call rfl (AC_leTake_bad 1 H1 b (bf + sumP ps) h (1 + ps.length) z g.le ho hb hle2 hbad) ?_
        rintro _ _ ⟨rfl, rfl⟩
        have fin : Giv H1 L a b bf p bd bad zs (i + 1) y ps := ⟨g.le, g.ar, g.su, g.ba, g.zs, g.le2, by omega, g.sL, g.bL, g.sa, g.ba', g.sb, g.s1, g.a1⟩
        by_cases h0 : z < 0
        · rw [if_pos h0]
          (repeat (first | with_reducible (first | refine thenQ_n ?_ | refine blockQ_n ?_ | refine thenQ_e ?_ | refine thenQ_r ?_ | refine blockQ_r ?_ | refine blockQ_s ?_ | refine blockQ_o rfl ?_) | refine AW_skip ?_ | refine AW_seq ?_ | refine AW_ops ?_ | refine AW_blockS ?_ | refine AW_blockR ?_ | refine AW_blockD ?_ | refine AW_blockC ?_ | refine AO_nil ?_ | refine AW_draw ?_ | refine AW_draw3 ?_ | refine AW_blockD3 ?_ | (refine AW_drawA ?_; simp only [atBlk, Sm]) | refine AHd_nil ?_ | with_reducible (first | refine AP_at ?_ | refine AHP_at ?_) | (with_reducible (first | apply AO_any | apply AHd_any | apply AP_go | apply AHP_go); focus (simp only [Sm, wantedA, execA, stepA, List.getElem?_cons_zero, List.getElem?_cons_succ, if_true, if_false, binA, binInt, unA, eqA, Option.map, eq_self, reduceCtorEq, ite_true, ite_false, cellsAV, fitsAll, CK.fits, fillA, AV.cells, writeN, sliceCells, appendA, lenA, i64, loA, hiA, Nat.reduceAdd, Nat.reduceMul, Nat.reduceDiv, Nat.reduceSub, Nat.reduceLeDiff, Nat.reduceLT, Int.reduceLE, Int.reduceLT, foldA, maxA, minA, Int.reduceBEq, Int.reduceBNe, Int.reduceGT, Int.reduceGE, Int.reduceEq, Int.reduceNe, Int.reduceToNat, AOp.stops, ↓want_eq, ↓exec_lenX, ↓exec_storeX, ↓exec_storeN, storeN_one, ↓exec_bsX, ↓exec_sliceX, ↓exec_copyX, ↓exec_appNil, ↓exec_carryX, Nat.sub_zero, rep_len, esc]; with_reducible first | exact EqP.at_ | exact EqP.cont | exact EqP.hcont | exact EqP.gate | exact EqP.hgate)) | (refine AW_ift ?_ ?_; focus (simp only [Sm]; done)) | (refine AW_iff ?_ ?_; focus (simp only [Sm]; done))))
          exact ⟨hi2, ⟨y, ps, fin⟩, stale _ _ rfl⟩
        · rw [if_neg h0]
          (repeat (first | with_reducible (first | refine thenQ_n ?_ | refine blockQ_n ?_ | refine thenQ_e ?_ | refine thenQ_r ?_ | refine blockQ_r ?_ | refine blockQ_s ?_ | refine blockQ_o rfl ?_) | refine AW_skip ?_ | refine AW_seq ?_ | refine AW_ops ?_ | refine AW_blockS ?_ | refine AW_blockR ?_ | refine AW_blockD ?_ | refine AW_blockC ?_ | refine AO_nil ?_ | refine AW_draw ?_ | refine AW_draw3 ?_ | refine AW_blockD3 ?_ | (refine AW_drawA ?_; simp only [atBlk, Sm]) | refine AHd_nil ?_ | with_reducible (first | refine AP_at ?_ | refine AHP_at ?_) | (with_reducible (first | apply AO_any | apply AHd_any | apply AP_go | apply AHP_go); focus (simp only [Sm, wantedA, execA, stepA, List.getElem?_cons_zero, List.getElem?_cons_succ, if_true, if_false, binA, binInt, unA, eqA, Option.map, eq_self, reduceCtorEq, ite_true, ite_false, cellsAV, fitsAll, CK.fits, fillA, AV.cells, writeN, sliceCells, appendA, lenA, i64, loA, hiA, Nat.reduceAdd, Nat.reduceMul, Nat.reduceDiv, Nat.reduceSub, Nat.reduceLeDiff, Nat.reduceLT, Int.reduceLE, Int.reduceLT, foldA, maxA, minA, Int.reduceBEq, Int.reduceBNe, Int.reduceGT, Int.reduceGE, Int.reduceEq, Int.reduceNe, Int.reduceToNat, AOp.stops, ↓want_eq, ↓exec_lenX, ↓exec_storeX, ↓exec_storeN, storeN_one, ↓exec_bsX, ↓exec_sliceX, ↓exec_copyX, ↓exec_appNil, ↓exec_carryX, Nat.sub_zero, rep_len, esc]; with_reducible first | exact EqP.at_ | exact EqP.cont | exact EqP.hcont | exact EqP.gate | exact EqP.hgate)) | (refine AW_ift ?_ ?_; focus (simp only [Sm]; done)) | (refine AW_iff ?_ ?_; focus (simp only [Sm]; done))))
          exact ⟨hi2, ⟨y, ps, fin⟩, stale _ _ rfl⟩
    · obtain rfl : i = zs.length := by have : ¬ (i : Int) < ((zs.length : Nat) : Int) := of_decide_eq_false hlt; omega
      exact AW_exit ⟨rfl, ⟨y, ps, g⟩, stale _ _ rfl⟩
  rintro e fr H1 ⟨rfl, ⟨y, ps, g⟩, st, rfl⟩
  have hcb := hcells_own g.ba
  cases bad with
  | true =>
    (repeat (first | with_reducible (first | refine thenQ_n ?_ | refine blockQ_n ?_ | refine thenQ_e ?_ | refine thenQ_r ?_ | refine blockQ_r ?_ | refine blockQ_s ?_ | refine blockQ_o rfl ?_) | refine AW_skip ?_ | refine AW_seq ?_ | refine AW_ops ?_ | refine AW_blockS ?_ | refine AW_blockR ?_ | refine AW_blockD ?_ | refine AW_blockC ?_ | refine AO_nil ?_ | refine AW_draw ?_ | refine AW_draw3 ?_ | refine AW_blockD3 ?_ | (refine AW_drawA ?_; simp only [atBlk, Sm]) | refine AHd_nil ?_ | with_reducible (first | refine AP_at ?_ | refine AHP_at ?_) | (with_reducible (first | apply AO_any | apply AHd_any | apply AP_go | apply AHP_go); focus (simp only [Sm, wantedA, execA, stepA, List.getElem?_cons_zero, List.getElem?_cons_succ, if_true, if_false, binA, binInt, unA, eqA, Option.map, eq_self, reduceCtorEq, ite_true, ite_false, cellsAV, fitsAll, CK.fits, fillA, AV.cells, writeN, sliceCells, appendA, lenA, i64, loA, hiA, Nat.reduceAdd, Nat.reduceMul, Nat.reduceDiv, Nat.reduceSub, Nat.reduceLeDiff, Nat.reduceLT, Int.reduceLE, Int.reduceLT, foldA, maxA, minA, Int.reduceBEq, Int.reduceBNe, Int.reduceGT, Int.reduceGE, Int.reduceEq, Int.reduceNe, Int.reduceToNat, AOp.stops, ↓want_eq, ↓exec_lenX, ↓exec_storeX, ↓exec_storeN, storeN_one, ↓exec_bsX, ↓exec_sliceX, ↓exec_copyX, ↓exec_appNil, ↓exec_carryX, Nat.sub_zero, rep_len, hcb]; with_reducible first | exact EqP.at_ | exact EqP.cont | exact EqP.hcont | exact EqP.gate | exact EqP.hgate)) | (refine AW_ift ?_ ?_; focus (simp only [Sm]; done)) | (refine AW_iff ?_ ?_; focus (simp only [Sm]; done))))
    exact AW_ret ⟨_, rfl, rfl, y, ps, g⟩
  | false =>
    (repeat (first | with_reducible (first | refine thenQ_n ?_ | refine blockQ_n ?_ | refine thenQ_e ?_ | refine thenQ_r ?_ | refine blockQ_r ?_ | refine blockQ_s ?_ | refine blockQ_o rfl ?_) | refine AW_skip ?_ | refine AW_seq ?_ | refine AW_ops ?_ | refine AW_blockS ?_ | refine AW_blockR ?_ | refine AW_blockD ?_ | refine AW_blockC ?_ | refine AO_nil ?_ | refine AW_draw ?_ | refine AW_draw3 ?_ | refine AW_blockD3 ?_ | (refine AW_drawA ?_; simp only [atBlk, Sm]) | refine AHd_nil ?_ | with_reducible (first | refine AP_at ?_ | refine AHP_at ?_) | (with_reducible (first | apply AO_any | apply AHd_any | apply AP_go | apply AHP_go); focus (simp only [Sm, wantedA, execA, stepA, List.getElem?_cons_zero, List.getElem?_cons_succ, if_true, if_false, binA, binInt, unA, eqA, Option.map, eq_self, reduceCtorEq, ite_true, ite_false, cellsAV, fitsAll, CK.fits, fillA, AV.cells, writeN, sliceCells, appendA, lenA, i64, loA, hiA, Nat.reduceAdd, Nat.reduceMul, Nat.reduceDiv, Nat.reduceSub, Nat.reduceLeDiff, Nat.reduceLT, Int.reduceLE, Int.reduceLT, foldA, maxA, minA, Int.reduceBEq, Int.reduceBNe, Int.reduceGT, Int.reduceGE, Int.reduceEq, Int.reduceNe, Int.reduceToNat, AOp.stops, ↓want_eq, ↓exec_lenX, ↓exec_storeX, ↓exec_storeN, storeN_one, ↓exec_bsX, ↓exec_sliceX, ↓exec_copyX, ↓exec_appNil, ↓exec_carryX, Nat.sub_zero, rep_len, hcb]; with_reducible first | exact EqP.at_ | exact EqP.cont | exact EqP.hcont | exact EqP.gate | exact EqP.hgate)) | (refine AW_ift ?_ ?_; focus (simp only [Sm]; done)) | (refine AW_iff ?_ ?_; focus (simp only [Sm]; done))))
    exact AW_ret ⟨_, rfl, rfl, y, ps, g⟩

theorem AC_withGives (H : AHeap) (a b bf h s bd t : Nat) (bad : Bool) (zs : List Int) (yt : Cell) (hz : ∀ z ∈ zs, -9223372036854775808 ≤ z ∧ z ≤ 9223372036854775807) (hyt : SlZ 0 yt zs.length 1) (hb : b ≤ 4194304) (hzl : zs.length ≤ 50)
    (ho : hown H a = some (arC b bf h 1)) (hh : h ≤ b) (hbf : bf ≤ b) (ht : hown H t = some [yt]) (hs : hown H s = some [.int .i64 0]) (hd : hown H bd = some [.bool bad]) (h0 : hcells H 0 = some (zs.map (Cell.int .i64)))
    (n1 : s ≠ a) (n2 : bd ≠ a) (n3 : s ≠ bd) (n4 : 1 ≤ s) (n5 : 1 ≤ a) (n6 : 1 ≤ t) (n7 : t ≠ a) (n8 : t ≠ s) (n9 : t ≠ bd) :
    AC A 1 F_lease_With [.c (.ptr a 0), .clo F_pestlelaw21_LeaseGives_2 [.ptr t 0, .ptr s 0, .ptr bd 0]] H (fun v H' => ∃ u : Nat, v = .tup [.c (.int .i64 (u : Int)), .c (.int .i64 (if bad then 5 else 0))] ∧ bf + u ≤ b ∧ hown H' s = some [.int .i64 (u : Int)] ∧ hown H' bd = some [.bool bad] ∧ ∃ h', hown H' a = some (arC b bf h' 1)) := by
  have hsl := hown_lt hs
  have hal := hown_lt ho
  have hbl := hown_lt hd
  have htl := hown_lt ht
  refine AC_enter t_lease_With ?_; simp only [c_lease_With, enterA, List.replicate, List.length_cons, List.length_nil, Nat.reduceAdd, Nat.reduceSub, List.cons_append, List.nil_append]
  (repeat (first | with_reducible (first | refine thenQ_n ?_ | refine blockQ_n ?_ | refine thenQ_e ?_ | refine thenQ_r ?_ | refine blockQ_r ?_ | refine blockQ_s ?_ | refine blockQ_o rfl ?_) | refine AW_skip ?_ | refine AW_seq ?_ | refine AW_ops ?_ | refine AW_blockS ?_ | refine AW_blockR ?_ | refine AW_blockD ?_ | refine AW_blockC ?_ | refine AO_nil ?_ | refine AW_draw ?_ | refine AW_draw3 ?_ | refine AW_blockD3 ?_ | (refine AW_drawA ?_; simp only [atBlk, Sm]) | refine AHd_nil ?_ | with_reducible (first | refine AP_at ?_ | refine AHP_at ?_) | (with_reducible (first | apply AO_any | apply AHd_any | apply AP_go | apply AHP_go); focus (simp only [Sm, wantedA, execA, stepA, List.getElem?_cons_zero, List.getElem?_cons_succ, if_true, if_false, binA, binInt, unA, eqA, Option.map, eq_self, reduceCtorEq, ite_true, ite_false, cellsAV, fitsAll, CK.fits, fillA, AV.cells, writeN, sliceCells, appendA, lenA, i64, loA, hiA, Nat.reduceAdd, Nat.reduceMul, Nat.reduceDiv, Nat.reduceSub, Nat.reduceLeDiff, Nat.reduceLT, Int.reduceLE, Int.reduceLT, foldA, maxA, minA, Int.reduceBEq, Int.reduceBNe, Int.reduceGT, Int.reduceGE, Int.reduceEq, Int.reduceNe, Int.reduceToNat, AOp.stops, ↓want_eq, ↓exec_lenX, ↓exec_storeX, ↓exec_storeN, storeN_one, ↓exec_bsX, ↓exec_sliceX, ↓exec_copyX, ↓exec_appNil, ↓exec_carryX, Nat.sub_zero, rep_len]; with_reducible first | exact EqP.at_ | exact EqP.cont | exact EqP.hcont | exact EqP.gate | exact EqP.hgate)) | (refine AW_ift ?_ ?_; focus (simp only [Sm]; done)) | (refine AW_iff ?_ ?_; focus (simp only [Sm]; done))))
  refine AO_call rfl (AC_leOpen 1 H a ⟨_, ho⟩ (by omega)) ?_
  rintro _ H1 ⟨rfl, hL, k1, l1⟩
  (repeat (first | with_reducible (first | refine thenQ_n ?_ | refine blockQ_n ?_ | refine thenQ_e ?_ | refine thenQ_r ?_ | refine blockQ_r ?_ | refine blockQ_s ?_ | refine blockQ_o rfl ?_) | refine AW_skip ?_ | refine AW_seq ?_ | refine AW_ops ?_ | refine AW_blockS ?_ | refine AW_blockR ?_ | refine AW_blockD ?_ | refine AW_blockC ?_ | refine AO_nil ?_ | refine AW_draw ?_ | refine AW_draw3 ?_ | refine AW_blockD3 ?_ | (refine AW_drawA ?_; simp only [atBlk, Sm]) | refine AHd_nil ?_ | with_reducible (first | refine AP_at ?_ | refine AHP_at ?_) | (with_reducible (first | apply AO_any | apply AHd_any | apply AP_go | apply AHP_go); focus (simp only [Sm, wantedA, execA, stepA, List.getElem?_cons_zero, List.getElem?_cons_succ, if_true, if_false, binA, binInt, unA, eqA, Option.map, eq_self, reduceCtorEq, ite_true, ite_false, cellsAV, fitsAll, CK.fits, fillA, AV.cells, writeN, sliceCells, appendA, lenA, i64, loA, hiA, Nat.reduceAdd, Nat.reduceMul, Nat.reduceDiv, Nat.reduceSub, Nat.reduceLeDiff, Nat.reduceLT, Int.reduceLE, Int.reduceLT, foldA, maxA, minA, Int.reduceBEq, Int.reduceBNe, Int.reduceGT, Int.reduceGE, Int.reduceEq, Int.reduceNe, Int.reduceToNat, AOp.stops, ↓want_eq, ↓exec_lenX, ↓exec_storeX, ↓exec_storeN, storeN_one, ↓exec_bsX, ↓exec_sliceX, ↓exec_copyX, ↓exec_appNil, ↓exec_carryX, Nat.sub_zero, rep_len]; with_reducible first | exact EqP.at_ | exact EqP.cont | exact EqP.hcont | exact EqP.gate | exact EqP.hgate)) | (refine AW_ift ?_ ?_; focus (simp only [Sm]; done)) | (refine AW_iff ?_ ?_; focus (simp only [Sm]; done))))
  refine AW_defers ?_
  (repeat (first | with_reducible (first | refine thenQ_n ?_ | refine blockQ_n ?_ | refine thenQ_e ?_ | refine thenQ_r ?_ | refine blockQ_r ?_ | refine blockQ_s ?_ | refine blockQ_o rfl ?_) | refine AW_skip ?_ | refine AW_seq ?_ | refine AW_ops ?_ | refine AW_blockS ?_ | refine AW_blockR ?_ | refine AW_blockD ?_ | refine AW_blockC ?_ | refine AO_nil ?_ | refine AW_draw ?_ | refine AW_draw3 ?_ | refine AW_blockD3 ?_ | (refine AW_drawA ?_; simp only [atBlk, Sm]) | refine AHd_nil ?_ | with_reducible (first | refine AP_at ?_ | refine AHP_at ?_) | (with_reducible (first | apply AO_any | apply AHd_any | apply AP_go | apply AHP_go); focus (simp only [Sm, wantedA, execA, stepA, List.getElem?_cons_zero, List.getElem?_cons_succ, if_true, if_false, binA, binInt, unA, eqA, Option.map, eq_self, reduceCtorEq, ite_true, ite_false, cellsAV, fitsAll, CK.fits, fillA, AV.cells, writeN, sliceCells, appendA, lenA, i64, loA, hiA, Nat.reduceAdd, Nat.reduceMul, Nat.reduceDiv, Nat.reduceSub, Nat.reduceLeDiff, Nat.reduceLT, Int.reduceLE, Int.reduceLT, foldA, maxA, minA, Int.reduceBEq, Int.reduceBNe, Int.reduceGT, Int.reduceGE, Int.reduceEq, Int.reduceNe, Int.reduceToNat, AOp.stops, ↓want_eq, ↓exec_lenX, ↓exec_storeX, ↓exec_storeN, storeN_one, ↓exec_bsX, ↓exec_sliceX, ↓exec_copyX, ↓exec_appNil, ↓exec_carryX, Nat.sub_zero, rep_len]; with_reducible first | exact EqP.at_ | exact EqP.cont | exact EqP.hcont | exact EqP.gate | exact EqP.hgate)) | (refine AW_ift ?_ ?_; focus (simp only [Sm]; done)) | (refine AW_iff ?_ ?_; focus (simp only [Sm]; done))))
  have c1 := Chg.of_kept k1
  have e0 : sumP [] = 0 := rfl
  have hG : Giv H1 H.length a b bf s bd bad zs 0 .snil [] := by
    refine ⟨by rw [e0]; exact hL, ⟨h, hh, by rw [e0]; simpa using c1.hown (fun h => h) ho⟩, by rw [e0]; exact c1.hown (fun h => h) hs, c1.hown (fun h => h) hd, c1.hcells (fun h => h) h0, by rw [e0]; omega, by simp, ?_, ?_, n1, n2, n3, n4, n5⟩
    · rintro (e | e | e)
      · omega
      · exact inX_snil e
      · simp [bl] at e
    · rintro (e | e | e)
      · omega
      · exact inX_snil e
      · simp [bl] at e
  refine AO_callClo rfl rfl (AC_gives2 H1 H.length a b bf s bd t bad zs yt hz hyt hb hzl (c1.hown (fun h => h) ht) hG) ?_
  rintro _ H2 ⟨rfl, y, ps, g⟩
  (repeat (first | with_reducible (first | refine thenQ_n ?_ | refine blockQ_n ?_ | refine thenQ_e ?_ | refine thenQ_r ?_ | refine blockQ_r ?_ | refine blockQ_s ?_ | refine blockQ_o rfl ?_) | refine AW_skip ?_ | refine AW_seq ?_ | refine AW_ops ?_ | refine AW_blockS ?_ | refine AW_blockR ?_ | refine AW_blockD ?_ | refine AW_blockC ?_ | refine AO_nil ?_ | refine AW_draw ?_ | refine AW_draw3 ?_ | refine AW_blockD3 ?_ | (refine AW_drawA ?_; simp only [atBlk, Sm]) | refine AHd_nil ?_ | with_reducible (first | refine AP_at ?_ | refine AHP_at ?_) | (with_reducible (first | apply AO_any | apply AHd_any | apply AP_go | apply AHP_go); focus (simp only [Sm, wantedA, execA, stepA, List.getElem?_cons_zero, List.getElem?_cons_succ, if_true, if_false, binA, binInt, unA, eqA, Option.map, eq_self, reduceCtorEq, ite_true, ite_false, cellsAV, fitsAll, CK.fits, fillA, AV.cells, writeN, sliceCells, appendA, lenA, i64, loA, hiA, Nat.reduceAdd, Nat.reduceMul, Nat.reduceDiv, Nat.reduceSub, Nat.reduceLeDiff, Nat.reduceLT, Int.reduceLE, Int.reduceLT, foldA, maxA, minA, Int.reduceBEq, Int.reduceBNe, Int.reduceGT, Int.reduceGE, Int.reduceEq, Int.reduceNe, Int.reduceToNat, AOp.stops, ↓want_eq, ↓exec_lenX, ↓exec_storeX, ↓exec_storeN, storeN_one, ↓exec_bsX, ↓exec_sliceX, ↓exec_copyX, ↓exec_appNil, ↓exec_carryX, Nat.sub_zero, rep_len]; with_reducible first | exact EqP.at_ | exact EqP.cont | exact EqP.hcont | exact EqP.gate | exact EqP.hgate)) | (refine AW_ift ?_ ?_; focus (simp only [Sm]; done)) | (refine AW_iff ?_ ?_; focus (simp only [Sm]; done))))
  refine AO_call rfl (AC_lePeak 1 H2 g.le) ?_
  rintro _ _ ⟨rfl, rfl⟩
  (repeat (first | with_reducible (first | refine thenQ_n ?_ | refine blockQ_n ?_ | refine thenQ_e ?_ | refine thenQ_r ?_ | refine blockQ_r ?_ | refine blockQ_s ?_ | refine blockQ_o rfl ?_) | refine AW_skip ?_ | refine AW_seq ?_ | refine AW_ops ?_ | refine AW_blockS ?_ | refine AW_blockR ?_ | refine AW_blockD ?_ | refine AW_blockC ?_ | refine AO_nil ?_ | refine AW_draw ?_ | refine AW_draw3 ?_ | refine AW_blockD3 ?_ | (refine AW_drawA ?_; simp only [atBlk, Sm]) | refine AHd_nil ?_ | with_reducible (first | refine AP_at ?_ | refine AHP_at ?_) | (with_reducible (first | apply AO_any | apply AHd_any | apply AP_go | apply AHP_go); focus (simp only [Sm, wantedA, execA, stepA, List.getElem?_cons_zero, List.getElem?_cons_succ, if_true, if_false, binA, binInt, unA, eqA, Option.map, eq_self, reduceCtorEq, ite_true, ite_false, cellsAV, fitsAll, CK.fits, fillA, AV.cells, writeN, sliceCells, appendA, lenA, i64, loA, hiA, Nat.reduceAdd, Nat.reduceMul, Nat.reduceDiv, Nat.reduceSub, Nat.reduceLeDiff, Nat.reduceLT, Int.reduceLE, Int.reduceLT, foldA, maxA, minA, Int.reduceBEq, Int.reduceBNe, Int.reduceGT, Int.reduceGE, Int.reduceEq, Int.reduceNe, Int.reduceToNat, AOp.stops, ↓want_eq, ↓exec_lenX, ↓exec_storeX, ↓exec_storeN, storeN_one, ↓exec_bsX, ↓exec_sliceX, ↓exec_copyX, ↓exec_appNil, ↓exec_carryX, Nat.sub_zero, rep_len]; with_reducible first | exact EqP.at_ | exact EqP.cont | exact EqP.hcont | exact EqP.gate | exact EqP.hgate)) | (refine AW_ift ?_ ?_; focus (simp only [Sm]; done)) | (refine AW_iff ?_ ?_; focus (simp only [Sm]; done))))
  refine AW_ret ?_
  obtain ⟨h', hh', ho2⟩ := g.ar
  have hle2 := g.le2
  have hnum := g.num
  have hsS : ¬ (s = a ∨ foot H.length y ps s) := by rintro (e | e); exact g.sa e; exact g.sL e
  have hbS : ¬ (bd = a ∨ foot H.length y ps bd) := by rintro (e | e); exact g.ba' e; exact g.bL e
  refine (AC_leClose 1 H2 b (bf + sumP ps) h' (1 + ps.length) g.le ho2 g.a1 (by omega) (by omega) (by omega) (by omega)).mono ?_
  rintro v H3 ⟨rfl, hL3, ho3, c3⟩
  refine ⟨_, rfl, sumP ps, rfl, hle2, c3.hown hsS g.su, c3.hown hbS g.ba, h', ?_⟩
  rw [show bf + sumP ps - sumP ps = bf by omega, show 1 + ps.length - ps.length = 1 by omega] at ho3
  exact ho3
theorem AC_LeaseGives (z0 z1 : Int) (els : List (List Cell)) (yt : Cell) (bad : Bool) (ha : SlZ 0 yt els.length 1) (hw : ∀ el ∈ els, wfAll [.int .i64] el = true) (hel : els.length ≤ 9223372036854775807) :
    AC A 0 F_pestlelaw21_LeaseGives [.c (.int .i64 z0), .c (.int .i64 z1), .c yt, .c (.bool bad)] [.ro els.flatten] (fun v _ => v = .c (.bool true)) := by
  obtain ⟨zs, hfl, hzl, hz⟩ := wf_ints hw
  rw [← hzl] at ha hel
  rw [hfl]
  clear hw hfl hzl
  refine AC_enter t_pestlelaw21_LeaseGives ?_; simp only [c_pestlelaw21_LeaseGives, enterA, List.replicate, List.length_cons, List.length_nil, Nat.reduceAdd, Nat.reduceSub, List.cons_append, List.nil_append]
  (repeat (first | with_reducible (first | refine thenQ_n ?_ | refine blockQ_n ?_ | refine thenQ_e ?_ | refine thenQ_r ?_ | refine blockQ_r ?_ | refine blockQ_s ?_ | refine blockQ_o rfl ?_) | refine AW_skip ?_ | refine AW_seq ?_ | refine AW_ops ?_ | refine AW_blockS ?_ | refine AW_blockR ?_ | refine AW_blockD ?_ | refine AW_blockC ?_ | refine AO_nil ?_ | refine AW_draw ?_ | refine AW_draw3 ?_ | refine AW_blockD3 ?_ | (refine AW_drawA ?_; simp only [atBlk, Sm]) | refine AHd_nil ?_ | with_reducible (first | refine AP_at ?_ | refine AHP_at ?_) | (with_reducible (first | apply AO_any | apply AHd_any | apply AP_go | apply AHP_go); focus (simp only [Sm, wantedA, execA, stepA, List.getElem?_cons_zero, List.getElem?_cons_succ, if_true, if_false, binA, binInt, unA, eqA, Option.map, eq_self, reduceCtorEq, ite_true, ite_false, cellsAV, fitsAll, CK.fits, fillA, AV.cells, writeN, sliceCells, appendA, lenA, i64, loA, hiA, Nat.reduceAdd, Nat.reduceMul, Nat.reduceDiv, Nat.reduceSub, Nat.reduceLeDiff, Nat.reduceLT, Int.reduceLE, Int.reduceLT, foldA, maxA, minA, Int.reduceBEq, Int.reduceBNe, Int.reduceGT, Int.reduceGE, Int.reduceEq, Int.reduceNe, Int.reduceToNat, AOp.stops, ↓want_eq, ↓exec_lenX, ↓exec_storeX, ↓exec_storeN, storeN_one, ↓exec_bsX, ↓exec_sliceX, ↓exec_copyX, ↓exec_appNil, ↓exec_carryX, Nat.sub_zero, rep_len]; with_reducible first | exact EqP.at_ | exact EqP.cont | exact EqP.hcont | exact EqP.gate | exact EqP.hgate)) | (refine AW_ift ?_ ?_; focus (simp only [Sm]; done)) | (refine AW_iff ?_ ?_; focus (simp only [Sm]; done))))
  refine AO_call rfl (((AC_awake21 _ _ _).kept (Nat.le_refl _)).floor (Nat.zero_le _)) ?_
  rintro _ H ⟨rfl, k0⟩
  have q0 : hcells H 0 = some (zs.map (Cell.int .i64)) := by rw [k0.hcells (by omega) (by simp)]; rfl
  have q1 : hown H 1 = some [yt] := by simp only [hown, k0.2 1 (by omega) (by simp)]; rfl
  have q2 : hown H 2 = some [.bool bad] := by simp only [hown, k0.2 2 (by omega) (by simp)]; rfl
  have hH : 3 ≤ H.length := k0.1
  clear k0
  (repeat (first | with_reducible (first | refine thenQ_n ?_ | refine blockQ_n ?_ | refine thenQ_e ?_ | refine thenQ_r ?_ | refine blockQ_r ?_ | refine blockQ_s ?_ | refine blockQ_o rfl ?_) | refine AW_skip ?_ | refine AW_seq ?_ | refine AW_ops ?_ | refine AW_blockS ?_ | refine AW_blockR ?_ | refine AW_blockD ?_ | refine AW_blockC ?_ | refine AO_nil ?_ | refine AW_draw ?_ | refine AW_draw3 ?_ | refine AW_blockD3 ?_ | (refine AW_drawA ?_; simp only [atBlk, Sm]) | refine AHd_nil ?_ | with_reducible (first | refine AP_at ?_ | refine AHP_at ?_) | (with_reducible (first | apply AO_any | apply AHd_any | apply AP_go | apply AHP_go); focus (simp only [Sm, wantedA, execA, stepA, List.getElem?_cons_zero, List.getElem?_cons_succ, if_true, if_false, binA, binInt, unA, eqA, Option.map, eq_self, reduceCtorEq, ite_true, ite_false, cellsAV, fitsAll, CK.fits, fillA, AV.cells, writeN, sliceCells, appendA, lenA, i64, loA, hiA, Nat.reduceAdd, Nat.reduceMul, Nat.reduceDiv, Nat.reduceSub, Nat.reduceLeDiff, Nat.reduceLT, Int.reduceLE, Int.reduceLT, foldA, maxA, minA, Int.reduceBEq, Int.reduceBNe, Int.reduceGT, Int.reduceGE, Int.reduceEq, Int.reduceNe, Int.reduceToNat, AOp.stops, ↓want_eq, ↓exec_lenX, ↓exec_storeX, ↓exec_storeN, storeN_one, ↓exec_bsX, ↓exec_sliceX, ↓exec_copyX, ↓exec_appNil, ↓exec_carryX, Nat.sub_zero, rep_len]; with_reducible first | exact EqP.at_ | exact EqP.cont | exact EqP.hcont | exact EqP.gate | exact EqP.hgate)) | (refine AW_ift ?_ ?_; focus (simp only [Sm]; done)) | (refine AW_iff ?_ ?_; focus (simp only [Sm]; done))))
  refine AO_call rfl (AC_leTake_nil 0 H 1) ?_
  rintro _ _ ⟨rfl, rfl⟩
  (repeat (first | with_reducible (first | refine thenQ_n ?_ | refine blockQ_n ?_ | refine thenQ_e ?_ | refine thenQ_r ?_ | refine blockQ_r ?_ | refine blockQ_s ?_ | refine blockQ_o rfl ?_) | refine AW_skip ?_ | refine AW_seq ?_ | refine AW_ops ?_ | refine AW_blockS ?_ | refine AW_blockR ?_ | refine AW_blockD ?_ | refine AW_blockC ?_ | refine AO_nil ?_ | refine AW_draw ?_ | refine AW_draw3 ?_ | refine AW_blockD3 ?_ | (refine AW_drawA ?_; simp only [atBlk, Sm]) | refine AHd_nil ?_ | with_reducible (first | refine AP_at ?_ | refine AHP_at ?_) | (with_reducible (first | apply AO_any | apply AHd_any | apply AP_go | apply AHP_go); focus (simp only [Sm, wantedA, execA, stepA, List.getElem?_cons_zero, List.getElem?_cons_succ, if_true, if_false, binA, binInt, unA, eqA, Option.map, eq_self, reduceCtorEq, ite_true, ite_false, cellsAV, fitsAll, CK.fits, fillA, AV.cells, writeN, sliceCells, appendA, lenA, i64, loA, hiA, Nat.reduceAdd, Nat.reduceMul, Nat.reduceDiv, Nat.reduceSub, Nat.reduceLeDiff, Nat.reduceLT, Int.reduceLE, Int.reduceLT, foldA, maxA, minA, Int.reduceBEq, Int.reduceBNe, Int.reduceGT, Int.reduceGE, Int.reduceEq, Int.reduceNe, Int.reduceToNat, AOp.stops, ↓want_eq, ↓exec_lenX, ↓exec_storeX, ↓exec_storeN, storeN_one, ↓exec_bsX, ↓exec_sliceX, ↓exec_copyX, ↓exec_appNil, ↓exec_carryX, Nat.sub_zero, rep_len]; with_reducible first | exact EqP.at_ | exact EqP.cont | exact EqP.hcont | exact EqP.gate | exact EqP.hgate)) | (refine AW_ift ?_ ?_; focus (simp only [Sm]; done)) | (refine AW_iff ?_ ?_; focus (simp only [Sm]; done))))
  refine AO_call rfl (AC_leOpen_nil 0 H) ?_
  rintro _ _ ⟨rfl, rfl⟩
  (repeat (first | with_reducible (first | refine thenQ_n ?_ | refine blockQ_n ?_ | refine thenQ_e ?_ | refine thenQ_r ?_ | refine blockQ_r ?_ | refine blockQ_s ?_ | refine blockQ_o rfl ?_) | refine AW_skip ?_ | refine AW_seq ?_ | refine AW_ops ?_ | refine AW_blockS ?_ | refine AW_blockR ?_ | refine AW_blockD ?_ | refine AW_blockC ?_ | refine AO_nil ?_ | refine AW_draw ?_ | refine AW_draw3 ?_ | refine AW_blockD3 ?_ | (refine AW_drawA ?_; simp only [atBlk, Sm]) | refine AHd_nil ?_ | with_reducible (first | refine AP_at ?_ | refine AHP_at ?_) | (with_reducible (first | apply AO_any | apply AHd_any | apply AP_go | apply AHP_go); focus (simp only [Sm, wantedA, execA, stepA, List.getElem?_cons_zero, List.getElem?_cons_succ, if_true, if_false, binA, binInt, unA, eqA, Option.map, eq_self, reduceCtorEq, ite_true, ite_false, cellsAV, fitsAll, CK.fits, fillA, AV.cells, writeN, sliceCells, appendA, lenA, i64, loA, hiA, Nat.reduceAdd, Nat.reduceMul, Nat.reduceDiv, Nat.reduceSub, Nat.reduceLeDiff, Nat.reduceLT, Int.reduceLE, Int.reduceLT, foldA, maxA, minA, Int.reduceBEq, Int.reduceBNe, Int.reduceGT, Int.reduceGE, Int.reduceEq, Int.reduceNe, Int.reduceToNat, AOp.stops, ↓want_eq, ↓exec_lenX, ↓exec_storeX, ↓exec_storeN, storeN_one, ↓exec_bsX, ↓exec_sliceX, ↓exec_copyX, ↓exec_appNil, ↓exec_carryX, Nat.sub_zero, rep_len]; with_reducible first | exact EqP.at_ | exact EqP.cont | exact EqP.hcont | exact EqP.gate | exact EqP.hgate)) | (refine AW_ift ?_ ?_; focus (simp only [Sm]; done)) | (refine AW_iff ?_ ?_; focus (simp only [Sm]; done))))
  refine AO_call rfl (AC_leWith_nil 0 H _) ?_
  rintro _ _ ⟨rfl, rfl⟩
  (repeat (first | with_reducible (first | refine thenQ_n ?_ | refine blockQ_n ?_ | refine thenQ_e ?_ | refine thenQ_r ?_ | refine blockQ_r ?_ | refine blockQ_s ?_ | refine blockQ_o rfl ?_) | refine AW_skip ?_ | refine AW_seq ?_ | refine AW_ops ?_ | refine AW_blockS ?_ | refine AW_blockR ?_ | refine AW_blockD ?_ | refine AW_blockC ?_ | refine AO_nil ?_ | refine AW_draw ?_ | refine AW_draw3 ?_ | refine AW_blockD3 ?_ | (refine AW_drawA ?_; simp only [atBlk, Sm]) | refine AHd_nil ?_ | with_reducible (first | refine AP_at ?_ | refine AHP_at ?_) | (with_reducible (first | apply AO_any | apply AHd_any | apply AP_go | apply AHP_go); focus (simp only [Sm, wantedA, execA, stepA, List.getElem?_cons_zero, List.getElem?_cons_succ, if_true, if_false, binA, binInt, unA, eqA, Option.map, eq_self, reduceCtorEq, ite_true, ite_false, cellsAV, fitsAll, CK.fits, fillA, AV.cells, writeN, sliceCells, appendA, lenA, i64, loA, hiA, Nat.reduceAdd, Nat.reduceMul, Nat.reduceDiv, Nat.reduceSub, Nat.reduceLeDiff, Nat.reduceLT, Int.reduceLE, Int.reduceLT, foldA, maxA, minA, Int.reduceBEq, Int.reduceBNe, Int.reduceGT, Int.reduceGE, Int.reduceEq, Int.reduceNe, Int.reduceToNat, AOp.stops, ↓want_eq, ↓exec_lenX, ↓exec_storeX, ↓exec_storeN, storeN_one, ↓exec_bsX, ↓exec_sliceX, ↓exec_copyX, ↓exec_appNil, ↓exec_carryX, Nat.sub_zero, rep_len]; with_reducible first | exact EqP.at_ | exact EqP.cont | exact EqP.hcont | exact EqP.gate | exact EqP.hgate)) | (refine AW_ift ?_ ?_; focus (simp only [Sm]; done)) | (refine AW_iff ?_ ?_; focus (simp only [Sm]; done))))
  refine AO_call rfl (AC_leClose_nil 0 H) ?_
  rintro _ _ ⟨rfl, rfl⟩
  (repeat (first | with_reducible (first | refine thenQ_n ?_ | refine blockQ_n ?_ | refine thenQ_e ?_ | refine thenQ_r ?_ | refine blockQ_r ?_ | refine blockQ_s ?_ | refine blockQ_o rfl ?_) | refine AW_skip ?_ | refine AW_seq ?_ | refine AW_ops ?_ | refine AW_blockS ?_ | refine AW_blockR ?_ | refine AW_blockD ?_ | refine AW_blockC ?_ | refine AO_nil ?_ | refine AW_draw ?_ | refine AW_draw3 ?_ | refine AW_blockD3 ?_ | (refine AW_drawA ?_; simp only [atBlk, Sm]) | refine AHd_nil ?_ | with_reducible (first | refine AP_at ?_ | refine AHP_at ?_) | (with_reducible (first | apply AO_any | apply AHd_any | apply AP_go | apply AHP_go); focus (simp only [Sm, wantedA, execA, stepA, List.getElem?_cons_zero, List.getElem?_cons_succ, if_true, if_false, binA, binInt, unA, eqA, Option.map, eq_self, reduceCtorEq, ite_true, ite_false, cellsAV, fitsAll, CK.fits, fillA, AV.cells, writeN, sliceCells, appendA, lenA, i64, loA, hiA, Nat.reduceAdd, Nat.reduceMul, Nat.reduceDiv, Nat.reduceSub, Nat.reduceLeDiff, Nat.reduceLT, Int.reduceLE, Int.reduceLT, foldA, maxA, minA, Int.reduceBEq, Int.reduceBNe, Int.reduceGT, Int.reduceGE, Int.reduceEq, Int.reduceNe, Int.reduceToNat, AOp.stops, ↓want_eq, ↓exec_lenX, ↓exec_storeX, ↓exec_storeN, storeN_one, ↓exec_bsX, ↓exec_sliceX, ↓exec_copyX, ↓exec_appNil, ↓exec_carryX, Nat.sub_zero, rep_len]; with_reducible first | exact EqP.at_ | exact EqP.cont | exact EqP.hcont | exact EqP.gate | exact EqP.hgate)) | (refine AW_ift ?_ ?_; focus (simp only [Sm]; done)) | (refine AW_iff ?_ ?_; focus (simp only [Sm]; done))))
  refine AO_call rfl (AC_leHeld_nil 0 H) ?_
  rintro _ _ ⟨rfl, rfl⟩
  (repeat (first | with_reducible (first | refine thenQ_n ?_ | refine blockQ_n ?_ | refine thenQ_e ?_ | refine thenQ_r ?_ | refine blockQ_r ?_ | refine blockQ_s ?_ | refine blockQ_o rfl ?_) | refine AW_skip ?_ | refine AW_seq ?_ | refine AW_ops ?_ | refine AW_blockS ?_ | refine AW_blockR ?_ | refine AW_blockD ?_ | refine AW_blockC ?_ | refine AO_nil ?_ | refine AW_draw ?_ | refine AW_draw3 ?_ | refine AW_blockD3 ?_ | (refine AW_drawA ?_; simp only [atBlk, Sm]) | refine AHd_nil ?_ | with_reducible (first | refine AP_at ?_ | refine AHP_at ?_) | (with_reducible (first | apply AO_any | apply AHd_any | apply AP_go | apply AHP_go); focus (simp only [Sm, wantedA, execA, stepA, List.getElem?_cons_zero, List.getElem?_cons_succ, if_true, if_false, binA, binInt, unA, eqA, Option.map, eq_self, reduceCtorEq, ite_true, ite_false, cellsAV, fitsAll, CK.fits, fillA, AV.cells, writeN, sliceCells, appendA, lenA, i64, loA, hiA, Nat.reduceAdd, Nat.reduceMul, Nat.reduceDiv, Nat.reduceSub, Nat.reduceLeDiff, Nat.reduceLT, Int.reduceLE, Int.reduceLT, foldA, maxA, minA, Int.reduceBEq, Int.reduceBNe, Int.reduceGT, Int.reduceGE, Int.reduceEq, Int.reduceNe, Int.reduceToNat, AOp.stops, ↓want_eq, ↓exec_lenX, ↓exec_storeX, ↓exec_storeN, storeN_one, ↓exec_bsX, ↓exec_sliceX, ↓exec_copyX, ↓exec_appNil, ↓exec_carryX, Nat.sub_zero, rep_len]; with_reducible first | exact EqP.at_ | exact EqP.cont | exact EqP.hcont | exact EqP.gate | exact EqP.hgate)) | (refine AW_ift ?_ ?_; focus (simp only [Sm]; done)) | (refine AW_iff ?_ ?_; focus (simp only [Sm]; done))))
  refine AO_call rfl (AC_lePeak_nil 0 H) ?_
  rintro _ _ ⟨rfl, rfl⟩
  have w0 : IntKind.i64.wrap (0 + 0) = 0 := by decide
  have c1 := hcells_own q1
  have c2 := hcells_own q2
  have ry : Rd H yt 1 (zs.map (Cell.int .i64)) := Rd.of_argZ ha (by simp) q0
  have ly := ry.len zs.length (by simp) (by decide)
  by_cases h1 : z0 < 0
  · (repeat (first | with_reducible (first | refine thenQ_n ?_ | refine blockQ_n ?_ | refine thenQ_e ?_ | refine thenQ_r ?_ | refine blockQ_r ?_ | refine blockQ_s ?_ | refine blockQ_o rfl ?_) | refine AW_skip ?_ | refine AW_seq ?_ | refine AW_ops ?_ | refine AW_blockS ?_ | refine AW_blockR ?_ | refine AW_blockD ?_ | refine AW_blockC ?_ | refine AO_nil ?_ | refine AW_draw ?_ | refine AW_draw3 ?_ | refine AW_blockD3 ?_ | (refine AW_drawA ?_; simp only [atBlk, Sm]) | refine AHd_nil ?_ | with_reducible (first | refine AP_at ?_ | refine AHP_at ?_) | (with_reducible (first | apply AO_any | apply AHd_any | apply AP_go | apply AHP_go); focus (simp only [Sm, wantedA, execA, stepA, List.getElem?_cons_zero, List.getElem?_cons_succ, if_true, if_false, binA, binInt, unA, eqA, Option.map, eq_self, reduceCtorEq, ite_true, ite_false, cellsAV, fitsAll, CK.fits, fillA, AV.cells, writeN, sliceCells, appendA, lenA, i64, loA, hiA, Nat.reduceAdd, Nat.reduceMul, Nat.reduceDiv, Nat.reduceSub, Nat.reduceLeDiff, Nat.reduceLT, Int.reduceLE, Int.reduceLT, foldA, maxA, minA, Int.reduceBEq, Int.reduceBNe, Int.reduceGT, Int.reduceGE, Int.reduceEq, Int.reduceNe, Int.reduceToNat, AOp.stops, ↓want_eq, ↓exec_lenX, ↓exec_storeX, ↓exec_storeN, storeN_one, ↓exec_bsX, ↓exec_sliceX, ↓exec_copyX, ↓exec_appNil, ↓exec_carryX, Nat.sub_zero, rep_len, w0, decide_eq_true h1]; with_reducible first | exact EqP.at_ | exact EqP.cont | exact EqP.hcont | exact EqP.gate | exact EqP.hgate)) | (refine AW_ift ?_ ?_; focus (simp only [Sm]; done)) | (refine AW_iff ?_ ?_; focus (simp only [Sm]; done))))
    exact AW_ret ⟨_, rfl, rfl⟩
  have e1 := decide_eq_false h1
  by_cases h2 : z0 > 1000
  · (repeat (first | with_reducible (first | refine thenQ_n ?_ | refine blockQ_n ?_ | refine thenQ_e ?_ | refine thenQ_r ?_ | refine blockQ_r ?_ | refine blockQ_s ?_ | refine blockQ_o rfl ?_) | refine AW_skip ?_ | refine AW_seq ?_ | refine AW_ops ?_ | refine AW_blockS ?_ | refine AW_blockR ?_ | refine AW_blockD ?_ | refine AW_blockC ?_ | refine AO_nil ?_ | refine AW_draw ?_ | refine AW_draw3 ?_ | refine AW_blockD3 ?_ | (refine AW_drawA ?_; simp only [atBlk, Sm]) | refine AHd_nil ?_ | with_reducible (first | refine AP_at ?_ | refine AHP_at ?_) | (with_reducible (first | apply AO_any | apply AHd_any | apply AP_go | apply AHP_go); focus (simp only [Sm, wantedA, execA, stepA, List.getElem?_cons_zero, List.getElem?_cons_succ, if_true, if_false, binA, binInt, unA, eqA, Option.map, eq_self, reduceCtorEq, ite_true, ite_false, cellsAV, fitsAll, CK.fits, fillA, AV.cells, writeN, sliceCells, appendA, lenA, i64, loA, hiA, Nat.reduceAdd, Nat.reduceMul, Nat.reduceDiv, Nat.reduceSub, Nat.reduceLeDiff, Nat.reduceLT, Int.reduceLE, Int.reduceLT, foldA, maxA, minA, Int.reduceBEq, Int.reduceBNe, Int.reduceGT, Int.reduceGE, Int.reduceEq, Int.reduceNe, Int.reduceToNat, AOp.stops, ↓want_eq, ↓exec_lenX, ↓exec_storeX, ↓exec_storeN, storeN_one, ↓exec_bsX, ↓exec_sliceX, ↓exec_copyX, ↓exec_appNil, ↓exec_carryX, Nat.sub_zero, rep_len, w0, e1, decide_eq_true h2]; with_reducible first | exact EqP.at_ | exact EqP.cont | exact EqP.hcont | exact EqP.gate | exact EqP.hgate)) | (refine AW_ift ?_ ?_; focus (simp only [Sm]; done)) | (refine AW_iff ?_ ?_; focus (simp only [Sm]; done))))
    exact AW_ret ⟨_, rfl, rfl⟩
  have e2 := decide_eq_false h2
  by_cases h3 : z1 < 0
  · (repeat (first | with_reducible (first | refine thenQ_n ?_ | refine blockQ_n ?_ | refine thenQ_e ?_ | refine thenQ_r ?_ | refine blockQ_r ?_ | refine blockQ_s ?_ | refine blockQ_o rfl ?_) | refine AW_skip ?_ | refine AW_seq ?_ | refine AW_ops ?_ | refine AW_blockS ?_ | refine AW_blockR ?_ | refine AW_blockD ?_ | refine AW_blockC ?_ | refine AO_nil ?_ | refine AW_draw ?_ | refine AW_draw3 ?_ | refine AW_blockD3 ?_ | (refine AW_drawA ?_; simp only [atBlk, Sm]) | refine AHd_nil ?_ | with_reducible (first | refine AP_at ?_ | refine AHP_at ?_) | (with_reducible (first | apply AO_any | apply AHd_any | apply AP_go | apply AHP_go); focus (simp only [Sm, wantedA, execA, stepA, List.getElem?_cons_zero, List.getElem?_cons_succ, if_true, if_false, binA, binInt, unA, eqA, Option.map, eq_self, reduceCtorEq, ite_true, ite_false, cellsAV, fitsAll, CK.fits, fillA, AV.cells, writeN, sliceCells, appendA, lenA, i64, loA, hiA, Nat.reduceAdd, Nat.reduceMul, Nat.reduceDiv, Nat.reduceSub, Nat.reduceLeDiff, Nat.reduceLT, Int.reduceLE, Int.reduceLT, foldA, maxA, minA, Int.reduceBEq, Int.reduceBNe, Int.reduceGT, Int.reduceGE, Int.reduceEq, Int.reduceNe, Int.reduceToNat, AOp.stops, ↓want_eq, ↓exec_lenX, ↓exec_storeX, ↓exec_storeN, storeN_one, ↓exec_bsX, ↓exec_sliceX, ↓exec_copyX, ↓exec_appNil, ↓exec_carryX, Nat.sub_zero, rep_len, w0, e1, e2, decide_eq_true h3]; with_reducible first | exact EqP.at_ | exact EqP.cont | exact EqP.hcont | exact EqP.gate | exact EqP.hgate)) | (refine AW_ift ?_ ?_; focus (simp only [Sm]; done)) | (refine AW_iff ?_ ?_; focus (simp only [Sm]; done))))
    exact AW_ret ⟨_, rfl, rfl⟩
  have e3 := decide_eq_false h3
  by_cases h4 : z1 > z0
  · (repeat (first | with_reducible (first | refine thenQ_n ?_ | refine blockQ_n ?_ | refine thenQ_e ?_ | refine thenQ_r ?_ | refine blockQ_r ?_ | refine blockQ_s ?_ | refine blockQ_o rfl ?_) | refine AW_skip ?_ | refine AW_seq ?_ | refine AW_ops ?_ | refine AW_blockS ?_ | refine AW_blockR ?_ | refine AW_blockD ?_ | refine AW_blockC ?_ | refine AO_nil ?_ | refine AW_draw ?_ | refine AW_draw3 ?_ | refine AW_blockD3 ?_ | (refine AW_drawA ?_; simp only [atBlk, Sm]) | refine AHd_nil ?_ | with_reducible (first | refine AP_at ?_ | refine AHP_at ?_) | (with_reducible (first | apply AO_any | apply AHd_any | apply AP_go | apply AHP_go); focus (simp only [Sm, wantedA, execA, stepA, List.getElem?_cons_zero, List.getElem?_cons_succ, if_true, if_false, binA, binInt, unA, eqA, Option.map, eq_self, reduceCtorEq, ite_true, ite_false, cellsAV, fitsAll, CK.fits, fillA, AV.cells, writeN, sliceCells, appendA, lenA, i64, loA, hiA, Nat.reduceAdd, Nat.reduceMul, Nat.reduceDiv, Nat.reduceSub, Nat.reduceLeDiff, Nat.reduceLT, Int.reduceLE, Int.reduceLT, foldA, maxA, minA, Int.reduceBEq, Int.reduceBNe, Int.reduceGT, Int.reduceGE, Int.reduceEq, Int.reduceNe, Int.reduceToNat, AOp.stops, ↓want_eq, ↓exec_lenX, ↓exec_storeX, ↓exec_storeN, storeN_one, ↓exec_bsX, ↓exec_sliceX, ↓exec_copyX, ↓exec_appNil, ↓exec_carryX, Nat.sub_zero, rep_len, w0, e1, e2, e3, decide_eq_true h4]; with_reducible first | exact EqP.at_ | exact EqP.cont | exact EqP.hcont | exact EqP.gate | exact EqP.hgate)) | (refine AW_ift ?_ ?_; focus (simp only [Sm]; done)) | (refine AW_iff ?_ ?_; focus (simp only [Sm]; done))))
    exact AW_ret ⟨_, rfl, rfl⟩
  have e4 := decide_eq_false h4
  rcases Nat.lt_or_ge 50 zs.length with h5 | h5
  · (repeat (first | with_reducible (first | refine thenQ_n ?_ | refine blockQ_n ?_ | refine thenQ_e ?_ | refine thenQ_r ?_ | refine blockQ_r ?_ | refine blockQ_s ?_ | refine blockQ_o rfl ?_) | refine AW_skip ?_ | refine AW_seq ?_ | refine AW_ops ?_ | refine AW_blockS ?_ | refine AW_blockR ?_ | refine AW_blockD ?_ | refine AW_blockC ?_ | refine AO_nil ?_ | refine AW_draw ?_ | refine AW_draw3 ?_ | refine AW_blockD3 ?_ | (refine AW_drawA ?_; simp only [atBlk, Sm]) | refine AHd_nil ?_ | with_reducible (first | refine AP_at ?_ | refine AHP_at ?_) | (with_reducible (first | apply AO_any | apply AHd_any | apply AP_go | apply AHP_go); focus (simp only [Sm, wantedA, execA, stepA, List.getElem?_cons_zero, List.getElem?_cons_succ, if_true, if_false, binA, binInt, unA, eqA, Option.map, eq_self, reduceCtorEq, ite_true, ite_false, cellsAV, fitsAll, CK.fits, fillA, AV.cells, writeN, sliceCells, appendA, lenA, i64, loA, hiA, Nat.reduceAdd, Nat.reduceMul, Nat.reduceDiv, Nat.reduceSub, Nat.reduceLeDiff, Nat.reduceLT, Int.reduceLE, Int.reduceLT, foldA, maxA, minA, Int.reduceBEq, Int.reduceBNe, Int.reduceGT, Int.reduceGE, Int.reduceEq, Int.reduceNe, Int.reduceToNat, AOp.stops, ↓want_eq, ↓exec_lenX, ↓exec_storeX, ↓exec_storeN, storeN_one, ↓exec_bsX, ↓exec_sliceX, ↓exec_copyX, ↓exec_appNil, ↓exec_carryX, Nat.sub_zero, rep_len, w0, e1, e2, e3, e4, c1, ly, decide_eq_true (show ((zs.length : Nat) : Int) > 50 by omega)]; with_reducible first | exact EqP.at_ | exact EqP.cont | exact EqP.hcont | exact EqP.gate | exact EqP.hgate)) | (refine AW_ift ?_ ?_; focus (simp only [Sm]; done)) | (refine AW_iff ?_ ?_; focus (simp only [Sm]; done))))
    exact AW_ret ⟨_, rfl, rfl⟩
  obtain ⟨b, rfl⟩ := Int.eq_ofNat_of_zero_le (show 0 ≤ z0 by omega)
  obtain ⟨bf, rfl⟩ := Int.eq_ofNat_of_zero_le (show 0 ≤ z1 by omega)
  (repeat (first | with_reducible (first | refine thenQ_n ?_ | refine blockQ_n ?_ | refine thenQ_e ?_ | refine thenQ_r ?_ | refine blockQ_r ?_ | refine blockQ_s ?_ | refine blockQ_o rfl ?_) | refine AW_skip ?_ | refine AW_seq ?_ | refine AW_ops ?_ | refine AW_blockS ?_ | refine AW_blockR ?_ | refine AW_blockD ?_ | refine AW_blockC ?_ | refine AO_nil ?_ | refine AW_draw ?_ | refine AW_draw3 ?_ | refine AW_blockD3 ?_ | (refine AW_drawA ?_; simp only [atBlk, Sm]) | refine AHd_nil ?_ | with_reducible (first | refine AP_at ?_ | refine AHP_at ?_) | (with_reducible (first | apply AO_any | apply AHd_any | apply AP_go | apply AHP_go); focus (simp only [Sm, wantedA, execA, stepA, List.getElem?_cons_zero, List.getElem?_cons_succ, if_true, if_false, binA, binInt, unA, eqA, Option.map, eq_self, reduceCtorEq, ite_true, ite_false, cellsAV, fitsAll, CK.fits, fillA, AV.cells, writeN, sliceCells, appendA, lenA, i64, loA, hiA, Nat.reduceAdd, Nat.reduceMul, Nat.reduceDiv, Nat.reduceSub, Nat.reduceLeDiff, Nat.reduceLT, Int.reduceLE, Int.reduceLT, foldA, maxA, minA, Int.reduceBEq, Int.reduceBNe, Int.reduceGT, Int.reduceGE, Int.reduceEq, Int.reduceNe, Int.reduceToNat, AOp.stops, ↓want_eq, ↓exec_lenX, ↓exec_storeX, ↓exec_storeN, storeN_one, ↓exec_bsX, ↓exec_sliceX, ↓exec_copyX, ↓exec_appNil, ↓exec_carryX, Nat.sub_zero, rep_len, w0, e1, e2, e3, e4, c1, ly, decide_eq_false (show ¬ ((zs.length : Nat) : Int) > 50 by omega)]; with_reducible first | exact EqP.at_ | exact EqP.cont | exact EqP.hcont | exact EqP.gate | exact EqP.hgate)) | (refine AW_ift ?_ ?_; focus (simp only [Sm]; done)) | (refine AW_iff ?_ ?_; focus (simp only [Sm]; done))))
  refine AO_call rfl (AC_arNew 0 H b (by omega)) ?_
  rintro _ H1 ⟨rfl, rfl⟩
  have ho : hown (H ++ [Blk.own (arC b 0 0 0)]) H.length = some (arC b 0 0 0) := hown_last
  have l1 : (H ++ [Blk.own (arC b 0 0 0)]).length = H.length + 1 := by simp
  have k1 := Chg.push none_ H [Blk.own (arC b 0 0 0)]
  generalize H ++ [Blk.own (arC b 0 0 0)] = H1 at *
  (repeat (first | with_reducible (first | refine thenQ_n ?_ | refine blockQ_n ?_ | refine thenQ_e ?_ | refine thenQ_r ?_ | refine blockQ_r ?_ | refine blockQ_s ?_ | refine blockQ_o rfl ?_) | refine AW_skip ?_ | refine AW_seq ?_ | refine AW_ops ?_ | refine AW_blockS ?_ | refine AW_blockR ?_ | refine AW_blockD ?_ | refine AW_blockC ?_ | refine AO_nil ?_ | refine AW_draw ?_ | refine AW_draw3 ?_ | refine AW_blockD3 ?_ | (refine AW_drawA ?_; simp only [atBlk, Sm]) | refine AHd_nil ?_ | with_reducible (first | refine AP_at ?_ | refine AHP_at ?_) | (with_reducible (first | apply AO_any | apply AHd_any | apply AP_go | apply AHP_go); focus (simp only [Sm, wantedA, execA, stepA, List.getElem?_cons_zero, List.getElem?_cons_succ, if_true, if_false, binA, binInt, unA, eqA, Option.map, eq_self, reduceCtorEq, ite_true, ite_false, cellsAV, fitsAll, CK.fits, fillA, AV.cells, writeN, sliceCells, appendA, lenA, i64, loA, hiA, Nat.reduceAdd, Nat.reduceMul, Nat.reduceDiv, Nat.reduceSub, Nat.reduceLeDiff, Nat.reduceLT, Int.reduceLE, Int.reduceLT, foldA, maxA, minA, Int.reduceBEq, Int.reduceBNe, Int.reduceGT, Int.reduceGE, Int.reduceEq, Int.reduceNe, Int.reduceToNat, AOp.stops, ↓want_eq, ↓exec_lenX, ↓exec_storeX, ↓exec_storeN, storeN_one, ↓exec_bsX, ↓exec_sliceX, ↓exec_copyX, ↓exec_appNil, ↓exec_carryX, Nat.sub_zero, rep_len]; with_reducible first | exact EqP.at_ | exact EqP.cont | exact EqP.hcont | exact EqP.gate | exact EqP.hgate)) | (refine AW_ift ?_ ?_; focus (simp only [Sm]; done)) | (refine AW_iff ?_ ?_; focus (simp only [Sm]; done))))
  refine AO_call rfl (AC_arReserve 0 H1 H.length b 0 0 0 bf ho (Nat.zero_le _) (Nat.zero_le _) (by omega) (by omega) (by omega) (by omega) (by omega)) ?_
  rintro _ H2 ⟨rfl, hp, ho2, c2', l2⟩
  have n0 : ¬ 0 = H.length := by omega
  (repeat (first | with_reducible (first | refine thenQ_n ?_ | refine blockQ_n ?_ | refine thenQ_e ?_ | refine thenQ_r ?_ | refine blockQ_r ?_ | refine blockQ_s ?_ | refine blockQ_o rfl ?_) | refine AW_skip ?_ | refine AW_seq ?_ | refine AW_ops ?_ | refine AW_blockS ?_ | refine AW_blockR ?_ | refine AW_blockD ?_ | refine AW_blockC ?_ | refine AO_nil ?_ | refine AW_draw ?_ | refine AW_draw3 ?_ | refine AW_blockD3 ?_ | (refine AW_drawA ?_; simp only [atBlk, Sm]) | refine AHd_nil ?_ | with_reducible (first | refine AP_at ?_ | refine AHP_at ?_) | (with_reducible (first | apply AO_any | apply AHd_any | apply AP_go | apply AHP_go); focus (simp only [Sm, wantedA, execA, stepA, List.getElem?_cons_zero, List.getElem?_cons_succ, if_true, if_false, binA, binInt, unA, eqA, Option.map, eq_self, reduceCtorEq, ite_true, ite_false, cellsAV, fitsAll, CK.fits, fillA, AV.cells, writeN, sliceCells, appendA, lenA, i64, loA, hiA, Nat.reduceAdd, Nat.reduceMul, Nat.reduceDiv, Nat.reduceSub, Nat.reduceLeDiff, Nat.reduceLT, Int.reduceLE, Int.reduceLT, foldA, maxA, minA, Int.reduceBEq, Int.reduceBNe, Int.reduceGT, Int.reduceGE, Int.reduceEq, Int.reduceNe, Int.reduceToNat, AOp.stops, ↓want_eq, ↓exec_lenX, ↓exec_storeX, ↓exec_storeN, storeN_one, ↓exec_bsX, ↓exec_sliceX, ↓exec_copyX, ↓exec_appNil, ↓exec_carryX, Nat.sub_zero, rep_len]; with_reducible first | exact EqP.at_ | exact EqP.cont | exact EqP.hcont | exact EqP.gate | exact EqP.hgate)) | (refine AW_ift ?_ ?_; focus (simp only [Sm]; done)) | (refine AW_iff ?_ ?_; focus (simp only [Sm]; done))))
  refine AO_call rfl (AC_arLent 0 H2 H.length _ _ _ _ ho2) ?_
  rintro _ _ ⟨rfl, rfl⟩
  have u2 : hown (H2 ++ [Blk.own [Cell.int .i64 0]]) H2.length = some [.int .i64 0] := hown_last
  obtain ⟨H3, s3, u3, c3, l3⟩ := storeX_ex (fl := 0) (o := 0) u2 (Nat.zero_le _) (by simp) (.int .i64 0)
  simp only [List.set_cons_zero] at u3
  have l3' : H3.length = H2.length + 1 := by rw [l3]; simp
  have own3 : ∀ x cs, x ≠ H2.length → hown H2 x = some cs → hown H3 x = some cs := fun x cs hx h => c3.hown hx (hown_app h)
  have q1' : hown H3 1 = some [yt] := own3 1 _ (by omega) (c2'.hown (by omega) (k1.hown (fun h => h) q1))
  have q2' : hown H3 2 = some [.bool bad] := own3 2 _ (by omega) (c2'.hown (by omega) (k1.hown (fun h => h) q2))
  have q0' : hcells H3 0 = some (zs.map (Cell.int .i64)) := c3.hcells (by omega) (hcells_app (c2'.hcells (by omega) (k1.hcells (fun h => h) q0)))
  have ho3 := own3 _ _ (by omega) ho2
  simp only [Nat.zero_add] at ho3
  (repeat (first | with_reducible (first | refine thenQ_n ?_ | refine blockQ_n ?_ | refine thenQ_e ?_ | refine thenQ_r ?_ | refine blockQ_r ?_ | refine blockQ_s ?_ | refine blockQ_o rfl ?_) | refine AW_skip ?_ | refine AW_seq ?_ | refine AW_ops ?_ | refine AW_blockS ?_ | refine AW_blockR ?_ | refine AW_blockD ?_ | refine AW_blockC ?_ | refine AO_nil ?_ | refine AW_draw ?_ | refine AW_draw3 ?_ | refine AW_blockD3 ?_ | (refine AW_drawA ?_; simp only [atBlk, Sm]) | refine AHd_nil ?_ | with_reducible (first | refine AP_at ?_ | refine AHP_at ?_) | (with_reducible (first | apply AO_any | apply AHd_any | apply AP_go | apply AHP_go); focus (simp only [Sm, wantedA, execA, stepA, List.getElem?_cons_zero, List.getElem?_cons_succ, if_true, if_false, binA, binInt, unA, eqA, Option.map, eq_self, reduceCtorEq, ite_true, ite_false, cellsAV, fitsAll, CK.fits, fillA, AV.cells, writeN, sliceCells, appendA, lenA, i64, loA, hiA, Nat.reduceAdd, Nat.reduceMul, Nat.reduceDiv, Nat.reduceSub, Nat.reduceLeDiff, Nat.reduceLT, Int.reduceLE, Int.reduceLT, foldA, maxA, minA, Int.reduceBEq, Int.reduceBNe, Int.reduceGT, Int.reduceGE, Int.reduceEq, Int.reduceNe, Int.reduceToNat, AOp.stops, ↓want_eq, ↓exec_lenX, ↓exec_storeX, ↓exec_storeN, storeN_one, ↓exec_bsX, ↓exec_sliceX, ↓exec_copyX, ↓exec_appNil, ↓exec_carryX, Nat.sub_zero, rep_len, s3]; with_reducible first | exact EqP.at_ | exact EqP.cont | exact EqP.hcont | exact EqP.gate | exact EqP.hgate)) | (refine AW_ift ?_ ?_; focus (simp only [Sm]; done)) | (refine AW_iff ?_ ?_; focus (simp only [Sm]; done))))
  refine AO_call rfl ((AC_withGives H3 H.length b bf _ H2.length 2 1 bad zs yt hz ha (by omega) (by omega) ho3 (by omega) (by omega) q1' u3 q2' q0' (by omega) (by omega) (by omega) (by omega) (by omega) (by omega) (by omega) (by omega) (by omega)).floor (Nat.zero_le _)) ?_
  rintro _ H4 ⟨u, rfl, hu, hs4, hb4, h', ho4⟩
  have cs4 := hcells_own hs4
  have cb4 := hcells_own hb4
  generalize H2.length = s at *
  generalize H.length = a at *
  (repeat (first | with_reducible (first | refine thenQ_n ?_ | refine blockQ_n ?_ | refine thenQ_e ?_ | refine thenQ_r ?_ | refine blockQ_r ?_ | refine blockQ_s ?_ | refine blockQ_o rfl ?_) | refine AW_skip ?_ | refine AW_seq ?_ | refine AW_ops ?_ | refine AW_blockS ?_ | refine AW_blockR ?_ | refine AW_blockD ?_ | refine AW_blockC ?_ | refine AO_nil ?_ | refine AW_draw ?_ | refine AW_draw3 ?_ | refine AW_blockD3 ?_ | (refine AW_drawA ?_; simp only [atBlk, Sm]) | refine AHd_nil ?_ | with_reducible (first | refine AP_at ?_ | refine AHP_at ?_) | (with_reducible (first | apply AO_any | apply AHd_any | apply AP_go | apply AHP_go); focus (simp only [Sm, wantedA, execA, stepA, List.getElem?_cons_zero, List.getElem?_cons_succ, if_true, if_false, binA, binInt, unA, eqA, Option.map, eq_self, reduceCtorEq, ite_true, ite_false, cellsAV, fitsAll, CK.fits, fillA, AV.cells, writeN, sliceCells, appendA, lenA, i64, loA, hiA, Nat.reduceAdd, Nat.reduceMul, Nat.reduceDiv, Nat.reduceSub, Nat.reduceLeDiff, Nat.reduceLT, Int.reduceLE, Int.reduceLT, foldA, maxA, minA, Int.reduceBEq, Int.reduceBNe, Int.reduceGT, Int.reduceGE, Int.reduceEq, Int.reduceNe, Int.reduceToNat, AOp.stops, ↓want_eq, ↓exec_lenX, ↓exec_storeX, ↓exec_storeN, storeN_one, ↓exec_bsX, ↓exec_sliceX, ↓exec_copyX, ↓exec_appNil, ↓exec_carryX, Nat.sub_zero, rep_len]; with_reducible first | exact EqP.at_ | exact EqP.cont | exact EqP.hcont | exact EqP.gate | exact EqP.hgate)) | (refine AW_ift ?_ ?_; focus (simp only [Sm]; done)) | (refine AW_iff ?_ ?_; focus (simp only [Sm]; done))))
  refine AO_call rfl (AC_arUsed 0 H4 a _ _ _ _ ho4) ?_
  rintro _ _ ⟨rfl, rfl⟩
  have b1 : (((bf : Nat) : Int) == ((bf : Nat) : Int)) = true := beq_self_eq_true _
  (repeat (first | with_reducible (first | refine thenQ_n ?_ | refine blockQ_n ?_ | refine thenQ_e ?_ | refine thenQ_r ?_ | refine blockQ_r ?_ | refine blockQ_s ?_ | refine blockQ_o rfl ?_) | refine AW_skip ?_ | refine AW_seq ?_ | refine AW_ops ?_ | refine AW_blockS ?_ | refine AW_blockR ?_ | refine AW_blockD ?_ | refine AW_blockC ?_ | refine AO_nil ?_ | refine AW_draw ?_ | refine AW_draw3 ?_ | refine AW_blockD3 ?_ | (refine AW_drawA ?_; simp only [atBlk, Sm]) | refine AHd_nil ?_ | with_reducible (first | refine AP_at ?_ | refine AHP_at ?_) | (with_reducible (first | apply AO_any | apply AHd_any | apply AP_go | apply AHP_go); focus (simp only [Sm, wantedA, execA, stepA, List.getElem?_cons_zero, List.getElem?_cons_succ, if_true, if_false, binA, binInt, unA, eqA, Option.map, eq_self, reduceCtorEq, ite_true, ite_false, cellsAV, fitsAll, CK.fits, fillA, AV.cells, writeN, sliceCells, appendA, lenA, i64, loA, hiA, Nat.reduceAdd, Nat.reduceMul, Nat.reduceDiv, Nat.reduceSub, Nat.reduceLeDiff, Nat.reduceLT, Int.reduceLE, Int.reduceLT, foldA, maxA, minA, Int.reduceBEq, Int.reduceBNe, Int.reduceGT, Int.reduceGE, Int.reduceEq, Int.reduceNe, Int.reduceToNat, AOp.stops, ↓want_eq, ↓exec_lenX, ↓exec_storeX, ↓exec_storeN, storeN_one, ↓exec_bsX, ↓exec_sliceX, ↓exec_copyX, ↓exec_appNil, ↓exec_carryX, Nat.sub_zero, rep_len, b1]; with_reducible first | exact EqP.at_ | exact EqP.cont | exact EqP.hcont | exact EqP.gate | exact EqP.hgate)) | (refine AW_ift ?_ ?_; focus (simp only [Sm]; done)) | (refine AW_iff ?_ ?_; focus (simp only [Sm]; done))))
  refine AO_call rfl (AC_arLent 0 H4 a _ _ _ _ ho4) ?_
  rintro _ _ ⟨rfl, rfl⟩
  have b2 : (((u : Nat) : Int) == ((u : Nat) : Int)) = true := beq_self_eq_true _
  have b3 : (((0 + 1 : Nat) : Int) == 1) = true := by decide
  have e9 : IntKind.i64.wrap ((b : Int) - (bf : Int)) = ((b - bf : Nat) : Int) := by rw [i64_of (by omega) (by omega)]; omega
  have e10 : decide (((u : Nat) : Int) ≤ ((b - bf : Nat) : Int)) = true := decide_eq_true (by omega)
  cases bad with
  | true =>
    (repeat (first | with_reducible (first | refine thenQ_n ?_ | refine blockQ_n ?_ | refine thenQ_e ?_ | refine thenQ_r ?_ | refine blockQ_r ?_ | refine blockQ_s ?_ | refine blockQ_o rfl ?_) | refine AW_skip ?_ | refine AW_seq ?_ | refine AW_ops ?_ | refine AW_blockS ?_ | refine AW_blockR ?_ | refine AW_blockD ?_ | refine AW_blockC ?_ | refine AO_nil ?_ | refine AW_draw ?_ | refine AW_draw3 ?_ | refine AW_blockD3 ?_ | (refine AW_drawA ?_; simp only [atBlk, Sm]) | refine AHd_nil ?_ | with_reducible (first | refine AP_at ?_ | refine AHP_at ?_) | (with_reducible (first | apply AO_any | apply AHd_any | apply AP_go | apply AHP_go); focus (simp only [Sm, wantedA, execA, stepA, List.getElem?_cons_zero, List.getElem?_cons_succ, if_true, if_false, binA, binInt, unA, eqA, Option.map, eq_self, reduceCtorEq, ite_true, ite_false, cellsAV, fitsAll, CK.fits, fillA, AV.cells, writeN, sliceCells, appendA, lenA, i64, loA, hiA, Nat.reduceAdd, Nat.reduceMul, Nat.reduceDiv, Nat.reduceSub, Nat.reduceLeDiff, Nat.reduceLT, Int.reduceLE, Int.reduceLT, foldA, maxA, minA, Int.reduceBEq, Int.reduceBNe, Int.reduceGT, Int.reduceGE, Int.reduceEq, Int.reduceNe, Int.reduceToNat, AOp.stops, ↓want_eq, ↓exec_lenX, ↓exec_storeX, ↓exec_storeN, storeN_one, ↓exec_bsX, ↓exec_sliceX, ↓exec_copyX, ↓exec_appNil, ↓exec_carryX, Nat.sub_zero, rep_len, b2, b3, cs4, cb4, e9, e10]; with_reducible first | exact EqP.at_ | exact EqP.cont | exact EqP.hcont | exact EqP.gate | exact EqP.hgate)) | (refine AW_ift ?_ ?_; focus (simp only [Sm]; done)) | (refine AW_iff ?_ ?_; focus (simp only [Sm]; done))))
    exact AW_ret ⟨_, rfl, rfl⟩
  | false =>
    (repeat (first | with_reducible (first | refine thenQ_n ?_ | refine blockQ_n ?_ | refine thenQ_e ?_ | refine thenQ_r ?_ | refine blockQ_r ?_ | refine blockQ_s ?_ | refine blockQ_o rfl ?_) | refine AW_skip ?_ | refine AW_seq ?_ | refine AW_ops ?_ | refine AW_blockS ?_ | refine AW_blockR ?_ | refine AW_blockD ?_ | refine AW_blockC ?_ | refine AO_nil ?_ | refine AW_draw ?_ | refine AW_draw3 ?_ | refine AW_blockD3 ?_ | (refine AW_drawA ?_; simp only [atBlk, Sm]) | refine AHd_nil ?_ | with_reducible (first | refine AP_at ?_ | refine AHP_at ?_) | (with_reducible (first | apply AO_any | apply AHd_any | apply AP_go | apply AHP_go); focus (simp only [Sm, wantedA, execA, stepA, List.getElem?_cons_zero, List.getElem?_cons_succ, if_true, if_false, binA, binInt, unA, eqA, Option.map, eq_self, reduceCtorEq, ite_true, ite_false, cellsAV, fitsAll, CK.fits, fillA, AV.cells, writeN, sliceCells, appendA, lenA, i64, loA, hiA, Nat.reduceAdd, Nat.reduceMul, Nat.reduceDiv, Nat.reduceSub, Nat.reduceLeDiff, Nat.reduceLT, Int.reduceLE, Int.reduceLT, foldA, maxA, minA, Int.reduceBEq, Int.reduceBNe, Int.reduceGT, Int.reduceGE, Int.reduceEq, Int.reduceNe, Int.reduceToNat, AOp.stops, ↓want_eq, ↓exec_lenX, ↓exec_storeX, ↓exec_storeN, storeN_one, ↓exec_bsX, ↓exec_sliceX, ↓exec_copyX, ↓exec_appNil, ↓exec_carryX, Nat.sub_zero, rep_len, b2, b3, cs4, cb4, e9, e10]; with_reducible first | exact EqP.at_ | exact EqP.cont | exact EqP.hcont | exact EqP.gate | exact EqP.hgate)) | (refine AW_ift ?_ ?_; focus (simp only [Sm]; done)) | (refine AW_iff ?_ ?_; focus (simp only [Sm]; done))))
    exact AW_ret ⟨_, rfl, rfl⟩
end PK
