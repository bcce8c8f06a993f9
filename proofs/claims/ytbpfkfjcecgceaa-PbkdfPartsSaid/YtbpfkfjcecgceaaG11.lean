/- Texts of this claim, put together: L05i L05j L05k L01r KMac. -/
import Derived.Test.YtbpfkfjcecgceaaG8
import Derived.Test.YtbpfkfjcecgceaaG10
/- SHA-256, the document's: right, shift, spread. -/
namespace PK
open Go PAbs
set_option linter.unusedSimpArgs false
set_option linter.unusedVariables false
set_option maxRecDepth 100000
set_option maxHeartbeats 4000000

section
variable (H : AHeap)
theorem AC_refRight (n x : Nat) (h0 : 0 < n) (hn : n < 32) (hx : x < 4294967296) : AC A H.length F_pestleref05_right [.c (.int .u32 (x : Int)), .c (.int .i64 (n : Int))] H (fun v H' => v = .c (.int .u32 ((rt n x : Nat) : Int)) ∧ H = H') := by
  have e1 : IntKind.i64.wrap (32 - (n : Int)) = ((32 - n : Nat) : Int) := by rw [i64_of (by omega) (by omega)]; omega
  refine AC_enter t_pestleref05_right ?_; simp only [c_pestleref05_right, enterA, List.replicate, List.length_cons, List.length_nil, Nat.reduceAdd, Nat.reduceSub, List.cons_append, List.nil_append]
  (repeat (first | with_reducible (first | refine thenQ_n ?_ | refine blockQ_n ?_ | refine thenQ_e ?_ | refine thenQ_r ?_ | refine blockQ_r ?_ | refine blockQ_s ?_ | refine blockQ_o rfl ?_) | refine AW_skip ?_ | refine AW_seq ?_ | refine AW_ops ?_ | refine AW_blockS ?_ | refine AW_blockR ?_ | refine AW_blockD ?_ | refine AW_blockC ?_ | refine AO_nil ?_ | refine AW_draw ?_ | refine AW_draw3 ?_ | refine AW_blockD3 ?_ | (refine AW_drawA ?_; simp only [atBlk, Sm]) | refine AHd_nil ?_ | with_reducible (first | refine AP_at ?_ | refine AHP_at ?_) | (with_reducible (first | apply AO_any | apply AHd_any | apply AP_go | apply AHP_go); focus (simp only [Sm, wantedA, execA, stepA, List.getElem?_cons_zero, List.getElem?_cons_succ, if_true, if_false, binA, binInt, unA, eqA, Option.map, eq_self, reduceCtorEq, ite_true, ite_false, fitsAll, CK.fits, fillA, AV.cells, writeN, sliceCells, appendA, lenA, i64, loA, hiA, Nat.reduceAdd, Nat.reduceMul, Nat.reduceDiv, Nat.reduceSub, Nat.reduceLeDiff, Nat.reduceLT, Int.reduceLE, Int.reduceLT, foldA, maxA, minA, Int.reduceBEq, Int.reduceBNe, Int.reduceGT, Int.reduceGE, Int.reduceEq, Int.reduceNe, Int.reduceToNat, AOp.stops, ↓want_eq, ↓exec_lenX, ↓exec_storeX, ↓exec_storeN, storeN_one, ↓exec_bsX, ↓exec_sliceX, ↓exec_copyX, ↓exec_appNil, ↓exec_carryX, Nat.sub_zero, rep_len, e1]; with_reducible first | exact EqP.at_ | exact EqP.cont | exact EqP.hcont | exact EqP.gate | exact EqP.hgate)) | (refine AW_ift ?_ ?_; focus (simp only [Sm]; done)) | (refine AW_iff ?_ ?_; focus (simp only [Sm]; done))))
  refine AO_call rfl (AC_Left H.length H x ((32 - n : Nat) : Int) hx) ?_
  rintro _ _ ⟨rfl, rfl⟩
  (repeat (first | with_reducible (first | refine thenQ_n ?_ | refine blockQ_n ?_ | refine thenQ_e ?_ | refine thenQ_r ?_ | refine blockQ_r ?_ | refine blockQ_s ?_ | refine blockQ_o rfl ?_) | refine AW_skip ?_ | refine AW_seq ?_ | refine AW_ops ?_ | refine AW_blockS ?_ | refine AW_blockR ?_ | refine AW_blockD ?_ | refine AW_blockC ?_ | refine AO_nil ?_ | refine AW_draw ?_ | refine AW_draw3 ?_ | refine AW_blockD3 ?_ | (refine AW_drawA ?_; simp only [atBlk, Sm]) | refine AHd_nil ?_ | with_reducible (first | refine AP_at ?_ | refine AHP_at ?_) | (with_reducible (first | apply AO_any | apply AHd_any | apply AP_go | apply AHP_go); focus (simp only [Sm, wantedA, execA, stepA, List.getElem?_cons_zero, List.getElem?_cons_succ, if_true, if_false, binA, binInt, unA, eqA, Option.map, eq_self, reduceCtorEq, ite_true, ite_false, fitsAll, CK.fits, fillA, AV.cells, writeN, sliceCells, appendA, lenA, i64, loA, hiA, Nat.reduceAdd, Nat.reduceMul, Nat.reduceDiv, Nat.reduceSub, Nat.reduceLeDiff, Nat.reduceLT, Int.reduceLE, Int.reduceLT, foldA, maxA, minA, Int.reduceBEq, Int.reduceBNe, Int.reduceGT, Int.reduceGE, Int.reduceEq, Int.reduceNe, Int.reduceToNat, AOp.stops, ↓want_eq, ↓exec_lenX, ↓exec_storeX, ↓exec_storeN, storeN_one, ↓exec_bsX, ↓exec_sliceX, ↓exec_copyX, ↓exec_appNil, ↓exec_carryX, Nat.sub_zero, rep_len]; with_reducible first | exact EqP.at_ | exact EqP.cont | exact EqP.hcont | exact EqP.gate | exact EqP.hgate)) | (refine AW_ift ?_ ?_; focus (simp only [Sm]; done)) | (refine AW_iff ?_ ?_; focus (simp only [Sm]; done))))
  refine AW_ret ⟨_, rfl, ?_, rfl⟩
  rw [places_lit (by omega), rl_rt (by omega)]; rfl

def shI (n x : Nat) (H0 : AHeap) (i : Nat) (fr : AFrame) (H : AHeap) : Prop := H0 = H ∧ (∃ s : Nat → AV, fr = [.c (.int .u32 ((x / 2 ^ i : Nat) : Int)), .c (.int .i64 (n : Int)), s 2, s 3, s 4, .c (.int .i64 (i : Int)), s 6, s 7, s 8, s 9, s 10, s 11, s 12, s 13])
theorem AC_refShift (n x : Nat) (hn : n < 32) (hx : x < 4294967296) : AC A H.length F_pestleref05_shift [.c (.int .u32 (x : Int)), .c (.int .i64 (n : Int))] H (fun v H' => v = .c (.int .u32 ((x / 2 ^ n : Nat) : Int)) ∧ H = H') := by
  refine AC_enter t_pestleref05_shift ?_; simp only [c_pestleref05_shift, enterA, List.replicate, List.length_cons, List.length_nil, Nat.reduceAdd, Nat.reduceSub, List.cons_append, List.nil_append]
  (repeat (first | with_reducible (first | refine thenQ_n ?_ | refine blockQ_n ?_ | refine thenQ_e ?_ | refine thenQ_r ?_ | refine blockQ_r ?_ | refine blockQ_s ?_ | refine blockQ_o rfl ?_) | refine AW_skip ?_ | refine AW_seq ?_ | refine AW_ops ?_ | refine AW_blockS ?_ | refine AW_blockR ?_ | refine AW_blockD ?_ | refine AW_blockC ?_ | refine AO_nil ?_ | refine AW_draw ?_ | refine AW_draw3 ?_ | refine AW_blockD3 ?_ | (refine AW_drawA ?_; simp only [atBlk, Sm]) | refine AHd_nil ?_ | with_reducible (first | refine AP_at ?_ | refine AHP_at ?_) | (with_reducible (first | apply AO_any | apply AHd_any | apply AP_go | apply AHP_go); focus (simp only [Sm, wantedA, execA, stepA, List.getElem?_cons_zero, List.getElem?_cons_succ, if_true, if_false, binA, binInt, unA, eqA, Option.map, eq_self, reduceCtorEq, ite_true, ite_false, fitsAll, CK.fits, fillA, AV.cells, writeN, sliceCells, appendA, lenA, i64, loA, hiA, Nat.reduceAdd, Nat.reduceMul, Nat.reduceDiv, Nat.reduceSub, Nat.reduceLeDiff, Nat.reduceLT, Int.reduceLE, Int.reduceLT, foldA, maxA, minA, Int.reduceBEq, Int.reduceBNe, Int.reduceGT, Int.reduceGE, Int.reduceEq, Int.reduceNe, Int.reduceToNat, AOp.stops, ↓want_eq, ↓exec_lenX, ↓exec_storeX, ↓exec_storeN, storeN_one, ↓exec_bsX, ↓exec_sliceX, ↓exec_copyX, ↓exec_appNil, ↓exec_carryX, Nat.sub_zero, rep_len]; with_reducible first | exact EqP.at_ | exact EqP.cont | exact EqP.hcont | exact EqP.gate | exact EqP.hgate)) | (refine AW_ift ?_ ?_; focus (simp only [Sm]; done)) | (refine AW_iff ?_ ?_; focus (simp only [Sm]; done))))
  refine AW_mid (fun e fr H' => e = .normal ∧ shI n x H n fr H') ?_ ?_
  · refine AW_block (AW_up (shI n x H) n ⟨rfl, stale _ _ (by simp only [Nat.pow_zero, Nat.div_one]; rfl)⟩ ?_)
    rintro i fr _ hi ⟨rfl, st, rfl⟩
    (repeat (first | with_reducible (first | refine thenQ_n ?_ | refine blockQ_n ?_ | refine thenQ_e ?_ | refine thenQ_r ?_ | refine blockQ_r ?_ | refine blockQ_s ?_ | refine blockQ_o rfl ?_) | refine AW_skip ?_ | refine AW_seq ?_ | refine AW_ops ?_ | refine AW_blockS ?_ | refine AW_blockR ?_ | refine AW_blockD ?_ | refine AW_blockC ?_ | refine AO_nil ?_ | refine AW_draw ?_ | refine AW_draw3 ?_ | refine AW_blockD3 ?_ | (refine AW_drawA ?_; simp only [atBlk, Sm]) | refine AHd_nil ?_ | with_reducible (first | refine AP_at ?_ | refine AHP_at ?_) | (with_reducible (first | apply AO_any | apply AHd_any | apply AP_go | apply AHP_go); focus (simp only [Sm, wantedA, execA, stepA, List.getElem?_cons_zero, List.getElem?_cons_succ, if_true, if_false, binA, binInt, unA, eqA, Option.map, eq_self, reduceCtorEq, ite_true, ite_false, fitsAll, CK.fits, fillA, AV.cells, writeN, sliceCells, appendA, lenA, i64, loA, hiA, Nat.reduceAdd, Nat.reduceMul, Nat.reduceDiv, Nat.reduceSub, Nat.reduceLeDiff, Nat.reduceLT, Int.reduceLE, Int.reduceLT, foldA, maxA, minA, Int.reduceBEq, Int.reduceBNe, Int.reduceGT, Int.reduceGE, Int.reduceEq, Int.reduceNe, Int.reduceToNat, AOp.stops, ↓want_eq, ↓exec_lenX, ↓exec_storeX, ↓exec_storeN, storeN_one, ↓exec_bsX, ↓exec_sliceX, ↓exec_copyX, ↓exec_appNil, ↓exec_carryX, Nat.sub_zero, rep_len]; with_reducible first | exact EqP.at_ | exact EqP.cont | exact EqP.hcont | exact EqP.gate | exact EqP.hgate)) | (refine AW_ift ?_ ?_; focus (simp only [Sm]; done)) | (refine AW_iff ?_ ?_; focus (simp only [Sm]; done))))
    refine AW_cond rfl ?_ ?_ <;> intro ht
    · have ht : (i : Int) < n := of_decide_eq_true ht
      have hd : x / 2 ^ i ≤ x := Nat.div_le_self _ _
      have e2 : IntKind.u32.wrap (((x / 2 ^ i : Nat) : Int).tdiv 2) = ((x / 2 ^ (i + 1) : Nat) : Int) := by
        rw [Nat.pow_succ, ← Nat.div_div_eq_div_mul]
        generalize x / 2 ^ i = u at *
        rw [Int.tdiv_eq_ediv_of_nonneg (by omega), wrap32]; omega
      have z2 : ¬ ((2 : Int) = 0) := by decide
      have esc := i64_succ (show i < 9223372036854775807 by omega)
      (repeat (first | with_reducible (first | refine thenQ_n ?_ | refine blockQ_n ?_ | refine thenQ_e ?_ | refine thenQ_r ?_ | refine blockQ_r ?_ | refine blockQ_s ?_ | refine blockQ_o rfl ?_) | refine AW_skip ?_ | refine AW_seq ?_ | refine AW_ops ?_ | refine AW_blockS ?_ | refine AW_blockR ?_ | refine AW_blockD ?_ | refine AW_blockC ?_ | refine AO_nil ?_ | refine AW_draw ?_ | refine AW_draw3 ?_ | refine AW_blockD3 ?_ | (refine AW_drawA ?_; simp only [atBlk, Sm]) | refine AHd_nil ?_ | with_reducible (first | refine AP_at ?_ | refine AHP_at ?_) | (with_reducible (first | apply AO_any | apply AHd_any | apply AP_go | apply AHP_go); focus (simp only [Sm, wantedA, execA, stepA, List.getElem?_cons_zero, List.getElem?_cons_succ, if_true, if_false, binA, binInt, unA, eqA, Option.map, eq_self, reduceCtorEq, ite_true, ite_false, fitsAll, CK.fits, fillA, AV.cells, writeN, sliceCells, appendA, lenA, i64, loA, hiA, Nat.reduceAdd, Nat.reduceMul, Nat.reduceDiv, Nat.reduceSub, Nat.reduceLeDiff, Nat.reduceLT, Int.reduceLE, Int.reduceLT, foldA, maxA, minA, Int.reduceBEq, Int.reduceBNe, Int.reduceGT, Int.reduceGE, Int.reduceEq, Int.reduceNe, Int.reduceToNat, AOp.stops, ↓want_eq, ↓exec_lenX, ↓exec_storeX, ↓exec_storeN, storeN_one, ↓exec_bsX, ↓exec_sliceX, ↓exec_copyX, ↓exec_appNil, ↓exec_carryX, Nat.sub_zero, rep_len, z2, e2, esc]; with_reducible first | exact EqP.at_ | exact EqP.cont | exact EqP.hcont | exact EqP.gate | exact EqP.hgate)) | (refine AW_ift ?_ ?_; focus (simp only [Sm]; done)) | (refine AW_iff ?_ ?_; focus (simp only [Sm]; done))))
      exact ⟨by omega, rfl, stale _ _ rfl⟩
    · obtain rfl : i = n := by have : ¬ (i : Int) < n := of_decide_eq_false ht; omega
      exact AW_exit ⟨rfl, rfl, stale _ _ rfl⟩
  rintro e fr _ ⟨rfl, rfl, st, rfl⟩
  (repeat (first | with_reducible (first | refine thenQ_n ?_ | refine blockQ_n ?_ | refine thenQ_e ?_ | refine thenQ_r ?_ | refine blockQ_r ?_ | refine blockQ_s ?_ | refine blockQ_o rfl ?_) | refine AW_skip ?_ | refine AW_seq ?_ | refine AW_ops ?_ | refine AW_blockS ?_ | refine AW_blockR ?_ | refine AW_blockD ?_ | refine AW_blockC ?_ | refine AO_nil ?_ | refine AW_draw ?_ | refine AW_draw3 ?_ | refine AW_blockD3 ?_ | (refine AW_drawA ?_; simp only [atBlk, Sm]) | refine AHd_nil ?_ | with_reducible (first | refine AP_at ?_ | refine AHP_at ?_) | (with_reducible (first | apply AO_any | apply AHd_any | apply AP_go | apply AHP_go); focus (simp only [Sm, wantedA, execA, stepA, List.getElem?_cons_zero, List.getElem?_cons_succ, if_true, if_false, binA, binInt, unA, eqA, Option.map, eq_self, reduceCtorEq, ite_true, ite_false, fitsAll, CK.fits, fillA, AV.cells, writeN, sliceCells, appendA, lenA, i64, loA, hiA, Nat.reduceAdd, Nat.reduceMul, Nat.reduceDiv, Nat.reduceSub, Nat.reduceLeDiff, Nat.reduceLT, Int.reduceLE, Int.reduceLT, foldA, maxA, minA, Int.reduceBEq, Int.reduceBNe, Int.reduceGT, Int.reduceGE, Int.reduceEq, Int.reduceNe, Int.reduceToNat, AOp.stops, ↓want_eq, ↓exec_lenX, ↓exec_storeX, ↓exec_storeN, storeN_one, ↓exec_bsX, ↓exec_sliceX, ↓exec_copyX, ↓exec_appNil, ↓exec_carryX, Nat.sub_zero, rep_len]; with_reducible first | exact EqP.at_ | exact EqP.cont | exact EqP.hcont | exact EqP.gate | exact EqP.hgate)) | (refine AW_ift ?_ ?_; focus (simp only [Sm]; done)) | (refine AW_iff ?_ ?_; focus (simp only [Sm]; done))))
  exact AW_ret ⟨_, rfl, rfl, rfl⟩
end

/-! bytes taken into words, one by one -/
def m256 (x : Nat) : Nat := x * 256 % 4294967296
def tkS (bs : List Nat) : Nat → List Nat
  | 0 => List.replicate 64 0
  | t + 1 => (tkS bs t).set (t / 4) (ad (m256 ((tkS bs t).getD (t / 4) 0)) (bs.getD t 0))
theorem tkS_wd (bs : List Nat) : ∀ t, Wd 64 (tkS bs t)
  | 0 => ⟨by simp [tkS], fun k => by simp only [tkS, List.getD_eq_getElem?_getD, List.getElem?_replicate]; split <;> decide⟩
  | t + 1 => (tkS_wd bs t).set (ad_lt _ _)
def hwN (bs : List Nat) (p : Nat) : Nat → Nat
  | 0 => 0
  | j + 1 => hwN bs p j * 256 + bs.getD (p + j) 0
theorem hwN_lt {bs : List Nat} (hb : ∀ k, bs.getD k 0 < 256) (p : Nat) : ∀ j, hwN bs p j < 256 ^ j
  | 0 => by simp [hwN]
  | j + 1 => by have := hwN_lt hb p j; have := hb (p + j); simp only [hwN, Nat.pow_succ]; omega
theorem tkS_get {bs : List Nat} (hb : ∀ k, bs.getD k 0 < 256) : ∀ t, t ≤ 64 → ∀ j, (tkS bs t).getD j 0 = hwN bs (4 * j) (min 4 (t - 4 * j))
  | 0, _, j => by
    simp only [tkS, List.getD_eq_getElem?_getD, List.getElem?_replicate, Nat.zero_sub, Nat.min_zero, hwN]
    split <;> rfl
  | t + 1, ht, j => by
    have ih := tkS_get hb t (by omega)
    have hl := (tkS_wd bs t).1
    simp only [tkS]
    rw [getD_set_]
    split
    · rename_i h
      obtain ⟨rfl, _⟩ := h
      rw [ih]
      have e1 : min 4 (t - 4 * (t / 4)) = t % 4 := by omega
      have e2 : min 4 (t + 1 - 4 * (t / 4)) = t % 4 + 1 := by omega
      rw [e1, e2]
      have h1 := hwN_lt hb (4 * (t / 4)) (t % 4)
      have h2 : (256 : Nat) ^ (t % 4) ≤ 256 ^ 3 := Nat.pow_le_pow_right (by decide) (by omega)
      have e3 : 4 * (t / 4) + t % 4 = t := by omega
      simp only [hwN, e3, ad, m256]
      have h3 := hb t
      have h4 : (256 : Nat) ^ 3 = 16777216 := by decide
      omega
    · rename_i h
      rw [ih]
      rcases Nat.lt_or_ge t (4 * j) with h5 | h5
      · have e1 : min 4 (t - 4 * j) = 0 := by omega
        have e2 : min 4 (t + 1 - 4 * j) = 0 := by omega
        rw [e1, e2]
      · have e1 : min 4 (t - 4 * j) = 4 := by omega
        have e2 : min 4 (t + 1 - 4 * j) = 4 := by omega
        rw [e1, e2]
theorem list_eq_getD {l m : List Nat} {n : Nat} (hl : l.length = n) (hm : m.length = n) (h : ∀ k, k < n → l.getD k 0 = m.getD k 0) : l = m := by
  apply List.ext_getElem (by rw [hl, hm])
  intro i h1 h2
  have := h i (by omega)
  simpa [h1, h2] using this
theorem tkS_wide {bs : List Nat} (hb : ∀ k, bs.getD k 0 < 256) (hl : bs.length = 64) : tkS bs 64 = wide (tk 4 (3 - ·) bs bs.length) := by
  have hw : (tk 4 (3 - ·) bs bs.length).length = 16 := by rw [tk_length, hl]
  refine list_eq_getD (tkS_wd bs 64).1 (tk16 hl).wide.1 fun k hk => ?_
  rw [tkS_get hb 64 (by omega)]
  rcases Nat.lt_or_ge k 16 with h | h
  · have e1 : min 4 (64 - 4 * k) = 4 := by omega
    have e2 : (wide (tk 4 (3 - ·) bs bs.length)).getD k 0 = (tk 4 (3 - ·) bs bs.length).getD k 0 := by
      simp only [wide, List.getD_eq_getElem?_getD]; rw [List.getElem?_append_left (by omega)]
    rw [e1, e2, tk_partB (by decide) bs 16 (by rw [hl]) bs.length (by omega) k h, hl]
    have e3 : min 4 (64 - 4 * k) = 4 := by omega
    rw [e3, partB_be hb]
    simp only [hwN, Nat.add_zero]; omega
  · have e1 : min 4 (64 - 4 * k) = 0 := by omega
    rw [e1]
    simp only [hwN, wide, List.getD_eq_getElem?_getD]
    rw [List.getElem?_append_right (by omega), List.getElem?_replicate]
    split <;> rfl

theorem ad_swap (a b c : Nat) : ad (ad a b) c = ad (ad a c) b := by simp only [ad]; omega
theorem nextW_alt (w : List Nat) (i : Nat) : nextW w i = ad (ad (ad (w.getD (i - 16) 0) (w.getD (i - 7) 0)) (sg0 (w.getD (i - 15) 0))) (sg1 (w.getD (i - 2) 0)) := by rw [nextW, ad_swap (w.getD (i - 16) 0)]
theorem wrap_m256 (x : Nat) : IntKind.u32.wrap ((x : Int) * 256) = ((m256 x : Nat) : Int) := by rw [wrap32]; simp only [m256]; omega


def saI (p : Nat) (bs : List UInt8) (H0 : AHeap) (i : Nat) (fr : AFrame) (H : AHeap) : Prop := Chg (· = p + 1) H0 H ∧ hown H (p + 1) = some (W32 (tkS (toN bs) (4 * i))) ∧ (∃ s : Nat → AV, fr = [.c (.str bs), s 1, .c (.ptr p 0), .c (.ptr (p + 1) 0), .c (.int .i64 (i : Int)), s 5, s 6, s 7, s 8, s 9, s 10, s 11, s 12, s 13, s 14, s 15, s 16, s 17, s 18, s 19, s 20, s 21, s 22, s 23, s 24, s 25, s 26, s 27, s 28, s 29, s 30, s 31, s 32, s 33, s 34, s 35, s 36, s 37, s 38, s 39, s 40, s 41, s 42, s 43, s 44, s 45, s 46, s 47, s 48, s 49, s 50, s 51, s 52, s 53, s 54, s 55, s 56, s 57, s 58, s 59, s 60, s 61, s 62, s 63, s 64, s 65, s 66, s 67, s 68, s 69, s 70, s 71, s 72, s 73, s 74, s 75, s 76, s 77, s 78, s 79, s 80, s 81, s 82, s 83, s 84])

def sbI (p : Nat) (bs : List UInt8) (i : Nat) (H0 : AHeap) (j : Nat) (fr : AFrame) (H : AHeap) : Prop := Chg (· = p + 1) H0 H ∧ hown H (p + 1) = some (W32 (tkS (toN bs) (4 * i + j))) ∧ (∃ s : Nat → AV, fr = [.c (.str bs), s 1, .c (.ptr p 0), .c (.ptr (p + 1) 0), .c (.int .i64 (i : Int)), .c (.int .i64 (j : Int)), s 6, s 7, s 8, s 9, s 10, s 11, s 12, s 13, s 14, s 15, s 16, s 17, s 18, s 19, s 20, s 21, s 22, s 23, s 24, s 25, s 26, s 27, s 28, s 29, s 30, s 31, s 32, s 33, s 34, s 35, s 36, s 37, s 38, s 39, s 40, s 41, s 42, s 43, s 44, s 45, s 46, s 47, s 48, s 49, s 50, s 51, s 52, s 53, s 54, s 55, s 56, s 57, s 58, s 59, s 60, s 61, s 62, s 63, s 64, s 65, s 66, s 67, s 68, s 69, s 70, s 71, s 72, s 73, s 74, s 75, s 76, s 77, s 78, s 79, s 80, s 81, s 82, s 83, s 84])

def seI (p : Nat) (w : List Nat) (H0 : AHeap) (i : Nat) (fr : AFrame) (H : AHeap) : Prop := Chg (· = p + 1) H0 H ∧ hown H (p + 1) = some (W32 (exW w i)) ∧ (∃ s : Nat → AV, fr = [s 0, s 1, .c (.ptr p 0), .c (.ptr (p + 1) 0), s 4, s 5, .c (.int .i64 ((16 + i : Nat) : Int)), s 7, s 8, s 9, s 10, s 11, s 12, s 13, s 14, s 15, s 16, s 17, s 18, s 19, s 20, s 21, s 22, s 23, s 24, s 25, s 26, s 27, s 28, s 29, s 30, s 31, s 32, s 33, s 34, s 35, s 36, s 37, s 38, s 39, s 40, s 41, s 42, s 43, s 44, s 45, s 46, s 47, s 48, s 49, s 50, s 51, s 52, s 53, s 54, s 55, s 56, s 57, s 58, s 59, s 60, s 61, s 62, s 63, s 64, s 65, s 66, s 67, s 68, s 69, s 70, s 71, s 72, s 73, s 74, s 75, s 76, s 77, s 78, s 79, s 80, s 81, s 82, s 83, s 84])
theorem AC_refSpread (H : AHeap) (bs : List UInt8) (hl : bs.length = 64) :
    AC A H.length F_pestleref05_spread [.c (.str bs)] H (fun v H' => v = .agg (W32 (exW (wide (tk 4 (3 - ·) (toN bs) (toN bs).length)) 48))) := by
  refine AC_enter t_pestleref05_spread ?_; simp only [c_pestleref05_spread, enterA, List.replicate, List.length_cons, List.length_nil, Nat.reduceAdd, Nat.reduceSub, List.cons_append, List.nil_append]
  (repeat (first | with_reducible (first | refine thenQ_n ?_ | refine blockQ_n ?_ | refine thenQ_e ?_ | refine thenQ_r ?_ | refine blockQ_r ?_ | refine blockQ_s ?_ | refine blockQ_o rfl ?_) | refine AW_skip ?_ | refine AW_seq ?_ | refine AW_ops ?_ | refine AW_blockS ?_ | refine AW_blockR ?_ | refine AW_blockD ?_ | refine AW_blockC ?_ | refine AO_nil ?_ | refine AW_draw ?_ | refine AW_draw3 ?_ | refine AW_blockD3 ?_ | (refine AW_drawA ?_; simp only [atBlk, Sm]) | refine AHd_nil ?_ | with_reducible (first | refine AP_at ?_ | refine AHP_at ?_) | (with_reducible (first | apply AO_any | apply AHd_any | apply AP_go | apply AHP_go); focus (simp only [Sm, wantedA, execA, stepA, List.getElem?_cons_zero, List.getElem?_cons_succ, if_true, if_false, binA, binInt, unA, eqA, Option.map, eq_self, reduceCtorEq, ite_true, ite_false, fitsAll, CK.fits, fillA, AV.cells, writeN, sliceCells, appendA, lenA, i64, loA, hiA, Nat.reduceAdd, Nat.reduceMul, Nat.reduceDiv, Nat.reduceSub, Nat.reduceLeDiff, Nat.reduceLT, Int.reduceLE, Int.reduceLT, foldA, maxA, minA, Int.reduceBEq, Int.reduceBNe, Int.reduceGT, Int.reduceGE, Int.reduceEq, Int.reduceNe, Int.reduceToNat, AOp.stops, ↓want_eq, ↓exec_lenX, ↓exec_storeX, ↓exec_storeN, storeN_one, ↓exec_bsX, ↓exec_sliceX, ↓exec_copyX, ↓exec_appNil, ↓exec_carryX, Nat.sub_zero, rep_len]; with_reducible first | exact EqP.at_ | exact EqP.cont | exact EqP.hcont | exact EqP.gate | exact EqP.hgate)) | (refine AW_ift ?_ ?_; focus (simp only [Sm]; done)) | (refine AW_iff ?_ ?_; focus (simp only [Sm]; done))))
  have o2 : hown (H ++ [Blk.own (rep 64 (.int .u32 0))] ++ [Blk.own (rep 64 (.int .u32 0))]) H.length = some (rep 64 (.int .u32 0)) := hown_app hown_last
  have o3 : hown (H ++ [Blk.own (rep 64 (.int .u32 0))] ++ [Blk.own (rep 64 (.int .u32 0))]) (H.length + 1) = some (W32 (tkS (toN bs) (4 * 0))) := by
    have e0 : W32 (tkS (toN bs) (4 * 0)) = rep 64 (.int .u32 0) := (W32_zeros 64).symm
    rw [e0]
    have := hown_last (H := H ++ [Blk.own (rep 64 (.int .u32 0))]) (cs := rep 64 (.int .u32 0)); simpa using this
  have l1 : (H ++ [Blk.own (rep 64 (.int .u32 0))] ++ [Blk.own (rep 64 (.int .u32 0))]).length = H.length + 2 := by simp
  generalize H ++ [Blk.own (rep 64 (.int .u32 0))] ++ [Blk.own (rep 64 (.int .u32 0))] = H1 at *
  have hsw := tkS_wide (toN_lt bs) (by rw [toN_length]; exact hl)
  rw [← hsw]
  clear hsw
  generalize hp : H.length = p at *
  refine AW_mid (fun e fr H' => e = .normal ∧ saI p bs H1 16 fr H') ?_ ?_
  · refine AW_block (AW_up (saI p bs H1) 16 ⟨Chg.refl _ _, o3, stale _ _ rfl⟩ ?_)
    rintro i fr H2 hi ⟨c2, o32, st, rfl⟩
    (repeat (first | with_reducible (first | refine thenQ_n ?_ | refine blockQ_n ?_ | refine thenQ_e ?_ | refine thenQ_r ?_ | refine blockQ_r ?_ | refine blockQ_s ?_ | refine blockQ_o rfl ?_) | refine AW_skip ?_ | refine AW_seq ?_ | refine AW_ops ?_ | refine AW_blockS ?_ | refine AW_blockR ?_ | refine AW_blockD ?_ | refine AW_blockC ?_ | refine AO_nil ?_ | refine AW_draw ?_ | refine AW_draw3 ?_ | refine AW_blockD3 ?_ | (refine AW_drawA ?_; simp only [atBlk, Sm]) | refine AHd_nil ?_ | with_reducible (first | refine AP_at ?_ | refine AHP_at ?_) | (with_reducible (first | apply AO_any | apply AHd_any | apply AP_go | apply AHP_go); focus (simp only [Sm, wantedA, execA, stepA, List.getElem?_cons_zero, List.getElem?_cons_succ, if_true, if_false, binA, binInt, unA, eqA, Option.map, eq_self, reduceCtorEq, ite_true, ite_false, fitsAll, CK.fits, fillA, AV.cells, writeN, sliceCells, appendA, lenA, i64, loA, hiA, Nat.reduceAdd, Nat.reduceMul, Nat.reduceDiv, Nat.reduceSub, Nat.reduceLeDiff, Nat.reduceLT, Int.reduceLE, Int.reduceLT, foldA, maxA, minA, Int.reduceBEq, Int.reduceBNe, Int.reduceGT, Int.reduceGE, Int.reduceEq, Int.reduceNe, Int.reduceToNat, AOp.stops, ↓want_eq, ↓exec_lenX, ↓exec_storeX, ↓exec_storeN, storeN_one, ↓exec_bsX, ↓exec_sliceX, ↓exec_copyX, ↓exec_appNil, ↓exec_carryX, Nat.sub_zero, rep_len]; with_reducible first | exact EqP.at_ | exact EqP.cont | exact EqP.hcont | exact EqP.gate | exact EqP.hgate)) | (refine AW_ift ?_ ?_; focus (simp only [Sm]; done)) | (refine AW_iff ?_ ?_; focus (simp only [Sm]; done))))
    refine AW_cond rfl ?_ ?_ <;> intro ht
    · have ht : (i : Int) < 16 := of_decide_eq_true ht
      have hi2 : i < 16 := by omega
      (repeat (first | with_reducible (first | refine thenQ_n ?_ | refine blockQ_n ?_ | refine thenQ_e ?_ | refine thenQ_r ?_ | refine blockQ_r ?_ | refine blockQ_s ?_ | refine blockQ_o rfl ?_) | refine AW_skip ?_ | refine AW_seq ?_ | refine AW_ops ?_ | refine AW_blockS ?_ | refine AW_blockR ?_ | refine AW_blockD ?_ | refine AW_blockC ?_ | refine AO_nil ?_ | refine AW_draw ?_ | refine AW_draw3 ?_ | refine AW_blockD3 ?_ | (refine AW_drawA ?_; simp only [atBlk, Sm]) | refine AHd_nil ?_ | with_reducible (first | refine AP_at ?_ | refine AHP_at ?_) | (with_reducible (first | apply AO_any | apply AHd_any | apply AP_go | apply AHP_go); focus (simp only [Sm, wantedA, execA, stepA, List.getElem?_cons_zero, List.getElem?_cons_succ, if_true, if_false, binA, binInt, unA, eqA, Option.map, eq_self, reduceCtorEq, ite_true, ite_false, fitsAll, CK.fits, fillA, AV.cells, writeN, sliceCells, appendA, lenA, i64, loA, hiA, Nat.reduceAdd, Nat.reduceMul, Nat.reduceDiv, Nat.reduceSub, Nat.reduceLeDiff, Nat.reduceLT, Int.reduceLE, Int.reduceLT, foldA, maxA, minA, Int.reduceBEq, Int.reduceBNe, Int.reduceGT, Int.reduceGE, Int.reduceEq, Int.reduceNe, Int.reduceToNat, AOp.stops, ↓want_eq, ↓exec_lenX, ↓exec_storeX, ↓exec_storeN, storeN_one, ↓exec_bsX, ↓exec_sliceX, ↓exec_copyX, ↓exec_appNil, ↓exec_carryX, Nat.sub_zero, rep_len]; with_reducible first | exact EqP.at_ | exact EqP.cont | exact EqP.hcont | exact EqP.gate | exact EqP.hgate)) | (refine AW_ift ?_ ?_; focus (simp only [Sm]; done)) | (refine AW_iff ?_ ?_; focus (simp only [Sm]; done))))
      refine AW_mid (fun e fr H' => e = .normal ∧ sbI p bs i H2 4 fr H') ?_ ?_
      · refine AW_block (AW_up (sbI p bs i H2) 4 ⟨Chg.refl _ _, o32, stale _ _ rfl⟩ ?_)
        rintro j fr H3 hj ⟨c3, o33, st, rfl⟩
        have hS := tkS_wd (toN bs) (4 * i + j)
        have hsucc : tkS (toN bs) (4 * i + (j + 1)) = (tkS (toN bs) (4 * i + j)).set ((4 * i + j) / 4) (ad (m256 ((tkS (toN bs) (4 * i + j)).getD ((4 * i + j) / 4) 0)) ((toN bs).getD (4 * i + j) 0)) := rfl
        generalize hu : tkS (toN bs) (4 * i + j) = u at *
        (repeat (first | with_reducible (first | refine thenQ_n ?_ | refine blockQ_n ?_ | refine thenQ_e ?_ | refine thenQ_r ?_ | refine blockQ_r ?_ | refine blockQ_s ?_ | refine blockQ_o rfl ?_) | refine AW_skip ?_ | refine AW_seq ?_ | refine AW_ops ?_ | refine AW_blockS ?_ | refine AW_blockR ?_ | refine AW_blockD ?_ | refine AW_blockC ?_ | refine AO_nil ?_ | refine AW_draw ?_ | refine AW_draw3 ?_ | refine AW_blockD3 ?_ | (refine AW_drawA ?_; simp only [atBlk, Sm]) | refine AHd_nil ?_ | with_reducible (first | refine AP_at ?_ | refine AHP_at ?_) | (with_reducible (first | apply AO_any | apply AHd_any | apply AP_go | apply AHP_go); focus (simp only [Sm, wantedA, execA, stepA, List.getElem?_cons_zero, List.getElem?_cons_succ, if_true, if_false, binA, binInt, unA, eqA, Option.map, eq_self, reduceCtorEq, ite_true, ite_false, fitsAll, CK.fits, fillA, AV.cells, writeN, sliceCells, appendA, lenA, i64, loA, hiA, Nat.reduceAdd, Nat.reduceMul, Nat.reduceDiv, Nat.reduceSub, Nat.reduceLeDiff, Nat.reduceLT, Int.reduceLE, Int.reduceLT, foldA, maxA, minA, Int.reduceBEq, Int.reduceBNe, Int.reduceGT, Int.reduceGE, Int.reduceEq, Int.reduceNe, Int.reduceToNat, AOp.stops, ↓want_eq, ↓exec_lenX, ↓exec_storeX, ↓exec_storeN, storeN_one, ↓exec_bsX, ↓exec_sliceX, ↓exec_copyX, ↓exec_appNil, ↓exec_carryX, Nat.sub_zero, rep_len]; with_reducible first | exact EqP.at_ | exact EqP.cont | exact EqP.hcont | exact EqP.gate | exact EqP.hgate)) | (refine AW_ift ?_ ?_; focus (simp only [Sm]; done)) | (refine AW_iff ?_ ?_; focus (simp only [Sm]; done))))
        refine AW_cond rfl ?_ ?_ <;> intro htj
        · have htj : (j : Int) < 4 := of_decide_eq_true htj
          have hj2 : j < 4 := by omega
          rw [show (4 * i + j) / 4 = i by omega] at hsucc
          have g1 := hS.get (i := i) (by omega)
          have e1 : IntKind.i64.wrap (4 * (i : Int)) = ((4 * i : Nat) : Int) := by rw [i64_of (by omega) (by omega)]; omega
          have e2 : IntKind.i64.wrap (((4 * i : Nat) : Int) + (j : Int)) = ((4 * i + j : Nat) : Int) := by rw [i64_of (by omega) (by omega)]; omega
          have b64 : ((i : Nat) : Int) < 64 := by omega
          have h3 := hcells_own o33
          have l3 := hown_lt o33
          obtain ⟨x, hx⟩ : ∃ x, bs[4 * i + j]? = some x := ⟨_, List.getElem?_eq_getElem (by omega)⟩
          have hxn : (toN bs).getD (4 * i + j) 0 = x.toNat := by simp only [toN, List.getD_eq_getElem?_getD, List.getElem?_map, hx]; rfl
          rw [hxn] at hsucc
          have hx3 : IntKind.u32.wrap ((x.toNat : Nat) : Int) = ((x.toNat : Nat) : Int) := u32_nat (by have := x.toNat_lt; omega)
          have i64 : i < 64 := by omega
          have esc := i64_succ (show j < 9223372036854775807 by omega)
          (repeat (first | with_reducible (first | refine thenQ_n ?_ | refine blockQ_n ?_ | refine thenQ_e ?_ | refine thenQ_r ?_ | refine blockQ_r ?_ | refine blockQ_s ?_ | refine blockQ_o rfl ?_) | refine AW_skip ?_ | refine AW_seq ?_ | refine AW_ops ?_ | refine AW_blockS ?_ | refine AW_blockR ?_ | refine AW_blockD ?_ | refine AW_blockC ?_ | refine AO_nil ?_ | refine AW_draw ?_ | refine AW_draw3 ?_ | refine AW_blockD3 ?_ | (refine AW_drawA ?_; simp only [atBlk, Sm]) | refine AHd_nil ?_ | with_reducible (first | refine AP_at ?_ | refine AHP_at ?_) | (with_reducible (first | apply AO_any | apply AHd_any | apply AP_go | apply AHP_go); focus (simp only [Sm, wantedA, execA, stepA, List.getElem?_cons_zero, List.getElem?_cons_succ, if_true, if_false, binA, binInt, unA, eqA, Option.map, eq_self, reduceCtorEq, ite_true, ite_false, fitsAll, CK.fits, fillA, AV.cells, writeN, sliceCells, appendA, lenA, i64, loA, hiA, Nat.reduceAdd, Nat.reduceMul, Nat.reduceDiv, Nat.reduceSub, Nat.reduceLeDiff, Nat.reduceLT, Int.reduceLE, Int.reduceLT, foldA, maxA, minA, Int.reduceBEq, Int.reduceBNe, Int.reduceGT, Int.reduceGE, Int.reduceEq, Int.reduceNe, Int.reduceToNat, AOp.stops, ↓want_eq, ↓exec_lenX, ↓exec_storeX, ↓exec_storeN, storeN_one, ↓exec_bsX, ↓exec_sliceX, ↓exec_copyX, ↓exec_appNil, ↓exec_carryX, Nat.sub_zero, rep_len, b64, h3, g1, Nat.zero_add, wrap_m256, e1, e2, hx, hx3, wrap_ad, storeX_own o33 (by omega : p ≤ p + 1) (by rw [hS.len]; exact i64 : i < _), esc]; with_reducible first | exact EqP.at_ | exact EqP.cont | exact EqP.hcont | exact EqP.gate | exact EqP.hgate)) | (refine AW_ift ?_ ?_; focus (simp only [Sm]; done)) | (refine AW_iff ?_ ?_; focus (simp only [Sm]; done))))
          refine ⟨hj2, c3.trans (Chg.set (S := (· = p + 1)) rfl) fun _ _ h => h, ?_, stale _ _ rfl⟩
          rw [hown_set l3, W32_put, hsucc]
        · obtain rfl : j = 4 := by have : ¬ (j : Int) < 4 := of_decide_eq_false htj; omega
          subst hu
          exact AW_exit ⟨rfl, c3, o33, stale _ _ rfl⟩
      rintro e fr H3 ⟨rfl, c3, o33, st, rfl⟩
      have esc := i64_succ (show i < 9223372036854775807 by omega)
      (repeat (first | with_reducible (first | refine thenQ_n ?_ | refine blockQ_n ?_ | refine thenQ_e ?_ | refine thenQ_r ?_ | refine blockQ_r ?_ | refine blockQ_s ?_ | refine blockQ_o rfl ?_) | refine AW_skip ?_ | refine AW_seq ?_ | refine AW_ops ?_ | refine AW_blockS ?_ | refine AW_blockR ?_ | refine AW_blockD ?_ | refine AW_blockC ?_ | refine AO_nil ?_ | refine AW_draw ?_ | refine AW_draw3 ?_ | refine AW_blockD3 ?_ | (refine AW_drawA ?_; simp only [atBlk, Sm]) | refine AHd_nil ?_ | with_reducible (first | refine AP_at ?_ | refine AHP_at ?_) | (with_reducible (first | apply AO_any | apply AHd_any | apply AP_go | apply AHP_go); focus (simp only [Sm, wantedA, execA, stepA, List.getElem?_cons_zero, List.getElem?_cons_succ, if_true, if_false, binA, binInt, unA, eqA, Option.map, eq_self, reduceCtorEq, ite_true, ite_false, fitsAll, CK.fits, fillA, AV.cells, writeN, sliceCells, appendA, lenA, i64, loA, hiA, Nat.reduceAdd, Nat.reduceMul, Nat.reduceDiv, Nat.reduceSub, Nat.reduceLeDiff, Nat.reduceLT, Int.reduceLE, Int.reduceLT, foldA, maxA, minA, Int.reduceBEq, Int.reduceBNe, Int.reduceGT, Int.reduceGE, Int.reduceEq, Int.reduceNe, Int.reduceToNat, AOp.stops, ↓want_eq, ↓exec_lenX, ↓exec_storeX, ↓exec_storeN, storeN_one, ↓exec_bsX, ↓exec_sliceX, ↓exec_copyX, ↓exec_appNil, ↓exec_carryX, Nat.sub_zero, rep_len, esc]; with_reducible first | exact EqP.at_ | exact EqP.cont | exact EqP.hcont | exact EqP.gate | exact EqP.hgate)) | (refine AW_ift ?_ ?_; focus (simp only [Sm]; done)) | (refine AW_iff ?_ ?_; focus (simp only [Sm]; done))))
      exact ⟨hi2, c2.trans c3 (fun _ _ h => h), o33, stale _ _ rfl⟩
    · obtain rfl : i = 16 := by have : ¬ (i : Int) < 16 := of_decide_eq_false ht; omega
      exact AW_exit ⟨rfl, c2, o32, stale _ _ rfl⟩
  rintro e fr H3 ⟨rfl, c3, o33, st, rfl⟩
  have hW := tkS_wd (toN bs) 64
  have o33 : hown H3 (p + 1) = some (W32 (tkS (toN bs) 64)) := o33
  generalize tkS (toN bs) 64 = w at *
  have o23 := c3.hown (by omega : ¬ p = p + 1) o2
  (repeat (first | with_reducible (first | refine thenQ_n ?_ | refine blockQ_n ?_ | refine thenQ_e ?_ | refine thenQ_r ?_ | refine blockQ_r ?_ | refine blockQ_s ?_ | refine blockQ_o rfl ?_) | refine AW_skip ?_ | refine AW_seq ?_ | refine AW_ops ?_ | refine AW_blockS ?_ | refine AW_blockR ?_ | refine AW_blockD ?_ | refine AW_blockC ?_ | refine AO_nil ?_ | refine AW_draw ?_ | refine AW_draw3 ?_ | refine AW_blockD3 ?_ | (refine AW_drawA ?_; simp only [atBlk, Sm]) | refine AHd_nil ?_ | with_reducible (first | refine AP_at ?_ | refine AHP_at ?_) | (with_reducible (first | apply AO_any | apply AHd_any | apply AP_go | apply AHP_go); focus (simp only [Sm, wantedA, execA, stepA, List.getElem?_cons_zero, List.getElem?_cons_succ, if_true, if_false, binA, binInt, unA, eqA, Option.map, eq_self, reduceCtorEq, ite_true, ite_false, fitsAll, CK.fits, fillA, AV.cells, writeN, sliceCells, appendA, lenA, i64, loA, hiA, Nat.reduceAdd, Nat.reduceMul, Nat.reduceDiv, Nat.reduceSub, Nat.reduceLeDiff, Nat.reduceLT, Int.reduceLE, Int.reduceLT, foldA, maxA, minA, Int.reduceBEq, Int.reduceBNe, Int.reduceGT, Int.reduceGE, Int.reduceEq, Int.reduceNe, Int.reduceToNat, AOp.stops, ↓want_eq, ↓exec_lenX, ↓exec_storeX, ↓exec_storeN, storeN_one, ↓exec_bsX, ↓exec_sliceX, ↓exec_copyX, ↓exec_appNil, ↓exec_carryX, Nat.sub_zero, rep_len]; with_reducible first | exact EqP.at_ | exact EqP.cont | exact EqP.hcont | exact EqP.gate | exact EqP.hgate)) | (refine AW_ift ?_ ?_; focus (simp only [Sm]; done)) | (refine AW_iff ?_ ?_; focus (simp only [Sm]; done))))
  have hW0 := hW
  refine AW_mid (fun e fr H' => e = .normal ∧ seI p w H3 48 fr H') ?_ ?_
  · refine AW_block (AW_up (seI p w H3) 48 ⟨Chg.refl _ _, o33, stale _ _ rfl⟩ ?_)
    rintro i fr H4 hi ⟨c4, o4, st, rfl⟩
    have hWi := hW.ex i
    have hsucc : exW w (i + 1) = (exW w i).set (16 + i) (nextW (exW w i) (16 + i)) := rfl
    generalize hu : exW w i = u at *
    (repeat (first | with_reducible (first | refine thenQ_n ?_ | refine blockQ_n ?_ | refine thenQ_e ?_ | refine thenQ_r ?_ | refine blockQ_r ?_ | refine blockQ_s ?_ | refine blockQ_o rfl ?_) | refine AW_skip ?_ | refine AW_seq ?_ | refine AW_ops ?_ | refine AW_blockS ?_ | refine AW_blockR ?_ | refine AW_blockD ?_ | refine AW_blockC ?_ | refine AO_nil ?_ | refine AW_draw ?_ | refine AW_draw3 ?_ | refine AW_blockD3 ?_ | (refine AW_drawA ?_; simp only [atBlk, Sm]) | refine AHd_nil ?_ | with_reducible (first | refine AP_at ?_ | refine AHP_at ?_) | (with_reducible (first | apply AO_any | apply AHd_any | apply AP_go | apply AHP_go); focus (simp only [Sm, wantedA, execA, stepA, List.getElem?_cons_zero, List.getElem?_cons_succ, if_true, if_false, binA, binInt, unA, eqA, Option.map, eq_self, reduceCtorEq, ite_true, ite_false, fitsAll, CK.fits, fillA, AV.cells, writeN, sliceCells, appendA, lenA, i64, loA, hiA, Nat.reduceAdd, Nat.reduceMul, Nat.reduceDiv, Nat.reduceSub, Nat.reduceLeDiff, Nat.reduceLT, Int.reduceLE, Int.reduceLT, foldA, maxA, minA, Int.reduceBEq, Int.reduceBNe, Int.reduceGT, Int.reduceGE, Int.reduceEq, Int.reduceNe, Int.reduceToNat, AOp.stops, ↓want_eq, ↓exec_lenX, ↓exec_storeX, ↓exec_storeN, storeN_one, ↓exec_bsX, ↓exec_sliceX, ↓exec_copyX, ↓exec_appNil, ↓exec_carryX, Nat.sub_zero, rep_len]; with_reducible first | exact EqP.at_ | exact EqP.cont | exact EqP.hcont | exact EqP.gate | exact EqP.hgate)) | (refine AW_ift ?_ ?_; focus (simp only [Sm]; done)) | (refine AW_iff ?_ ?_; focus (simp only [Sm]; done))))
    refine AW_cond rfl ?_ ?_ <;> intro ht
    · have ht : ((16 + i : Nat) : Int) < 64 := of_decide_eq_true ht
      have hi2 : i < 48 := by omega
      have e1 : IntKind.i64.wrap (((16 + i : Nat) : Int) - 15) = ((16 + i - 15 : Nat) : Int) := by rw [i64_of (by omega) (by omega)]; omega
      have e2 : IntKind.i64.wrap (((16 + i : Nat) : Int) - 2) = ((16 + i - 2 : Nat) : Int) := by rw [i64_of (by omega) (by omega)]; omega
      have e3 : IntKind.i64.wrap (((16 + i : Nat) : Int) - 16) = ((16 + i - 16 : Nat) : Int) := by rw [i64_of (by omega) (by omega)]; omega
      have e4 : IntKind.i64.wrap (((16 + i : Nat) : Int) - 7) = ((16 + i - 7 : Nat) : Int) := by rw [i64_of (by omega) (by omega)]; omega
      have b1 : ((16 + i - 15 : Nat) : Int) < 64 := by omega
      have b2 : ((16 + i - 2 : Nat) : Int) < 64 := by omega
      have b3 : ((16 + i - 16 : Nat) : Int) < 64 := by omega
      have b4 : ((16 + i - 7 : Nat) : Int) < 64 := by omega
      have g1 := hWi.get (i := 16 + i - 15) (by omega)
      have g2 := hWi.get (i := 16 + i - 2) (by omega)
      have g3 := hWi.get (i := 16 + i - 16) (by omega)
      have g4 := hWi.get (i := 16 + i - 7) (by omega)
      have w1 := hWi.2 (16 + i - 15)
      have w2 := hWi.2 (16 + i - 2)
      have w3 := hWi.2 (16 + i - 16)
      have w4 := hWi.2 (16 + i - 7)
      rw [nextW_alt] at hsucc
      generalize 16 + i - 15 = j1 at *
      generalize 16 + i - 2 = j2 at *
      generalize 16 + i - 16 = j3 at *
      generalize 16 + i - 7 = j4 at *
      generalize u.getD j1 0 = v1 at *
      generalize u.getD j2 0 = v2 at *
      generalize u.getD j3 0 = v3 at *
      generalize u.getD j4 0 = v4 at *
      have hc4 := hcells_own o4
      have l4 := hown_lt o4
      have s0 := sg0_lt w1
      have s1 := sg1_lt w2
      have r7 := rt_lt (n := 7) (by omega) w1
      have r18 := rt_lt (n := 18) (by omega) w1
      have r17 := rt_lt (n := 17) (by omega) w2
      have r19 := rt_lt (n := 19) (by omega) w2
      have x1 := xo32 r7 r18
      have x2 : bitsA .xor .u32 ((rt 7 v1 ^^^ rt 18 v1 : Nat) : Int) ((v1 / 8 : Nat) : Int) = ((sg0 v1 : Nat) : Int) := xo32 (xo_lt r7 r18) (by omega)
      have x3 := xo32 r17 r19
      have x4 : bitsA .xor .u32 ((rt 17 v2 ^^^ rt 19 v2 : Nat) : Int) ((v2 / 1024 : Nat) : Int) = ((sg1 v2 : Nat) : Int) := xo32 (xo_lt r17 r19) (by omega)
      have v1d8 : v1 / 2 ^ 3 = v1 / 8 := rfl
      have v2d10 : v2 / 2 ^ 10 = v2 / 1024 := rfl
      (repeat (first | with_reducible (first | refine thenQ_n ?_ | refine blockQ_n ?_ | refine thenQ_e ?_ | refine thenQ_r ?_ | refine blockQ_r ?_ | refine blockQ_s ?_ | refine blockQ_o rfl ?_) | refine AW_skip ?_ | refine AW_seq ?_ | refine AW_ops ?_ | refine AW_blockS ?_ | refine AW_blockR ?_ | refine AW_blockD ?_ | refine AW_blockC ?_ | refine AO_nil ?_ | refine AW_draw ?_ | refine AW_draw3 ?_ | refine AW_blockD3 ?_ | (refine AW_drawA ?_; simp only [atBlk, Sm]) | refine AHd_nil ?_ | with_reducible (first | refine AP_at ?_ | refine AHP_at ?_) | (with_reducible (first | apply AO_any | apply AHd_any | apply AP_go | apply AHP_go); focus (simp only [Sm, wantedA, execA, stepA, List.getElem?_cons_zero, List.getElem?_cons_succ, if_true, if_false, binA, binInt, unA, eqA, Option.map, eq_self, reduceCtorEq, ite_true, ite_false, fitsAll, CK.fits, fillA, AV.cells, writeN, sliceCells, appendA, lenA, i64, loA, hiA, Nat.reduceAdd, Nat.reduceMul, Nat.reduceDiv, Nat.reduceSub, Nat.reduceLeDiff, Nat.reduceLT, Int.reduceLE, Int.reduceLT, foldA, maxA, minA, Int.reduceBEq, Int.reduceBNe, Int.reduceGT, Int.reduceGE, Int.reduceEq, Int.reduceNe, Int.reduceToNat, AOp.stops, ↓want_eq, ↓exec_lenX, ↓exec_storeX, ↓exec_storeN, storeN_one, ↓exec_bsX, ↓exec_sliceX, ↓exec_copyX, ↓exec_appNil, ↓exec_carryX, Nat.sub_zero, rep_len, hc4, e1, b1, g1, Nat.zero_add]; with_reducible first | exact EqP.at_ | exact EqP.cont | exact EqP.hcont | exact EqP.gate | exact EqP.hgate)) | (refine AW_ift ?_ ?_; focus (simp only [Sm]; done)) | (refine AW_iff ?_ ?_; focus (simp only [Sm]; done))))
      refine AHd_call rfl (AC_refRight H4 7 v1 (by omega) (by omega) w1) ?_
      rintro _ _ ⟨rfl, rfl⟩ -
      (repeat (first | with_reducible (first | refine thenQ_n ?_ | refine blockQ_n ?_ | refine thenQ_e ?_ | refine thenQ_r ?_ | refine blockQ_r ?_ | refine blockQ_s ?_ | refine blockQ_o rfl ?_) | refine AW_skip ?_ | refine AW_seq ?_ | refine AW_ops ?_ | refine AW_blockS ?_ | refine AW_blockR ?_ | refine AW_blockD ?_ | refine AW_blockC ?_ | refine AO_nil ?_ | refine AW_draw ?_ | refine AW_draw3 ?_ | refine AW_blockD3 ?_ | (refine AW_drawA ?_; simp only [atBlk, Sm]) | refine AHd_nil ?_ | with_reducible (first | refine AP_at ?_ | refine AHP_at ?_) | (with_reducible (first | apply AO_any | apply AHd_any | apply AP_go | apply AHP_go); focus (simp only [Sm, wantedA, execA, stepA, List.getElem?_cons_zero, List.getElem?_cons_succ, if_true, if_false, binA, binInt, unA, eqA, Option.map, eq_self, reduceCtorEq, ite_true, ite_false, fitsAll, CK.fits, fillA, AV.cells, writeN, sliceCells, appendA, lenA, i64, loA, hiA, Nat.reduceAdd, Nat.reduceMul, Nat.reduceDiv, Nat.reduceSub, Nat.reduceLeDiff, Nat.reduceLT, Int.reduceLE, Int.reduceLT, foldA, maxA, minA, Int.reduceBEq, Int.reduceBNe, Int.reduceGT, Int.reduceGE, Int.reduceEq, Int.reduceNe, Int.reduceToNat, AOp.stops, ↓want_eq, ↓exec_lenX, ↓exec_storeX, ↓exec_storeN, storeN_one, ↓exec_bsX, ↓exec_sliceX, ↓exec_copyX, ↓exec_appNil, ↓exec_carryX, Nat.sub_zero, rep_len, hc4, e1, b1, g1, Nat.zero_add]; with_reducible first | exact EqP.at_ | exact EqP.cont | exact EqP.hcont | exact EqP.gate | exact EqP.hgate)) | (refine AW_ift ?_ ?_; focus (simp only [Sm]; done)) | (refine AW_iff ?_ ?_; focus (simp only [Sm]; done))))
      refine AHd_call rfl (AC_refRight H4 18 v1 (by omega) (by omega) w1) ?_
      rintro _ _ ⟨rfl, rfl⟩ -
      (repeat (first | with_reducible (first | refine thenQ_n ?_ | refine blockQ_n ?_ | refine thenQ_e ?_ | refine thenQ_r ?_ | refine blockQ_r ?_ | refine blockQ_s ?_ | refine blockQ_o rfl ?_) | refine AW_skip ?_ | refine AW_seq ?_ | refine AW_ops ?_ | refine AW_blockS ?_ | refine AW_blockR ?_ | refine AW_blockD ?_ | refine AW_blockC ?_ | refine AO_nil ?_ | refine AW_draw ?_ | refine AW_draw3 ?_ | refine AW_blockD3 ?_ | (refine AW_drawA ?_; simp only [atBlk, Sm]) | refine AHd_nil ?_ | with_reducible (first | refine AP_at ?_ | refine AHP_at ?_) | (with_reducible (first | apply AO_any | apply AHd_any | apply AP_go | apply AHP_go); focus (simp only [Sm, wantedA, execA, stepA, List.getElem?_cons_zero, List.getElem?_cons_succ, if_true, if_false, binA, binInt, unA, eqA, Option.map, eq_self, reduceCtorEq, ite_true, ite_false, fitsAll, CK.fits, fillA, AV.cells, writeN, sliceCells, appendA, lenA, i64, loA, hiA, Nat.reduceAdd, Nat.reduceMul, Nat.reduceDiv, Nat.reduceSub, Nat.reduceLeDiff, Nat.reduceLT, Int.reduceLE, Int.reduceLT, foldA, maxA, minA, Int.reduceBEq, Int.reduceBNe, Int.reduceGT, Int.reduceGE, Int.reduceEq, Int.reduceNe, Int.reduceToNat, AOp.stops, ↓want_eq, ↓exec_lenX, ↓exec_storeX, ↓exec_storeN, storeN_one, ↓exec_bsX, ↓exec_sliceX, ↓exec_copyX, ↓exec_appNil, ↓exec_carryX, Nat.sub_zero, rep_len, x1, hc4, e1, b1, g1, Nat.zero_add]; with_reducible first | exact EqP.at_ | exact EqP.cont | exact EqP.hcont | exact EqP.gate | exact EqP.hgate)) | (refine AW_ift ?_ ?_; focus (simp only [Sm]; done)) | (refine AW_iff ?_ ?_; focus (simp only [Sm]; done))))
      refine AHd_call rfl (AC_refShift H4 3 v1 (by omega) w1) ?_
      rintro _ _ ⟨rfl, rfl⟩ -
      rw [v1d8]
      (repeat (first | with_reducible (first | refine thenQ_n ?_ | refine blockQ_n ?_ | refine thenQ_e ?_ | refine thenQ_r ?_ | refine blockQ_r ?_ | refine blockQ_s ?_ | refine blockQ_o rfl ?_) | refine AW_skip ?_ | refine AW_seq ?_ | refine AW_ops ?_ | refine AW_blockS ?_ | refine AW_blockR ?_ | refine AW_blockD ?_ | refine AW_blockC ?_ | refine AO_nil ?_ | refine AW_draw ?_ | refine AW_draw3 ?_ | refine AW_blockD3 ?_ | (refine AW_drawA ?_; simp only [atBlk, Sm]) | refine AHd_nil ?_ | with_reducible (first | refine AP_at ?_ | refine AHP_at ?_) | (with_reducible (first | apply AO_any | apply AHd_any | apply AP_go | apply AHP_go); focus (simp only [Sm, wantedA, execA, stepA, List.getElem?_cons_zero, List.getElem?_cons_succ, if_true, if_false, binA, binInt, unA, eqA, Option.map, eq_self, reduceCtorEq, ite_true, ite_false, fitsAll, CK.fits, fillA, AV.cells, writeN, sliceCells, appendA, lenA, i64, loA, hiA, Nat.reduceAdd, Nat.reduceMul, Nat.reduceDiv, Nat.reduceSub, Nat.reduceLeDiff, Nat.reduceLT, Int.reduceLE, Int.reduceLT, foldA, maxA, minA, Int.reduceBEq, Int.reduceBNe, Int.reduceGT, Int.reduceGE, Int.reduceEq, Int.reduceNe, Int.reduceToNat, AOp.stops, ↓want_eq, ↓exec_lenX, ↓exec_storeX, ↓exec_storeN, storeN_one, ↓exec_bsX, ↓exec_sliceX, ↓exec_copyX, ↓exec_appNil, ↓exec_carryX, Nat.sub_zero, rep_len, x2, hc4, e2, b2, g2, Nat.zero_add]; with_reducible first | exact EqP.at_ | exact EqP.cont | exact EqP.hcont | exact EqP.gate | exact EqP.hgate)) | (refine AW_ift ?_ ?_; focus (simp only [Sm]; done)) | (refine AW_iff ?_ ?_; focus (simp only [Sm]; done))))
      refine AHd_call rfl (AC_refRight H4 17 v2 (by omega) (by omega) w2) ?_
      rintro _ _ ⟨rfl, rfl⟩ -
      (repeat (first | with_reducible (first | refine thenQ_n ?_ | refine blockQ_n ?_ | refine thenQ_e ?_ | refine thenQ_r ?_ | refine blockQ_r ?_ | refine blockQ_s ?_ | refine blockQ_o rfl ?_) | refine AW_skip ?_ | refine AW_seq ?_ | refine AW_ops ?_ | refine AW_blockS ?_ | refine AW_blockR ?_ | refine AW_blockD ?_ | refine AW_blockC ?_ | refine AO_nil ?_ | refine AW_draw ?_ | refine AW_draw3 ?_ | refine AW_blockD3 ?_ | (refine AW_drawA ?_; simp only [atBlk, Sm]) | refine AHd_nil ?_ | with_reducible (first | refine AP_at ?_ | refine AHP_at ?_) | (with_reducible (first | apply AO_any | apply AHd_any | apply AP_go | apply AHP_go); focus (simp only [Sm, wantedA, execA, stepA, List.getElem?_cons_zero, List.getElem?_cons_succ, if_true, if_false, binA, binInt, unA, eqA, Option.map, eq_self, reduceCtorEq, ite_true, ite_false, fitsAll, CK.fits, fillA, AV.cells, writeN, sliceCells, appendA, lenA, i64, loA, hiA, Nat.reduceAdd, Nat.reduceMul, Nat.reduceDiv, Nat.reduceSub, Nat.reduceLeDiff, Nat.reduceLT, Int.reduceLE, Int.reduceLT, foldA, maxA, minA, Int.reduceBEq, Int.reduceBNe, Int.reduceGT, Int.reduceGE, Int.reduceEq, Int.reduceNe, Int.reduceToNat, AOp.stops, ↓want_eq, ↓exec_lenX, ↓exec_storeX, ↓exec_storeN, storeN_one, ↓exec_bsX, ↓exec_sliceX, ↓exec_copyX, ↓exec_appNil, ↓exec_carryX, Nat.sub_zero, rep_len, hc4, e2, b2, g2, Nat.zero_add]; with_reducible first | exact EqP.at_ | exact EqP.cont | exact EqP.hcont | exact EqP.gate | exact EqP.hgate)) | (refine AW_ift ?_ ?_; focus (simp only [Sm]; done)) | (refine AW_iff ?_ ?_; focus (simp only [Sm]; done))))
      refine AHd_call rfl (AC_refRight H4 19 v2 (by omega) (by omega) w2) ?_
      rintro _ _ ⟨rfl, rfl⟩ -
      (repeat (first | with_reducible (first | refine thenQ_n ?_ | refine blockQ_n ?_ | refine thenQ_e ?_ | refine thenQ_r ?_ | refine blockQ_r ?_ | refine blockQ_s ?_ | refine blockQ_o rfl ?_) | refine AW_skip ?_ | refine AW_seq ?_ | refine AW_ops ?_ | refine AW_blockS ?_ | refine AW_blockR ?_ | refine AW_blockD ?_ | refine AW_blockC ?_ | refine AO_nil ?_ | refine AW_draw ?_ | refine AW_draw3 ?_ | refine AW_blockD3 ?_ | (refine AW_drawA ?_; simp only [atBlk, Sm]) | refine AHd_nil ?_ | with_reducible (first | refine AP_at ?_ | refine AHP_at ?_) | (with_reducible (first | apply AO_any | apply AHd_any | apply AP_go | apply AHP_go); focus (simp only [Sm, wantedA, execA, stepA, List.getElem?_cons_zero, List.getElem?_cons_succ, if_true, if_false, binA, binInt, unA, eqA, Option.map, eq_self, reduceCtorEq, ite_true, ite_false, fitsAll, CK.fits, fillA, AV.cells, writeN, sliceCells, appendA, lenA, i64, loA, hiA, Nat.reduceAdd, Nat.reduceMul, Nat.reduceDiv, Nat.reduceSub, Nat.reduceLeDiff, Nat.reduceLT, Int.reduceLE, Int.reduceLT, foldA, maxA, minA, Int.reduceBEq, Int.reduceBNe, Int.reduceGT, Int.reduceGE, Int.reduceEq, Int.reduceNe, Int.reduceToNat, AOp.stops, ↓want_eq, ↓exec_lenX, ↓exec_storeX, ↓exec_storeN, storeN_one, ↓exec_bsX, ↓exec_sliceX, ↓exec_copyX, ↓exec_appNil, ↓exec_carryX, Nat.sub_zero, rep_len, x3, hc4, e2, b2, g2, Nat.zero_add]; with_reducible first | exact EqP.at_ | exact EqP.cont | exact EqP.hcont | exact EqP.gate | exact EqP.hgate)) | (refine AW_ift ?_ ?_; focus (simp only [Sm]; done)) | (refine AW_iff ?_ ?_; focus (simp only [Sm]; done))))
      refine AHd_call rfl (AC_refShift H4 10 v2 (by omega) w2) ?_
      rintro _ _ ⟨rfl, rfl⟩ -
      rw [v2d10]
      have bi : 16 + i < 64 := by omega
      have esc : IntKind.i64.wrap (((16 + i : Nat) : Int) + 1) = ((16 + (i + 1) : Nat) : Int) := by rw [i64_of (by omega) (by omega)]; omega
      (repeat (first | with_reducible (first | refine thenQ_n ?_ | refine blockQ_n ?_ | refine thenQ_e ?_ | refine thenQ_r ?_ | refine blockQ_r ?_ | refine blockQ_s ?_ | refine blockQ_o rfl ?_) | refine AW_skip ?_ | refine AW_seq ?_ | refine AW_ops ?_ | refine AW_blockS ?_ | refine AW_blockR ?_ | refine AW_blockD ?_ | refine AW_blockC ?_ | refine AO_nil ?_ | refine AW_draw ?_ | refine AW_draw3 ?_ | refine AW_blockD3 ?_ | (refine AW_drawA ?_; simp only [atBlk, Sm]) | refine AHd_nil ?_ | with_reducible (first | refine AP_at ?_ | refine AHP_at ?_) | (with_reducible (first | apply AO_any | apply AHd_any | apply AP_go | apply AHP_go); focus (simp only [Sm, wantedA, execA, stepA, List.getElem?_cons_zero, List.getElem?_cons_succ, if_true, if_false, binA, binInt, unA, eqA, Option.map, eq_self, reduceCtorEq, ite_true, ite_false, fitsAll, CK.fits, fillA, AV.cells, writeN, sliceCells, appendA, lenA, i64, loA, hiA, Nat.reduceAdd, Nat.reduceMul, Nat.reduceDiv, Nat.reduceSub, Nat.reduceLeDiff, Nat.reduceLT, Int.reduceLE, Int.reduceLT, foldA, maxA, minA, Int.reduceBEq, Int.reduceBNe, Int.reduceGT, Int.reduceGE, Int.reduceEq, Int.reduceNe, Int.reduceToNat, AOp.stops, ↓want_eq, ↓exec_lenX, ↓exec_storeX, ↓exec_storeN, storeN_one, ↓exec_bsX, ↓exec_sliceX, ↓exec_copyX, ↓exec_appNil, ↓exec_carryX, Nat.sub_zero, rep_len, x4, hc4, e3, e4, b3, b4, g3, g4, Nat.zero_add, wrap_ad, ht, storeX_own o4 (by omega : p ≤ p + 1) (by rw [hWi.len]; exact bi : 16 + i < _), esc]; with_reducible first | exact EqP.at_ | exact EqP.cont | exact EqP.hcont | exact EqP.gate | exact EqP.hgate)) | (refine AW_ift ?_ ?_; focus (simp only [Sm]; done)) | (refine AW_iff ?_ ?_; focus (simp only [Sm]; done))))
      refine ⟨hi2, c4.trans (Chg.set (S := (· = p + 1)) rfl) fun _ _ h => h, ?_, stale _ _ rfl⟩
      rw [hown_set (hown_lt o4), W32_put, hsucc]
    · obtain rfl : i = 48 := by have : ¬ ((16 + i : Nat) : Int) < 64 := of_decide_eq_false ht; omega
      subst hu
      exact AW_exit ⟨rfl, c4, o4, stale _ _ rfl⟩
  rintro e fr H4 ⟨rfl, c4, o4, st, rfl⟩
  have o24 := c4.hown (by omega : ¬ p = p + 1) o23
  have hWe := hW.ex 48
  generalize exW w 48 = e at *
  have r4 : readN H4 (p + 1) 0 64 = some (W32 e) := by have := readN_all (hcells_own o4); rw [hWe.len] at this; exact this
  obtain ⟨H5, s5, o5, c5, l5⟩ := storeN_ex (n := 64) o24 (Nat.le_refl p) rep_len (W32 e) hWe.len
  have r5 : readN H5 p 0 64 = some (W32 e) := by have := readN_all (hcells_own o5); rw [hWe.len] at this; exact this
  (repeat (first | with_reducible (first | refine thenQ_n ?_ | refine blockQ_n ?_ | refine thenQ_e ?_ | refine thenQ_r ?_ | refine blockQ_r ?_ | refine blockQ_s ?_ | refine blockQ_o rfl ?_) | refine AW_skip ?_ | refine AW_seq ?_ | refine AW_ops ?_ | refine AW_blockS ?_ | refine AW_blockR ?_ | refine AW_blockD ?_ | refine AW_blockC ?_ | refine AO_nil ?_ | refine AW_draw ?_ | refine AW_draw3 ?_ | refine AW_blockD3 ?_ | (refine AW_drawA ?_; simp only [atBlk, Sm]) | refine AHd_nil ?_ | with_reducible (first | refine AP_at ?_ | refine AHP_at ?_) | (with_reducible (first | apply AO_any | apply AHd_any | apply AP_go | apply AHP_go); focus (simp only [Sm, wantedA, execA, stepA, List.getElem?_cons_zero, List.getElem?_cons_succ, if_true, if_false, binA, binInt, unA, eqA, Option.map, eq_self, reduceCtorEq, ite_true, ite_false, fitsAll, CK.fits, fillA, AV.cells, writeN, sliceCells, appendA, lenA, i64, loA, hiA, Nat.reduceAdd, Nat.reduceMul, Nat.reduceDiv, Nat.reduceSub, Nat.reduceLeDiff, Nat.reduceLT, Int.reduceLE, Int.reduceLT, foldA, maxA, minA, Int.reduceBEq, Int.reduceBNe, Int.reduceGT, Int.reduceGE, Int.reduceEq, Int.reduceNe, Int.reduceToNat, AOp.stops, ↓want_eq, ↓exec_lenX, ↓exec_storeX, ↓exec_storeN, storeN_one, ↓exec_bsX, ↓exec_sliceX, ↓exec_copyX, ↓exec_appNil, ↓exec_carryX, Nat.sub_zero, rep_len, ↓r4, s5]; with_reducible first | exact EqP.at_ | exact EqP.cont | exact EqP.hcont | exact EqP.gate | exact EqP.hgate)) | (refine AW_ift ?_ ?_; focus (simp only [Sm]; done)) | (refine AW_iff ?_ ?_; focus (simp only [Sm]; done))))
  exact AW_ret ⟨_, by simp only [outA, resA, ressA, AV.tv, Option.map_some, Sm, wantedA, execA, stepA, List.getElem?_cons_zero, List.getElem?_cons_succ, if_true, if_false, binA, binInt, unA, eqA, Option.map, eq_self, reduceCtorEq, ite_true, ite_false, fitsAll, CK.fits, fillA, AV.cells, writeN, sliceCells, appendA, lenA, i64, loA, hiA, Nat.reduceAdd, Nat.reduceMul, Nat.reduceDiv, Nat.reduceSub, Nat.reduceLeDiff, Nat.reduceLT, Int.reduceLE, Int.reduceLT, foldA, maxA, minA, r5] <;> with_reducible rfl, rfl⟩
end PK

/- SHA-256, the document's: Compress. -/
namespace PK
open Go PAbs
set_option linter.unusedSimpArgs false
set_option linter.unusedVariables false
set_option maxRecDepth 100000
set_option maxHeartbeats 4000000

def shU (s : List Nat) : Nat → List Nat
  | 0 => s
  | j + 1 => (shU s j).set (7 - j) ((shU s j).getD (6 - j) 0)
theorem shU_wd {s : List Nat} (h : Wd 8 s) : ∀ j, Wd 8 (shU s j)
  | 0 => h
  | j + 1 => (shU_wd h j).set ((shU_wd h j).2 _)
theorem addW_comm (s t : List Nat) : addW s t = addW t s := by
  simp only [addW]; rw [List.zipWith_comm]; congr 1; funext a b; simp only [ad, Nat.add_comm]
theorem Wd.app {n m : Nat} {l k : List Nat} (h : Wd n l) (h2 : Wd m k) : Wd (n + m) (l ++ k) := by
  refine ⟨by rw [List.length_append, h.1, h2.1], fun i => ?_⟩
  simp only [List.getD_eq_getElem?_getD, List.getElem?_append]
  split
  · have := h.2 i; rwa [List.getD_eq_getElem?_getD] at this
  · have := h2.2 (i - l.length); rwa [List.getD_eq_getElem?_getD] at this
theorem sub32 {e : Nat} (h : e < 4294967296) : IntKind.u32.wrap (4294967295 - (e : Int)) = ((4294967295 - e : Nat) : Int) := by rw [wrap32]; omega


def rcI (p3 p7 : Nat) (ks ws s : List Nat) (H0 : AHeap) (i : Nat) (fr : AFrame) (H : AHeap) : Prop := Chg (· = p7 + 1) H0 H ∧ hown H (p7 + 1) = some (W32 (rnds ks ws s i)) ∧ (∃ s : Nat → AV, fr = [s 0, s 1, s 2, .c (.ptr p3 0), .c (.ptr (p3 + 1) 0), s 5, .c (.ptr (p3 + 2) 0), .c (.ptr p7 0), .c (.ptr (p7 + 1) 0), .c (.int .i64 (i : Int)), s 10, s 11, s 12, s 13, s 14, s 15, s 16, s 17, s 18, s 19, s 20, s 21, s 22, s 23, s 24, s 25, s 26, s 27, s 28, s 29, s 30, s 31, s 32, s 33, s 34, s 35, s 36, s 37, s 38, s 39, s 40, s 41, s 42, s 43, s 44, s 45, s 46, s 47, s 48, s 49, s 50, s 51, s 52, s 53, s 54, s 55, s 56, s 57, s 58, s 59, s 60, s 61, s 62, s 63, s 64, s 65, s 66, s 67, s 68, s 69, s 70, s 71, s 72, s 73, s 74, s 75, s 76, s 77, s 78, s 79, s 80, s 81, s 82, s 83, s 84, s 85, s 86, s 87, s 88, s 89, s 90, s 91, s 92, s 93, s 94, s 95, s 96, s 97, s 98, s 99, s 100, s 101, s 102, s 103, s 104, s 105, s 106, s 107, s 108, s 109, s 110, s 111, s 112, s 113, s 114, s 115, s 116, s 117, s 118])

def rdI (p3 p7 i t1 t2 : Nat) (s : List Nat) (H0 : AHeap) (j : Nat) (fr : AFrame) (H : AHeap) : Prop := Chg (· = p7 + 1) H0 H ∧ hown H (p7 + 1) = some (W32 (shU s j)) ∧ (∃ s : Nat → AV, fr = [s 0, s 1, s 2, .c (.ptr p3 0), .c (.ptr (p3 + 1) 0), s 5, .c (.ptr (p3 + 2) 0), .c (.ptr p7 0), .c (.ptr (p7 + 1) 0), .c (.int .i64 (i : Int)), s 10, s 11, .c (.int .u32 (t1 : Int)), s 13, s 14, .c (.int .u32 (t2 : Int)), .c (.int .i64 ((7 - j : Nat) : Int)), s 17, s 18, s 19, s 20, s 21, s 22, s 23, s 24, s 25, s 26, s 27, s 28, s 29, s 30, s 31, s 32, s 33, s 34, s 35, s 36, s 37, s 38, s 39, s 40, s 41, s 42, s 43, s 44, s 45, s 46, s 47, s 48, s 49, s 50, s 51, s 52, s 53, s 54, s 55, s 56, s 57, s 58, s 59, s 60, s 61, s 62, s 63, s 64, s 65, s 66, s 67, s 68, s 69, s 70, s 71, s 72, s 73, s 74, s 75, s 76, s 77, s 78, s 79, s 80, s 81, s 82, s 83, s 84, s 85, s 86, s 87, s 88, s 89, s 90, s 91, s 92, s 93, s 94, s 95, s 96, s 97, s 98, s 99, s 100, s 101, s 102, s 103, s 104, s 105, s 106, s 107, s 108, s 109, s 110, s 111, s 112, s 113, s 114, s 115, s 116, s 117, s 118])

def reI (p3 p7 : Nat) (us s : List Nat) (H0 : AHeap) (i : Nat) (fr : AFrame) (H : AHeap) : Prop := Chg (· = p7 + 1) H0 H ∧ hown H (p7 + 1) = some (W32 (addTo us s i)) ∧ (∃ s : Nat → AV, fr = [s 0, s 1, s 2, s 3, .c (.ptr (p3 + 1) 0), s 5, .c (.ptr (p3 + 2) 0), s 7, .c (.ptr (p7 + 1) 0), s 9, s 10, s 11, s 12, s 13, s 14, s 15, s 16, .c (.int .i64 (i : Int)), s 18, s 19, s 20, s 21, s 22, s 23, s 24, s 25, s 26, s 27, s 28, s 29, s 30, s 31, s 32, s 33, s 34, s 35, s 36, s 37, s 38, s 39, s 40, s 41, s 42, s 43, s 44, s 45, s 46, s 47, s 48, s 49, s 50, s 51, s 52, s 53, s 54, s 55, s 56, s 57, s 58, s 59, s 60, s 61, s 62, s 63, s 64, s 65, s 66, s 67, s 68, s 69, s 70, s 71, s 72, s 73, s 74, s 75, s 76, s 77, s 78, s 79, s 80, s 81, s 82, s 83, s 84, s 85, s 86, s 87, s 88, s 89, s 90, s 91, s 92, s 93, s 94, s 95, s 96, s 97, s 98, s 99, s 100, s 101, s 102, s 103, s 104, s 105, s 106, s 107, s 108, s 109, s 110, s 111, s 112, s 113, s 114, s 115, s 116, s 117, s 118])

theorem AC_refCompress (H : AHeap) (s : List Nat) (bs : List UInt8) (hs : Wd 8 s) (hl : bs.length = 64) :
    AC A H.length F_pestleref05_Compress [.agg (W32 (Ks ++ Is)), .agg (W32 s), .c (.str bs)] H (fun v H' => v = .agg (W32 (compO s (toN bs)))) := by
  have hcomp : compO s (toN bs) = addW s (rnds Ks (exW (wide (tk 4 (3 - ·) (toN bs) (toN bs).length)) 48) s 64) := rfl
  rw [hcomp]; clear hcomp
  have hwe : Wd 64 (exW (wide (tk 4 (3 - ·) (toN bs) (toN bs).length)) 48) := (tk16 (by rw [toN_length]; exact hl)).wide.ex 48
  have hK := Ks_wd
  have hkn : ∀ i, i < 64 → (W32 (Ks ++ Is))[i]? = some (.int .u32 ((Ks.getD i 0 : Nat) : Int)) := fun i hi => by
    rw [W32_app, List.getElem?_append_left (by rw [hK.len]; exact hi)]; exact hK.get hi
  have hknl : (W32 (Ks ++ Is)).length = 72 := by rw [W32_length, List.length_append, hK.1, Is_wd.1]
  refine AC_enter t_pestleref05_Compress ?_; simp only [c_pestleref05_Compress, enterA, List.replicate, List.length_cons, List.length_nil, Nat.reduceAdd, Nat.reduceSub, List.cons_append, List.nil_append]
  generalize W32 (Ks ++ Is) = kn at *
  generalize Ks = ks at *
  (repeat (first | with_reducible (first | refine thenQ_n ?_ | refine blockQ_n ?_ | refine thenQ_e ?_ | refine thenQ_r ?_ | refine blockQ_r ?_ | refine blockQ_s ?_ | refine blockQ_o rfl ?_) | refine AW_skip ?_ | refine AW_seq ?_ | refine AW_ops ?_ | refine AW_blockS ?_ | refine AW_blockR ?_ | refine AW_blockD ?_ | refine AW_blockC ?_ | refine AO_nil ?_ | refine AW_draw ?_ | refine AW_draw3 ?_ | refine AW_blockD3 ?_ | (refine AW_drawA ?_; simp only [atBlk, Sm]) | refine AHd_nil ?_ | with_reducible (first | refine AP_at ?_ | refine AHP_at ?_) | (with_reducible (first | apply AO_any | apply AHd_any | apply AP_go | apply AHP_go); focus (simp only [Sm, wantedA, execA, stepA, List.getElem?_cons_zero, List.getElem?_cons_succ, if_true, if_false, binA, binInt, unA, eqA, Option.map, eq_self, reduceCtorEq, ite_true, ite_false, fitsAll, CK.fits, fillA, AV.cells, writeN, sliceCells, appendA, lenA, i64, loA, hiA, Nat.reduceAdd, Nat.reduceMul, Nat.reduceDiv, Nat.reduceSub, Nat.reduceLeDiff, Nat.reduceLT, Int.reduceLE, Int.reduceLT, foldA, maxA, minA, Int.reduceBEq, Int.reduceBNe, Int.reduceGT, Int.reduceGE, Int.reduceEq, Int.reduceNe, Int.reduceToNat, AOp.stops, ↓want_eq, ↓exec_lenX, ↓exec_storeX, ↓exec_storeN, storeN_one, ↓exec_bsX, ↓exec_sliceX, ↓exec_copyX, ↓exec_appNil, ↓exec_carryX, Nat.sub_zero, rep_len]; with_reducible first | exact EqP.at_ | exact EqP.cont | exact EqP.hcont | exact EqP.gate | exact EqP.hgate)) | (refine AW_ift ?_ ?_; focus (simp only [Sm]; done)) | (refine AW_iff ?_ ?_; focus (simp only [Sm]; done))))
  have hp := hs.len
  obtain ⟨H1, e1, o3, o4, o6, l1⟩ : ∃ H1, H1 = H ++ [Blk.own kn] ++ [Blk.own (W32 s)] ++ [Blk.own (rep 8 (.int .u32 0))] ∧ hown H1 H.length = some kn ∧ hown H1 (H.length + 1) = some (W32 s) ∧ hown H1 (H.length + 2) = some (rep 8 (.int .u32 0)) ∧ H1.length = H.length + 3 := by
    refine ⟨_, rfl, hown_app (hown_app hown_last), ?_, ?_, by simp⟩
    · have := hown_last (H := H ++ [Blk.own kn]) (cs := W32 s); simp only [List.length_append, List.length_cons, List.length_nil] at this; exact hown_app this
    · have := hown_last (H := H ++ [Blk.own kn] ++ [Blk.own (W32 s)]) (cs := rep 8 (.int .u32 0)); simp only [List.length_append, List.length_cons, List.length_nil] at this; exact this
  rw [← e1]
  clear e1
  refine AO_call rfl (((AC_refSpread H1 bs hl).kept (Nat.le_refl _)).floor (by omega)) ?_
  rintro _ H2 ⟨rfl, k2⟩
  generalize exW (wide (tk 4 (3 - ·) (toN bs) (toN bs).length)) 48 = ws at *
  have l2 := k2.1
  have o32 := (Chg.of_kept k2).hown (fun h => h) o3
  have o42 := (Chg.of_kept k2).hown (fun h => h) o4
  have o62 := (Chg.of_kept k2).hown (fun h => h) o6
  clear o3 o4 o6 k2
  have o7 : hown (H2 ++ [Blk.own (rep 64 (.int .u32 0))]) H2.length = some (rep 64 (.int .u32 0)) := hown_last
  obtain ⟨H3, s3, u7, c3, l3⟩ := storeN_ex (n := 64) o7 (by omega : H.length ≤ H2.length) rep_len (W32 ws) hwe.len
  have l3 : H3.length = H2.length + 1 := by rw [l3]; simp
  have u3 := c3.hown (by omega : ¬ H.length = H2.length) (hown_app o32)
  have u4 := c3.hown (by omega : ¬ H.length + 1 = H2.length) (hown_app o42)
  have u6 := c3.hown (by omega : ¬ H.length + 2 = H2.length) (hown_app o62)
  have r4 : readN H3 (H.length + 1) 0 8 = some (W32 s) := by have := readN_all (hcells_own u4); rw [hp] at this; exact this
  have o8 : hown (H3 ++ [Blk.own (rep 8 (.int .u32 0))]) H3.length = some (rep 8 (.int .u32 0)) := hown_last
  obtain ⟨H4, s4, v8, c4, l4⟩ := storeN_ex (n := 8) o8 (by omega : H.length ≤ H3.length) rep_len (W32 s) hp
  have l4 : H4.length = H3.length + 1 := by rw [l4]; simp
  have v3 := c4.hown (by omega : ¬ H.length = H3.length) (hown_app u3)
  have v4 := c4.hown (by omega : ¬ H.length + 1 = H3.length) (hown_app u4)
  have v6 := c4.hown (by omega : ¬ H.length + 2 = H3.length) (hown_app u6)
  have v7 := c4.hown (by omega : ¬ H2.length = H3.length) (hown_app u7)
  (repeat (first | with_reducible (first | refine thenQ_n ?_ | refine blockQ_n ?_ | refine thenQ_e ?_ | refine thenQ_r ?_ | refine blockQ_r ?_ | refine blockQ_s ?_ | refine blockQ_o rfl ?_) | refine AW_skip ?_ | refine AW_seq ?_ | refine AW_ops ?_ | refine AW_blockS ?_ | refine AW_blockR ?_ | refine AW_blockD ?_ | refine AW_blockC ?_ | refine AO_nil ?_ | refine AW_draw ?_ | refine AW_draw3 ?_ | refine AW_blockD3 ?_ | (refine AW_drawA ?_; simp only [atBlk, Sm]) | refine AHd_nil ?_ | with_reducible (first | refine AP_at ?_ | refine AHP_at ?_) | (with_reducible (first | apply AO_any | apply AHd_any | apply AP_go | apply AHP_go); focus (simp only [Sm, wantedA, execA, stepA, List.getElem?_cons_zero, List.getElem?_cons_succ, if_true, if_false, binA, binInt, unA, eqA, Option.map, eq_self, reduceCtorEq, ite_true, ite_false, fitsAll, CK.fits, fillA, AV.cells, writeN, sliceCells, appendA, lenA, i64, loA, hiA, Nat.reduceAdd, Nat.reduceMul, Nat.reduceDiv, Nat.reduceSub, Nat.reduceLeDiff, Nat.reduceLT, Int.reduceLE, Int.reduceLT, foldA, maxA, minA, Int.reduceBEq, Int.reduceBNe, Int.reduceGT, Int.reduceGE, Int.reduceEq, Int.reduceNe, Int.reduceToNat, AOp.stops, ↓want_eq, ↓exec_lenX, ↓exec_storeX, ↓exec_storeN, storeN_one, ↓exec_bsX, ↓exec_sliceX, ↓exec_copyX, ↓exec_appNil, ↓exec_carryX, Nat.sub_zero, rep_len, s3, ↓r4, s4]; with_reducible first | exact EqP.at_ | exact EqP.cont | exact EqP.hcont | exact EqP.gate | exact EqP.hgate)) | (refine AW_ift ?_ ?_; focus (simp only [Sm]; done)) | (refine AW_iff ?_ ?_; focus (simp only [Sm]; done))))
  rw [l3] at v8 ⊢
  generalize hp3 : H.length = p3 at *
  generalize hp7 : H2.length = p7 at *
  refine AW_mid (fun e fr H' => e = .normal ∧ rcI p3 p7 ks ws s H4 64 fr H') ?_ ?_
  · refine AW_block (AW_up (rcI p3 p7 ks ws s H4) 64 ⟨Chg.refl _ _, v8, stale _ _ rfl⟩ ?_)
    rintro i fr H5 hi ⟨c5, o5, st, rfl⟩
    have hwd := rnds_wd (ks := ks) (ws := ws) hs i
    have hsucc : rnds ks ws s (i + 1) = rndO (ks.getD i 0) (ws.getD i 0) (rnds ks ws s i) := rfl
    generalize hu : rnds ks ws s i = u at *
    (repeat (first | with_reducible (first | refine thenQ_n ?_ | refine blockQ_n ?_ | refine thenQ_e ?_ | refine thenQ_r ?_ | refine blockQ_r ?_ | refine blockQ_s ?_ | refine blockQ_o rfl ?_) | refine AW_skip ?_ | refine AW_seq ?_ | refine AW_ops ?_ | refine AW_blockS ?_ | refine AW_blockR ?_ | refine AW_blockD ?_ | refine AW_blockC ?_ | refine AO_nil ?_ | refine AW_draw ?_ | refine AW_draw3 ?_ | refine AW_blockD3 ?_ | (refine AW_drawA ?_; simp only [atBlk, Sm]) | refine AHd_nil ?_ | with_reducible (first | refine AP_at ?_ | refine AHP_at ?_) | (with_reducible (first | apply AO_any | apply AHd_any | apply AP_go | apply AHP_go); focus (simp only [Sm, wantedA, execA, stepA, List.getElem?_cons_zero, List.getElem?_cons_succ, if_true, if_false, binA, binInt, unA, eqA, Option.map, eq_self, reduceCtorEq, ite_true, ite_false, fitsAll, CK.fits, fillA, AV.cells, writeN, sliceCells, appendA, lenA, i64, loA, hiA, Nat.reduceAdd, Nat.reduceMul, Nat.reduceDiv, Nat.reduceSub, Nat.reduceLeDiff, Nat.reduceLT, Int.reduceLE, Int.reduceLT, foldA, maxA, minA, Int.reduceBEq, Int.reduceBNe, Int.reduceGT, Int.reduceGE, Int.reduceEq, Int.reduceNe, Int.reduceToNat, AOp.stops, ↓want_eq, ↓exec_lenX, ↓exec_storeX, ↓exec_storeN, storeN_one, ↓exec_bsX, ↓exec_sliceX, ↓exec_copyX, ↓exec_appNil, ↓exec_carryX, Nat.sub_zero, rep_len]; with_reducible first | exact EqP.at_ | exact EqP.cont | exact EqP.hcont | exact EqP.gate | exact EqP.hgate)) | (refine AW_ift ?_ ?_; focus (simp only [Sm]; done)) | (refine AW_iff ?_ ?_; focus (simp only [Sm]; done))))
    refine AW_cond rfl ?_ ?_ <;> intro ht
    · have ht : (i : Int) < 64 := of_decide_eq_true ht
      have hi2 : i < 64 := by omega
      obtain ⟨a, b, c, d, e, f, g, h, hse, b0, b1, b2, b3, b4, b5, b6, b7⟩ := Wd8 hwd
      have g0 : (W32 u)[0]? = some (.int .u32 (a : Int)) := by rw [hse]; rfl
      have g1 : (W32 u)[1]? = some (.int .u32 (b : Int)) := by rw [hse]; rfl
      have g2 : (W32 u)[2]? = some (.int .u32 (c : Int)) := by rw [hse]; rfl
      have g4 : (W32 u)[4]? = some (.int .u32 (e : Int)) := by rw [hse]; rfl
      have g5 : (W32 u)[5]? = some (.int .u32 (f : Int)) := by rw [hse]; rfl
      have g6 : (W32 u)[6]? = some (.int .u32 (g : Int)) := by rw [hse]; rfl
      have g7 : (W32 u)[7]? = some (.int .u32 (h : Int)) := by rw [hse]; rfl
      have hc8 := hcells_own o5
      have hc3 := hcells_own (c5.hown (by omega : ¬ p3 = p7 + 1) v3)
      have hc7 := hcells_own (c5.hown (by omega : ¬ p7 = p7 + 1) v7)
      have gk := hkn i hi2
      have gw := hwe.get (i := i) hi2
      have kk := hK.2 i
      have kw := hwe.2 i
      generalize ks.getD i 0 = kc at *
      generalize ws.getD i 0 = wc at *
      have r6 := rt_lt (n := 6) (by omega) b4
      have r11 := rt_lt (n := 11) (by omega) b4
      have r25 := rt_lt (n := 25) (by omega) b4
      have r2 := rt_lt (n := 2) (by omega) b0
      have r13 := rt_lt (n := 13) (by omega) b0
      have r22 := rt_lt (n := 22) (by omega) b0
      have x1 := xo32 r6 r11
      have x2 : bitsA .xor .u32 ((rt 6 e ^^^ rt 11 e : Nat) : Int) ((rt 25 e : Nat) : Int) = ((sB1 e : Nat) : Int) := xo32 (xo_lt r6 r11) r25
      have x3 := xo32 r2 r13
      have x4 : bitsA .xor .u32 ((rt 2 a ^^^ rt 13 a : Nat) : Int) ((rt 22 a : Nat) : Int) = ((sB0 a : Nat) : Int) := xo32 (xo_lt r2 r13) r22
      have y1 := an32 b4 b5
      have yn := sub32 b4
      have y2 := an32 (a := 4294967295 - e) (b := g) (by omega) b6
      have y3 : bitsA .xor .u32 ((e &&& f : Nat) : Int) (((4294967295 - e) &&& g : Nat) : Int) = ((chO e f g : Nat) : Int) := xo32 (an_lt b4) (an_lt (by omega))
      have z1 := an32 b0 b1
      have z2 := an32 b0 b2
      have z3 := an32 b1 b2
      have z4 := xo32 (an_lt (b := b) b0) (an_lt (b := c) b0)
      have z5 : bitsA .xor .u32 (((a &&& b) ^^^ (a &&& c) : Nat) : Int) ((b &&& c : Nat) : Int) = ((mjO a b c : Nat) : Int) := xo32 (xo_lt (an_lt b0) (an_lt b0)) (an_lt b1)
      have l5 : p7 + 2 ≤ H5.length := by have := c5.1; omega
      (repeat (first | with_reducible (first | refine thenQ_n ?_ | refine blockQ_n ?_ | refine thenQ_e ?_ | refine thenQ_r ?_ | refine blockQ_r ?_ | refine blockQ_s ?_ | refine blockQ_o rfl ?_) | refine AW_skip ?_ | refine AW_seq ?_ | refine AW_ops ?_ | refine AW_blockS ?_ | refine AW_blockR ?_ | refine AW_blockD ?_ | refine AW_blockC ?_ | refine AO_nil ?_ | refine AW_draw ?_ | refine AW_draw3 ?_ | refine AW_blockD3 ?_ | (refine AW_drawA ?_; simp only [atBlk, Sm]) | refine AHd_nil ?_ | with_reducible (first | refine AP_at ?_ | refine AHP_at ?_) | (with_reducible (first | apply AO_any | apply AHd_any | apply AP_go | apply AHP_go); focus (simp only [Sm, wantedA, execA, stepA, List.getElem?_cons_zero, List.getElem?_cons_succ, if_true, if_false, binA, binInt, unA, eqA, Option.map, eq_self, reduceCtorEq, ite_true, ite_false, fitsAll, CK.fits, fillA, AV.cells, writeN, sliceCells, appendA, lenA, i64, loA, hiA, Nat.reduceAdd, Nat.reduceMul, Nat.reduceDiv, Nat.reduceSub, Nat.reduceLeDiff, Nat.reduceLT, Int.reduceLE, Int.reduceLT, foldA, maxA, minA, Int.reduceBEq, Int.reduceBNe, Int.reduceGT, Int.reduceGE, Int.reduceEq, Int.reduceNe, Int.reduceToNat, AOp.stops, ↓want_eq, ↓exec_lenX, ↓exec_storeX, ↓exec_storeN, storeN_one, ↓exec_bsX, ↓exec_sliceX, ↓exec_copyX, ↓exec_appNil, ↓exec_carryX, Nat.sub_zero, rep_len, hc8, g4, g5, g6, g7, y1, yn, y2, y3]; with_reducible first | exact EqP.at_ | exact EqP.cont | exact EqP.hcont | exact EqP.gate | exact EqP.hgate)) | (refine AW_ift ?_ ?_; focus (simp only [Sm]; done)) | (refine AW_iff ?_ ?_; focus (simp only [Sm]; done))))
      refine AHd_call rfl (AC_refRight H5 6 e (by omega) (by omega) b4) ?_
      rintro _ _ ⟨rfl, rfl⟩ -
      (repeat (first | with_reducible (first | refine thenQ_n ?_ | refine blockQ_n ?_ | refine thenQ_e ?_ | refine thenQ_r ?_ | refine blockQ_r ?_ | refine blockQ_s ?_ | refine blockQ_o rfl ?_) | refine AW_skip ?_ | refine AW_seq ?_ | refine AW_ops ?_ | refine AW_blockS ?_ | refine AW_blockR ?_ | refine AW_blockD ?_ | refine AW_blockC ?_ | refine AO_nil ?_ | refine AW_draw ?_ | refine AW_draw3 ?_ | refine AW_blockD3 ?_ | (refine AW_drawA ?_; simp only [atBlk, Sm]) | refine AHd_nil ?_ | with_reducible (first | refine AP_at ?_ | refine AHP_at ?_) | (with_reducible (first | apply AO_any | apply AHd_any | apply AP_go | apply AHP_go); focus (simp only [Sm, wantedA, execA, stepA, List.getElem?_cons_zero, List.getElem?_cons_succ, if_true, if_false, binA, binInt, unA, eqA, Option.map, eq_self, reduceCtorEq, ite_true, ite_false, fitsAll, CK.fits, fillA, AV.cells, writeN, sliceCells, appendA, lenA, i64, loA, hiA, Nat.reduceAdd, Nat.reduceMul, Nat.reduceDiv, Nat.reduceSub, Nat.reduceLeDiff, Nat.reduceLT, Int.reduceLE, Int.reduceLT, foldA, maxA, minA, Int.reduceBEq, Int.reduceBNe, Int.reduceGT, Int.reduceGE, Int.reduceEq, Int.reduceNe, Int.reduceToNat, AOp.stops, ↓want_eq, ↓exec_lenX, ↓exec_storeX, ↓exec_storeN, storeN_one, ↓exec_bsX, ↓exec_sliceX, ↓exec_copyX, ↓exec_appNil, ↓exec_carryX, Nat.sub_zero, rep_len]; with_reducible first | exact EqP.at_ | exact EqP.cont | exact EqP.hcont | exact EqP.gate | exact EqP.hgate)) | (refine AW_ift ?_ ?_; focus (simp only [Sm]; done)) | (refine AW_iff ?_ ?_; focus (simp only [Sm]; done))))
      refine AHd_call rfl (AC_refRight H5 11 e (by omega) (by omega) b4) ?_
      rintro _ _ ⟨rfl, rfl⟩ -
      (repeat (first | with_reducible (first | refine thenQ_n ?_ | refine blockQ_n ?_ | refine thenQ_e ?_ | refine thenQ_r ?_ | refine blockQ_r ?_ | refine blockQ_s ?_ | refine blockQ_o rfl ?_) | refine AW_skip ?_ | refine AW_seq ?_ | refine AW_ops ?_ | refine AW_blockS ?_ | refine AW_blockR ?_ | refine AW_blockD ?_ | refine AW_blockC ?_ | refine AO_nil ?_ | refine AW_draw ?_ | refine AW_draw3 ?_ | refine AW_blockD3 ?_ | (refine AW_drawA ?_; simp only [atBlk, Sm]) | refine AHd_nil ?_ | with_reducible (first | refine AP_at ?_ | refine AHP_at ?_) | (with_reducible (first | apply AO_any | apply AHd_any | apply AP_go | apply AHP_go); focus (simp only [Sm, wantedA, execA, stepA, List.getElem?_cons_zero, List.getElem?_cons_succ, if_true, if_false, binA, binInt, unA, eqA, Option.map, eq_self, reduceCtorEq, ite_true, ite_false, fitsAll, CK.fits, fillA, AV.cells, writeN, sliceCells, appendA, lenA, i64, loA, hiA, Nat.reduceAdd, Nat.reduceMul, Nat.reduceDiv, Nat.reduceSub, Nat.reduceLeDiff, Nat.reduceLT, Int.reduceLE, Int.reduceLT, foldA, maxA, minA, Int.reduceBEq, Int.reduceBNe, Int.reduceGT, Int.reduceGE, Int.reduceEq, Int.reduceNe, Int.reduceToNat, AOp.stops, ↓want_eq, ↓exec_lenX, ↓exec_storeX, ↓exec_storeN, storeN_one, ↓exec_bsX, ↓exec_sliceX, ↓exec_copyX, ↓exec_appNil, ↓exec_carryX, Nat.sub_zero, rep_len, x1]; with_reducible first | exact EqP.at_ | exact EqP.cont | exact EqP.hcont | exact EqP.gate | exact EqP.hgate)) | (refine AW_ift ?_ ?_; focus (simp only [Sm]; done)) | (refine AW_iff ?_ ?_; focus (simp only [Sm]; done))))
      refine AHd_call rfl (AC_refRight H5 25 e (by omega) (by omega) b4) ?_
      rintro _ _ ⟨rfl, rfl⟩ -
      (repeat (first | with_reducible (first | refine thenQ_n ?_ | refine blockQ_n ?_ | refine thenQ_e ?_ | refine thenQ_r ?_ | refine blockQ_r ?_ | refine blockQ_s ?_ | refine blockQ_o rfl ?_) | refine AW_skip ?_ | refine AW_seq ?_ | refine AW_ops ?_ | refine AW_blockS ?_ | refine AW_blockR ?_ | refine AW_blockD ?_ | refine AW_blockC ?_ | refine AO_nil ?_ | refine AW_draw ?_ | refine AW_draw3 ?_ | refine AW_blockD3 ?_ | (refine AW_drawA ?_; simp only [atBlk, Sm]) | refine AHd_nil ?_ | with_reducible (first | refine AP_at ?_ | refine AHP_at ?_) | (with_reducible (first | apply AO_any | apply AHd_any | apply AP_go | apply AHP_go); focus (simp only [Sm, wantedA, execA, stepA, List.getElem?_cons_zero, List.getElem?_cons_succ, if_true, if_false, binA, binInt, unA, eqA, Option.map, eq_self, reduceCtorEq, ite_true, ite_false, fitsAll, CK.fits, fillA, AV.cells, writeN, sliceCells, appendA, lenA, i64, loA, hiA, Nat.reduceAdd, Nat.reduceMul, Nat.reduceDiv, Nat.reduceSub, Nat.reduceLeDiff, Nat.reduceLT, Int.reduceLE, Int.reduceLT, foldA, maxA, minA, Int.reduceBEq, Int.reduceBNe, Int.reduceGT, Int.reduceGE, Int.reduceEq, Int.reduceNe, Int.reduceToNat, AOp.stops, ↓want_eq, ↓exec_lenX, ↓exec_storeX, ↓exec_storeN, storeN_one, ↓exec_bsX, ↓exec_sliceX, ↓exec_copyX, ↓exec_appNil, ↓exec_carryX, Nat.sub_zero, rep_len, x2, wrap_ad, hc3, ht, gk, hc7, gw, Nat.zero_add, hc8, g0, g1, g2, z1, z2, z3, z4, z5]; with_reducible first | exact EqP.at_ | exact EqP.cont | exact EqP.hcont | exact EqP.gate | exact EqP.hgate)) | (refine AW_ift ?_ ?_; focus (simp only [Sm]; done)) | (refine AW_iff ?_ ?_; focus (simp only [Sm]; done))))
      refine AO_call rfl ((AC_refRight H5 2 a (by omega) (by omega) b0).floor (by omega)) ?_
      rintro _ _ ⟨rfl, rfl⟩
      (repeat (first | with_reducible (first | refine thenQ_n ?_ | refine blockQ_n ?_ | refine thenQ_e ?_ | refine thenQ_r ?_ | refine blockQ_r ?_ | refine blockQ_s ?_ | refine blockQ_o rfl ?_) | refine AW_skip ?_ | refine AW_seq ?_ | refine AW_ops ?_ | refine AW_blockS ?_ | refine AW_blockR ?_ | refine AW_blockD ?_ | refine AW_blockC ?_ | refine AO_nil ?_ | refine AW_draw ?_ | refine AW_draw3 ?_ | refine AW_blockD3 ?_ | (refine AW_drawA ?_; simp only [atBlk, Sm]) | refine AHd_nil ?_ | with_reducible (first | refine AP_at ?_ | refine AHP_at ?_) | (with_reducible (first | apply AO_any | apply AHd_any | apply AP_go | apply AHP_go); focus (simp only [Sm, wantedA, execA, stepA, List.getElem?_cons_zero, List.getElem?_cons_succ, if_true, if_false, binA, binInt, unA, eqA, Option.map, eq_self, reduceCtorEq, ite_true, ite_false, fitsAll, CK.fits, fillA, AV.cells, writeN, sliceCells, appendA, lenA, i64, loA, hiA, Nat.reduceAdd, Nat.reduceMul, Nat.reduceDiv, Nat.reduceSub, Nat.reduceLeDiff, Nat.reduceLT, Int.reduceLE, Int.reduceLT, foldA, maxA, minA, Int.reduceBEq, Int.reduceBNe, Int.reduceGT, Int.reduceGE, Int.reduceEq, Int.reduceNe, Int.reduceToNat, AOp.stops, ↓want_eq, ↓exec_lenX, ↓exec_storeX, ↓exec_storeN, storeN_one, ↓exec_bsX, ↓exec_sliceX, ↓exec_copyX, ↓exec_appNil, ↓exec_carryX, Nat.sub_zero, rep_len]; with_reducible first | exact EqP.at_ | exact EqP.cont | exact EqP.hcont | exact EqP.gate | exact EqP.hgate)) | (refine AW_ift ?_ ?_; focus (simp only [Sm]; done)) | (refine AW_iff ?_ ?_; focus (simp only [Sm]; done))))
      refine AO_call rfl ((AC_refRight H5 13 a (by omega) (by omega) b0).floor (by omega)) ?_
      rintro _ _ ⟨rfl, rfl⟩
      (repeat (first | with_reducible (first | refine thenQ_n ?_ | refine blockQ_n ?_ | refine thenQ_e ?_ | refine thenQ_r ?_ | refine blockQ_r ?_ | refine blockQ_s ?_ | refine blockQ_o rfl ?_) | refine AW_skip ?_ | refine AW_seq ?_ | refine AW_ops ?_ | refine AW_blockS ?_ | refine AW_blockR ?_ | refine AW_blockD ?_ | refine AW_blockC ?_ | refine AO_nil ?_ | refine AW_draw ?_ | refine AW_draw3 ?_ | refine AW_blockD3 ?_ | (refine AW_drawA ?_; simp only [atBlk, Sm]) | refine AHd_nil ?_ | with_reducible (first | refine AP_at ?_ | refine AHP_at ?_) | (with_reducible (first | apply AO_any | apply AHd_any | apply AP_go | apply AHP_go); focus (simp only [Sm, wantedA, execA, stepA, List.getElem?_cons_zero, List.getElem?_cons_succ, if_true, if_false, binA, binInt, unA, eqA, Option.map, eq_self, reduceCtorEq, ite_true, ite_false, fitsAll, CK.fits, fillA, AV.cells, writeN, sliceCells, appendA, lenA, i64, loA, hiA, Nat.reduceAdd, Nat.reduceMul, Nat.reduceDiv, Nat.reduceSub, Nat.reduceLeDiff, Nat.reduceLT, Int.reduceLE, Int.reduceLT, foldA, maxA, minA, Int.reduceBEq, Int.reduceBNe, Int.reduceGT, Int.reduceGE, Int.reduceEq, Int.reduceNe, Int.reduceToNat, AOp.stops, ↓want_eq, ↓exec_lenX, ↓exec_storeX, ↓exec_storeN, storeN_one, ↓exec_bsX, ↓exec_sliceX, ↓exec_copyX, ↓exec_appNil, ↓exec_carryX, Nat.sub_zero, rep_len, x3]; with_reducible first | exact EqP.at_ | exact EqP.cont | exact EqP.hcont | exact EqP.gate | exact EqP.hgate)) | (refine AW_ift ?_ ?_; focus (simp only [Sm]; done)) | (refine AW_iff ?_ ?_; focus (simp only [Sm]; done))))
      refine AO_call rfl ((AC_refRight H5 22 a (by omega) (by omega) b0).floor (by omega)) ?_
      rintro _ _ ⟨rfl, rfl⟩
      (repeat (first | with_reducible (first | refine thenQ_n ?_ | refine blockQ_n ?_ | refine thenQ_e ?_ | refine thenQ_r ?_ | refine blockQ_r ?_ | refine blockQ_s ?_ | refine blockQ_o rfl ?_) | refine AW_skip ?_ | refine AW_seq ?_ | refine AW_ops ?_ | refine AW_blockS ?_ | refine AW_blockR ?_ | refine AW_blockD ?_ | refine AW_blockC ?_ | refine AO_nil ?_ | refine AW_draw ?_ | refine AW_draw3 ?_ | refine AW_blockD3 ?_ | (refine AW_drawA ?_; simp only [atBlk, Sm]) | refine AHd_nil ?_ | with_reducible (first | refine AP_at ?_ | refine AHP_at ?_) | (with_reducible (first | apply AO_any | apply AHd_any | apply AP_go | apply AHP_go); focus (simp only [Sm, wantedA, execA, stepA, List.getElem?_cons_zero, List.getElem?_cons_succ, if_true, if_false, binA, binInt, unA, eqA, Option.map, eq_self, reduceCtorEq, ite_true, ite_false, fitsAll, CK.fits, fillA, AV.cells, writeN, sliceCells, appendA, lenA, i64, loA, hiA, Nat.reduceAdd, Nat.reduceMul, Nat.reduceDiv, Nat.reduceSub, Nat.reduceLeDiff, Nat.reduceLT, Int.reduceLE, Int.reduceLT, foldA, maxA, minA, Int.reduceBEq, Int.reduceBNe, Int.reduceGT, Int.reduceGE, Int.reduceEq, Int.reduceNe, Int.reduceToNat, AOp.stops, ↓want_eq, ↓exec_lenX, ↓exec_storeX, ↓exec_storeN, storeN_one, ↓exec_bsX, ↓exec_sliceX, ↓exec_copyX, ↓exec_appNil, ↓exec_carryX, Nat.sub_zero, rep_len, x4, wrap_ad]; with_reducible first | exact EqP.at_ | exact EqP.cont | exact EqP.hcont | exact EqP.gate | exact EqP.hgate)) | (refine AW_ift ?_ ?_; focus (simp only [Sm]; done)) | (refine AW_iff ?_ ?_; focus (simp only [Sm]; done))))
      have ht1 : ad (ad (ad (ad h (sB1 e)) (chO e f g)) kc) wc = t1O kc wc e f g h := rfl
      have ht2 : ad (sB0 a) (mjO a b c) = t2O a b c := rfl
      rw [ht1, ht2]
      generalize ht1v : t1O kc wc e f g h = t1 at *
      generalize ht2v : t2O a b c = t2 at *
      refine AW_mid (fun e fr H' => e = .normal ∧ rdI p3 p7 i t1 t2 u H5 7 fr H') ?_ ?_
      · refine AW_block (AW_up (rdI p3 p7 i t1 t2 u H5) 7 ⟨Chg.refl _ _, o5, stale _ _ rfl⟩ ?_)
        rintro j fr H6 hj ⟨c6, o6, st, rfl⟩
        have hS := shU_wd hwd j
        have hsj : shU u (j + 1) = (shU u j).set (7 - j) ((shU u j).getD (6 - j) 0) := rfl
        generalize huj : shU u j = uj at *
        (repeat (first | with_reducible (first | refine thenQ_n ?_ | refine blockQ_n ?_ | refine thenQ_e ?_ | refine thenQ_r ?_ | refine blockQ_r ?_ | refine blockQ_s ?_ | refine blockQ_o rfl ?_) | refine AW_skip ?_ | refine AW_seq ?_ | refine AW_ops ?_ | refine AW_blockS ?_ | refine AW_blockR ?_ | refine AW_blockD ?_ | refine AW_blockC ?_ | refine AO_nil ?_ | refine AW_draw ?_ | refine AW_draw3 ?_ | refine AW_blockD3 ?_ | (refine AW_drawA ?_; simp only [atBlk, Sm]) | refine AHd_nil ?_ | with_reducible (first | refine AP_at ?_ | refine AHP_at ?_) | (with_reducible (first | apply AO_any | apply AHd_any | apply AP_go | apply AHP_go); focus (simp only [Sm, wantedA, execA, stepA, List.getElem?_cons_zero, List.getElem?_cons_succ, if_true, if_false, binA, binInt, unA, eqA, Option.map, eq_self, reduceCtorEq, ite_true, ite_false, fitsAll, CK.fits, fillA, AV.cells, writeN, sliceCells, appendA, lenA, i64, loA, hiA, Nat.reduceAdd, Nat.reduceMul, Nat.reduceDiv, Nat.reduceSub, Nat.reduceLeDiff, Nat.reduceLT, Int.reduceLE, Int.reduceLT, foldA, maxA, minA, Int.reduceBEq, Int.reduceBNe, Int.reduceGT, Int.reduceGE, Int.reduceEq, Int.reduceNe, Int.reduceToNat, AOp.stops, ↓want_eq, ↓exec_lenX, ↓exec_storeX, ↓exec_storeN, storeN_one, ↓exec_bsX, ↓exec_sliceX, ↓exec_copyX, ↓exec_appNil, ↓exec_carryX, Nat.sub_zero, rep_len]; with_reducible first | exact EqP.at_ | exact EqP.cont | exact EqP.hcont | exact EqP.gate | exact EqP.hgate)) | (refine AW_ift ?_ ?_; focus (simp only [Sm]; done)) | (refine AW_iff ?_ ?_; focus (simp only [Sm]; done))))
        refine AW_cond rfl ?_ ?_ <;> intro htj
        · have htj : ((7 - j : Nat) : Int) > 0 := of_decide_eq_true htj
          have hj2 : j < 7 := by omega
          have e1 : IntKind.i64.wrap (((7 - j : Nat) : Int) - 1) = ((6 - j : Nat) : Int) := by rw [i64_of (by omega) (by omega)]; omega
          have b1 : ((6 - j : Nat) : Int) < 8 := by omega
          have b2 : ((7 - j : Nat) : Int) < 8 := by omega
          have b3 : 7 - j < 8 := by omega
          have q1 := hS.get (i := 6 - j) (by omega)
          have e2 : 7 - (j + 1) = 6 - j := by omega
          have h6 := hcells_own o6
          generalize uj.getD (6 - j) 0 = vv at *
          (repeat (first | with_reducible (first | refine thenQ_n ?_ | refine blockQ_n ?_ | refine thenQ_e ?_ | refine thenQ_r ?_ | refine blockQ_r ?_ | refine blockQ_s ?_ | refine blockQ_o rfl ?_) | refine AW_skip ?_ | refine AW_seq ?_ | refine AW_ops ?_ | refine AW_blockS ?_ | refine AW_blockR ?_ | refine AW_blockD ?_ | refine AW_blockC ?_ | refine AO_nil ?_ | refine AW_draw ?_ | refine AW_draw3 ?_ | refine AW_blockD3 ?_ | (refine AW_drawA ?_; simp only [atBlk, Sm]) | refine AHd_nil ?_ | with_reducible (first | refine AP_at ?_ | refine AHP_at ?_) | (with_reducible (first | apply AO_any | apply AHd_any | apply AP_go | apply AHP_go); focus (simp only [Sm, wantedA, execA, stepA, List.getElem?_cons_zero, List.getElem?_cons_succ, if_true, if_false, binA, binInt, unA, eqA, Option.map, eq_self, reduceCtorEq, ite_true, ite_false, fitsAll, CK.fits, fillA, AV.cells, writeN, sliceCells, appendA, lenA, i64, loA, hiA, Nat.reduceAdd, Nat.reduceMul, Nat.reduceDiv, Nat.reduceSub, Nat.reduceLeDiff, Nat.reduceLT, Int.reduceLE, Int.reduceLT, foldA, maxA, minA, Int.reduceBEq, Int.reduceBNe, Int.reduceGT, Int.reduceGE, Int.reduceEq, Int.reduceNe, Int.reduceToNat, AOp.stops, ↓want_eq, ↓exec_lenX, ↓exec_storeX, ↓exec_storeN, storeN_one, ↓exec_bsX, ↓exec_sliceX, ↓exec_copyX, ↓exec_appNil, ↓exec_carryX, Nat.sub_zero, rep_len, e1, b1, b2, h6, q1, Nat.zero_add, storeX_own o6 (by omega : p3 ≤ p7 + 1) (by rw [hS.len]; exact b3 : 7 - j < _)]; with_reducible first | exact EqP.at_ | exact EqP.cont | exact EqP.hcont | exact EqP.gate | exact EqP.hgate)) | (refine AW_ift ?_ ?_; focus (simp only [Sm]; done)) | (refine AW_iff ?_ ?_; focus (simp only [Sm]; done))))
          refine ⟨hj2, c6.trans (Chg.set (S := (· = p7 + 1)) rfl) fun _ _ h => h, ?_, stale _ _ (by rw [e2]; rfl)⟩
          rw [hown_set (hown_lt o6), W32_put, hsj]
        · obtain rfl : j = 7 := by have : ¬ ((7 - j : Nat) : Int) > 0 := of_decide_eq_false htj; omega
          subst huj
          exact AW_exit ⟨rfl, c6, o6, stale _ _ rfl⟩
      rintro x fr H6 ⟨rfl, c6, o6, st, rfl⟩
      have hsh : shU u 7 = [a, a, b, c, d, e, f, g] := by rw [hse]; rfl
      rw [hsh] at o6
      have q4 : (W32 [a, a, b, c, d, e, f, g])[4]? = some (.int .u32 (d : Int)) := rfl
      have h6 := hcells_own o6
      have hw4 : (W32 [a, a, b, c, d, e, f, g]).set 4 (.int .u32 ((ad d t1 : Nat) : Int)) = W32 [a, a, b, c, ad d t1, e, f, g] := rfl
      have hw0 : (W32 [a, a, b, c, ad d t1, e, f, g]).set 0 (.int .u32 ((ad t1 t2 : Nat) : Int)) = W32 [ad t1 t2, a, b, c, ad d t1, e, f, g] := rfl
      obtain ⟨H7, s7, o7', c7, l7⟩ := storeX_ex (o := 4) o6 (by omega : p3 ≤ p7 + 1) (by rw [W32_length]; simp) (.int .u32 ((ad d t1 : Nat) : Int))
      rw [hw4] at o7'
      obtain ⟨H8, s8, o8', c8, l8⟩ := storeX_ex (o := 0) o7' (by omega : p3 ≤ p7 + 1) (by rw [W32_length]; simp) (.int .u32 ((ad t1 t2 : Nat) : Int))
      rw [hw0] at o8'
      have esc := i64_succ (show i < 9223372036854775807 by omega)
      have h7 := hcells_own o7'
      (repeat (first | with_reducible (first | refine thenQ_n ?_ | refine blockQ_n ?_ | refine thenQ_e ?_ | refine thenQ_r ?_ | refine blockQ_r ?_ | refine blockQ_s ?_ | refine blockQ_o rfl ?_) | refine AW_skip ?_ | refine AW_seq ?_ | refine AW_ops ?_ | refine AW_blockS ?_ | refine AW_blockR ?_ | refine AW_blockD ?_ | refine AW_blockC ?_ | refine AO_nil ?_ | refine AW_draw ?_ | refine AW_draw3 ?_ | refine AW_blockD3 ?_ | (refine AW_drawA ?_; simp only [atBlk, Sm]) | refine AHd_nil ?_ | with_reducible (first | refine AP_at ?_ | refine AHP_at ?_) | (with_reducible (first | apply AO_any | apply AHd_any | apply AP_go | apply AHP_go); focus (simp only [Sm, wantedA, execA, stepA, List.getElem?_cons_zero, List.getElem?_cons_succ, if_true, if_false, binA, binInt, unA, eqA, Option.map, eq_self, reduceCtorEq, ite_true, ite_false, fitsAll, CK.fits, fillA, AV.cells, writeN, sliceCells, appendA, lenA, i64, loA, hiA, Nat.reduceAdd, Nat.reduceMul, Nat.reduceDiv, Nat.reduceSub, Nat.reduceLeDiff, Nat.reduceLT, Int.reduceLE, Int.reduceLT, foldA, maxA, minA, Int.reduceBEq, Int.reduceBNe, Int.reduceGT, Int.reduceGE, Int.reduceEq, Int.reduceNe, Int.reduceToNat, AOp.stops, ↓want_eq, ↓exec_lenX, ↓exec_storeX, ↓exec_storeN, storeN_one, ↓exec_bsX, ↓exec_sliceX, ↓exec_copyX, ↓exec_appNil, ↓exec_carryX, Nat.sub_zero, rep_len, h6, q4, wrap_ad, s7, h7, s8, esc]; with_reducible first | exact EqP.at_ | exact EqP.cont | exact EqP.hcont | exact EqP.gate | exact EqP.hgate)) | (refine AW_ift ?_ ?_; focus (simp only [Sm]; done)) | (refine AW_iff ?_ ?_; focus (simp only [Sm]; done))))
      have hfin : rnds ks ws s (i + 1) = [ad t1 t2, a, b, c, ad d t1, e, f, g] := by
        rw [hsucc, hse]; simp only [rndO, ht1v, ht2v]
      rw [← hfin] at o8'
      exact ⟨hi2, ((c5.trans c6 (fun _ _ h => h)).trans c7 (fun _ _ h => h)).trans c8 (fun _ _ h => h), o8', stale _ _ rfl⟩
    · obtain rfl : i = 64 := by have : ¬ (i : Int) < 64 := of_decide_eq_false ht; omega
      subst hu
      exact AW_exit ⟨rfl, c5, o5, stale _ _ rfl⟩
  rintro x fr H5 ⟨rfl, c5, o5, st, rfl⟩
  have hus := rnds_wd (ks := ks) (ws := ws) hs 64
  generalize rnds ks ws s 64 = us at *
  (repeat (first | with_reducible (first | refine thenQ_n ?_ | refine blockQ_n ?_ | refine thenQ_e ?_ | refine thenQ_r ?_ | refine blockQ_r ?_ | refine blockQ_s ?_ | refine blockQ_o rfl ?_) | refine AW_skip ?_ | refine AW_seq ?_ | refine AW_ops ?_ | refine AW_blockS ?_ | refine AW_blockR ?_ | refine AW_blockD ?_ | refine AW_blockC ?_ | refine AO_nil ?_ | refine AW_draw ?_ | refine AW_draw3 ?_ | refine AW_blockD3 ?_ | (refine AW_drawA ?_; simp only [atBlk, Sm]) | refine AHd_nil ?_ | with_reducible (first | refine AP_at ?_ | refine AHP_at ?_) | (with_reducible (first | apply AO_any | apply AHd_any | apply AP_go | apply AHP_go); focus (simp only [Sm, wantedA, execA, stepA, List.getElem?_cons_zero, List.getElem?_cons_succ, if_true, if_false, binA, binInt, unA, eqA, Option.map, eq_self, reduceCtorEq, ite_true, ite_false, fitsAll, CK.fits, fillA, AV.cells, writeN, sliceCells, appendA, lenA, i64, loA, hiA, Nat.reduceAdd, Nat.reduceMul, Nat.reduceDiv, Nat.reduceSub, Nat.reduceLeDiff, Nat.reduceLT, Int.reduceLE, Int.reduceLT, foldA, maxA, minA, Int.reduceBEq, Int.reduceBNe, Int.reduceGT, Int.reduceGE, Int.reduceEq, Int.reduceNe, Int.reduceToNat, AOp.stops, ↓want_eq, ↓exec_lenX, ↓exec_storeX, ↓exec_storeN, storeN_one, ↓exec_bsX, ↓exec_sliceX, ↓exec_copyX, ↓exec_appNil, ↓exec_carryX, Nat.sub_zero, rep_len]; with_reducible first | exact EqP.at_ | exact EqP.cont | exact EqP.hcont | exact EqP.gate | exact EqP.hgate)) | (refine AW_ift ?_ ?_; focus (simp only [Sm]; done)) | (refine AW_iff ?_ ?_; focus (simp only [Sm]; done))))
  have v45 := c5.hown (by omega : ¬ p3 + 1 = p7 + 1) v4
  have v65 := c5.hown (by omega : ¬ p3 + 2 = p7 + 1) v6
  refine AW_mid (fun e fr H' => e = .normal ∧ reI p3 p7 us s H5 8 fr H') ?_ ?_
  · refine AW_block (AW_up (reI p3 p7 us s H5) 8 ⟨Chg.refl _ _, o5, stale _ _ rfl⟩ ?_)
    rintro i fr H8 hi ⟨c8, o8, st, rfl⟩
    have hS := addTo_wd (us := s) hus i
    have hsucc : addTo us s (i + 1) = (addTo us s i).set i (ad ((addTo us s i).getD i 0) (s.getD i 0)) := rfl
    generalize hu : addTo us s i = u at *
    (repeat (first | with_reducible (first | refine thenQ_n ?_ | refine blockQ_n ?_ | refine thenQ_e ?_ | refine thenQ_r ?_ | refine blockQ_r ?_ | refine blockQ_s ?_ | refine blockQ_o rfl ?_) | refine AW_skip ?_ | refine AW_seq ?_ | refine AW_ops ?_ | refine AW_blockS ?_ | refine AW_blockR ?_ | refine AW_blockD ?_ | refine AW_blockC ?_ | refine AO_nil ?_ | refine AW_draw ?_ | refine AW_draw3 ?_ | refine AW_blockD3 ?_ | (refine AW_drawA ?_; simp only [atBlk, Sm]) | refine AHd_nil ?_ | with_reducible (first | refine AP_at ?_ | refine AHP_at ?_) | (with_reducible (first | apply AO_any | apply AHd_any | apply AP_go | apply AHP_go); focus (simp only [Sm, wantedA, execA, stepA, List.getElem?_cons_zero, List.getElem?_cons_succ, if_true, if_false, binA, binInt, unA, eqA, Option.map, eq_self, reduceCtorEq, ite_true, ite_false, fitsAll, CK.fits, fillA, AV.cells, writeN, sliceCells, appendA, lenA, i64, loA, hiA, Nat.reduceAdd, Nat.reduceMul, Nat.reduceDiv, Nat.reduceSub, Nat.reduceLeDiff, Nat.reduceLT, Int.reduceLE, Int.reduceLT, foldA, maxA, minA, Int.reduceBEq, Int.reduceBNe, Int.reduceGT, Int.reduceGE, Int.reduceEq, Int.reduceNe, Int.reduceToNat, AOp.stops, ↓want_eq, ↓exec_lenX, ↓exec_storeX, ↓exec_storeN, storeN_one, ↓exec_bsX, ↓exec_sliceX, ↓exec_copyX, ↓exec_appNil, ↓exec_carryX, Nat.sub_zero, rep_len]; with_reducible first | exact EqP.at_ | exact EqP.cont | exact EqP.hcont | exact EqP.gate | exact EqP.hgate)) | (refine AW_ift ?_ ?_; focus (simp only [Sm]; done)) | (refine AW_iff ?_ ?_; focus (simp only [Sm]; done))))
    refine AW_cond rfl ?_ ?_ <;> intro ht
    · have ht : (i : Int) < 8 := of_decide_eq_true ht
      have hi2 : i < 8 := by omega
      have g1 := hS.get (i := i) hi2
      have g2 := hs.get (i := i) hi2
      have h8 := hcells_own o8
      have h4 := hcells_own (c8.hown (by omega : ¬ p3 + 1 = p7 + 1) v45)
      generalize u.getD i 0 = ui at *
      generalize s.getD i 0 = vi at *
      have esc := i64_succ (show i < 9223372036854775807 by omega)
      (repeat (first | with_reducible (first | refine thenQ_n ?_ | refine blockQ_n ?_ | refine thenQ_e ?_ | refine thenQ_r ?_ | refine blockQ_r ?_ | refine blockQ_s ?_ | refine blockQ_o rfl ?_) | refine AW_skip ?_ | refine AW_seq ?_ | refine AW_ops ?_ | refine AW_blockS ?_ | refine AW_blockR ?_ | refine AW_blockD ?_ | refine AW_blockC ?_ | refine AO_nil ?_ | refine AW_draw ?_ | refine AW_draw3 ?_ | refine AW_blockD3 ?_ | (refine AW_drawA ?_; simp only [atBlk, Sm]) | refine AHd_nil ?_ | with_reducible (first | refine AP_at ?_ | refine AHP_at ?_) | (with_reducible (first | apply AO_any | apply AHd_any | apply AP_go | apply AHP_go); focus (simp only [Sm, wantedA, execA, stepA, List.getElem?_cons_zero, List.getElem?_cons_succ, if_true, if_false, binA, binInt, unA, eqA, Option.map, eq_self, reduceCtorEq, ite_true, ite_false, fitsAll, CK.fits, fillA, AV.cells, writeN, sliceCells, appendA, lenA, i64, loA, hiA, Nat.reduceAdd, Nat.reduceMul, Nat.reduceDiv, Nat.reduceSub, Nat.reduceLeDiff, Nat.reduceLT, Int.reduceLE, Int.reduceLT, foldA, maxA, minA, Int.reduceBEq, Int.reduceBNe, Int.reduceGT, Int.reduceGE, Int.reduceEq, Int.reduceNe, Int.reduceToNat, AOp.stops, ↓want_eq, ↓exec_lenX, ↓exec_storeX, ↓exec_storeN, storeN_one, ↓exec_bsX, ↓exec_sliceX, ↓exec_copyX, ↓exec_appNil, ↓exec_carryX, Nat.sub_zero, rep_len, ht, h8, g1, h4, g2, Nat.zero_add, wrap_ad, storeX_own o8 (by omega : p3 ≤ p7 + 1) (by rw [hS.len]; exact hi2 : i < _), esc]; with_reducible first | exact EqP.at_ | exact EqP.cont | exact EqP.hcont | exact EqP.gate | exact EqP.hgate)) | (refine AW_ift ?_ ?_; focus (simp only [Sm]; done)) | (refine AW_iff ?_ ?_; focus (simp only [Sm]; done))))
      refine ⟨hi2, c8.trans (Chg.set (S := (· = p7 + 1)) rfl) fun _ _ h => h, ?_, stale _ _ rfl⟩
      rw [hown_set (hown_lt o8), W32_put, hsucc]
    · obtain rfl : i = 8 := by have : ¬ (i : Int) < 8 := of_decide_eq_false ht; omega
      subst hu
      exact AW_exit ⟨rfl, c8, o8, stale _ _ rfl⟩
  have hall := addTo_all hus hs
  have hA := addW_wd hus hs
  rintro x fr H8 ⟨rfl, c8, o8, st, rfl⟩
  rw [hall] at o8
  have o86 := c8.hown (by omega : ¬ p3 + 2 = p7 + 1) v65
  rw [addW_comm s us]
  generalize addW us s = r at *
  have r8 : readN H8 (p7 + 1) 0 8 = some (W32 r) := by have := readN_all (hcells_own o8); rw [hA.len] at this; exact this
  obtain ⟨H9, s9, o9, c9, l9⟩ := storeN_ex (n := 8) o86 (by omega : p3 ≤ p3 + 2) rep_len (W32 r) hA.len
  have r9 : readN H9 (p3 + 2) 0 8 = some (W32 r) := by have := readN_all (hcells_own o9); rw [hA.len] at this; exact this
  (repeat (first | with_reducible (first | refine thenQ_n ?_ | refine blockQ_n ?_ | refine thenQ_e ?_ | refine thenQ_r ?_ | refine blockQ_r ?_ | refine blockQ_s ?_ | refine blockQ_o rfl ?_) | refine AW_skip ?_ | refine AW_seq ?_ | refine AW_ops ?_ | refine AW_blockS ?_ | refine AW_blockR ?_ | refine AW_blockD ?_ | refine AW_blockC ?_ | refine AO_nil ?_ | refine AW_draw ?_ | refine AW_draw3 ?_ | refine AW_blockD3 ?_ | (refine AW_drawA ?_; simp only [atBlk, Sm]) | refine AHd_nil ?_ | with_reducible (first | refine AP_at ?_ | refine AHP_at ?_) | (with_reducible (first | apply AO_any | apply AHd_any | apply AP_go | apply AHP_go); focus (simp only [Sm, wantedA, execA, stepA, List.getElem?_cons_zero, List.getElem?_cons_succ, if_true, if_false, binA, binInt, unA, eqA, Option.map, eq_self, reduceCtorEq, ite_true, ite_false, fitsAll, CK.fits, fillA, AV.cells, writeN, sliceCells, appendA, lenA, i64, loA, hiA, Nat.reduceAdd, Nat.reduceMul, Nat.reduceDiv, Nat.reduceSub, Nat.reduceLeDiff, Nat.reduceLT, Int.reduceLE, Int.reduceLT, foldA, maxA, minA, Int.reduceBEq, Int.reduceBNe, Int.reduceGT, Int.reduceGE, Int.reduceEq, Int.reduceNe, Int.reduceToNat, AOp.stops, ↓want_eq, ↓exec_lenX, ↓exec_storeX, ↓exec_storeN, storeN_one, ↓exec_bsX, ↓exec_sliceX, ↓exec_copyX, ↓exec_appNil, ↓exec_carryX, Nat.sub_zero, rep_len, ↓r8, s9]; with_reducible first | exact EqP.at_ | exact EqP.cont | exact EqP.hcont | exact EqP.gate | exact EqP.hgate)) | (refine AW_ift ?_ ?_; focus (simp only [Sm]; done)) | (refine AW_iff ?_ ?_; focus (simp only [Sm]; done))))
  exact AW_ret ⟨_, by simp only [outA, resA, ressA, AV.tv, Option.map_some, Sm, wantedA, execA, stepA, List.getElem?_cons_zero, List.getElem?_cons_succ, if_true, if_false, binA, binInt, unA, eqA, Option.map, eq_self, reduceCtorEq, ite_true, ite_false, fitsAll, CK.fits, fillA, AV.cells, writeN, sliceCells, appendA, lenA, i64, loA, hiA, Nat.reduceAdd, Nat.reduceMul, Nat.reduceDiv, Nat.reduceSub, Nat.reduceLeDiff, Nat.reduceLT, Int.reduceLE, Int.reduceLT, foldA, maxA, minA, r9] <;> with_reducible rfl, rfl⟩
end PK

/- SHA-256, the document's: Known, Sum; ShaSums. -/
namespace PK
open Go PAbs
set_option linter.unusedSimpArgs false
set_option linter.unusedVariables false
set_option maxRecDepth 100000
set_option maxHeartbeats 4000000

theorem KI_wd : Wd 72 (Ks ++ Is) := Wd.app Ks_wd Is_wd
theorem AC_Known (H : AHeap) : AC A H.length F_pestleref05_Known [] H (fun v H' => v = .agg (W32 (Ks ++ Is)) ∧ Kept H.length H H') := by
  refine AC.kept ?_ (Nat.le_refl _)
  refine AC_enter t_pestleref05_Known ?_; simp only [c_pestleref05_Known, enterA, List.replicate, List.length_cons, List.length_nil, Nat.reduceAdd, Nat.reduceSub, List.cons_append, List.nil_append]
  have o2 : hown (H ++ [Blk.own (rep 72 (.int .u32 0))]) H.length = some (rep 72 (.int .u32 0)) := hown_last
  obtain ⟨H5, s5, o5, c5, l5⟩ := storeN_ex (n := 72) o2 (Nat.le_refl _) rep_len (W32 (Ks ++ Is)) rfl
  have r5 : readN H5 H.length 0 72 = some (W32 (Ks ++ Is)) := readN_all (hcells_own o5)
  have s5' := s5
  simp only [W32, Ks, Is, List.map_cons, List.map_nil, rep, List.replicate, Int.cast_ofNat_Int, List.cons_append, List.nil_append] at s5'
  (repeat (first | with_reducible (first | refine thenQ_n ?_ | refine blockQ_n ?_ | refine thenQ_e ?_ | refine thenQ_r ?_ | refine blockQ_r ?_ | refine blockQ_s ?_ | refine blockQ_o rfl ?_) | refine AW_skip ?_ | refine AW_seq ?_ | refine AW_ops ?_ | refine AW_blockS ?_ | refine AW_blockR ?_ | refine AW_blockD ?_ | refine AW_blockC ?_ | refine AO_nil ?_ | refine AW_draw ?_ | refine AW_draw3 ?_ | refine AW_blockD3 ?_ | (refine AW_drawA ?_; simp only [atBlk, Sm]) | refine AHd_nil ?_ | with_reducible (first | refine AP_at ?_ | refine AHP_at ?_) | (with_reducible (first | apply AO_any | apply AHd_any | apply AP_go | apply AHP_go); focus (simp only [Sm, wantedA, execA, stepA, List.getElem?_cons_zero, List.getElem?_cons_succ, if_true, if_false, binA, binInt, unA, eqA, Option.map, eq_self, reduceCtorEq, ite_true, ite_false, fitsAll, CK.fits, fillA, AV.cells, writeN, sliceCells, appendA, lenA, i64, loA, hiA, Nat.reduceAdd, Nat.reduceMul, Nat.reduceDiv, Nat.reduceSub, Nat.reduceLeDiff, Nat.reduceLT, Int.reduceLE, Int.reduceLT, foldA, maxA, minA, Int.reduceBEq, Int.reduceBNe, Int.reduceGT, Int.reduceGE, Int.reduceEq, Int.reduceNe, Int.reduceToNat, AOp.stops, ↓want_eq, ↓exec_lenX, ↓exec_storeX, ↓exec_storeN, storeN_one, ↓exec_bsX, ↓exec_sliceX, ↓exec_copyX, ↓exec_appNil, ↓exec_carryX, Nat.sub_zero, rep_len, rep, List.replicate, s5']; with_reducible first | exact EqP.at_ | exact EqP.cont | exact EqP.hcont | exact EqP.gate | exact EqP.hgate)) | (refine AW_ift ?_ ?_; focus (simp only [Sm]; done)) | (refine AW_iff ?_ ?_; focus (simp only [Sm]; done))))
  exact AW_ret ⟨_, by simp only [outA, resA, ressA, AV.tv, Option.map_some, Sm, wantedA, execA, stepA, List.getElem?_cons_zero, List.getElem?_cons_succ, if_true, if_false, binA, binInt, unA, eqA, Option.map, eq_self, reduceCtorEq, ite_true, ite_false, fitsAll, CK.fits, fillA, AV.cells, writeN, sliceCells, appendA, lenA, i64, loA, hiA, Nat.reduceAdd, Nat.reduceMul, Nat.reduceDiv, Nat.reduceSub, Nat.reduceLeDiff, Nat.reduceLT, Int.reduceLE, Int.reduceLT, foldA, maxA, minA, r5] <;> with_reducible rfl, rfl⟩


def qaI (p q : Nat) (all : List UInt8) (H0 : AHeap) (k : Nat) (fr : AFrame) (H : AHeap) : Prop := Chg (· = q) H0 H ∧ hown H q = some (W32 (stO Is (blks 64 all k))) ∧ (∃ s : Nat → AV, fr = [s 0, s 1, .c (.ptr p 0), s 3, s 4, .c (.str all), .c (.ptr q 0), .c (.int .i64 ((64 * k : Nat) : Int)), s 8, s 9, s 10, s 11, s 12, s 13, s 14, s 15, s 16, s 17, s 18, s 19, s 20, s 21, s 22, s 23, s 24, s 25, s 26, s 27, s 28, s 29, s 30, s 31, s 32, s 33, s 34, s 35, s 36, s 37, s 38, s 39, s 40, s 41, s 42, s 43])

def qbI (q : Nat) (r : List Nat) (H0 : AHeap) (i : Nat) (fr : AFrame) (H : AHeap) : Prop := Kept H0.length H0 H ∧ ∃ x, Own H0.length H x 1 (W8 (flat (beB 4) r i)) ∧ (∃ s : Nat → AV, fr = [s 0, s 1, s 2, s 3, s 4, s 5, .c (.ptr q 0), s 7, .c x, .c (.int .i64 (i : Int)), s 10, s 11, s 12, s 13, s 14, s 15, s 16, s 17, s 18, s 19, s 20, s 21, s 22, s 23, s 24, s 25, s 26, s 27, s 28, s 29, s 30, s 31, s 32, s 33, s 34, s 35, s 36, s 37, s 38, s 39, s 40, s 41, s 42, s 43])
theorem AC_refSum (H : AHeap) (msg : List UInt8) (hl : msg.length ≤ 1000000000) :
    AC A H.length F_pestleref05_Sum [.agg (W32 (Ks ++ Is)), .c (.str msg)] H (fun v H' => v = .c (.str (shaO msg)) ∧ Kept H.length H H') := by
  refine AC.kept ?_ (Nat.le_refl _)
  have hout : shaO msg = outO (stO Is (blks 64 (msg ++ padB msg.length) ((msg ++ padB msg.length).length / 64))) := by
    rw [← shaO_of]; simp only [sumO]; rw [(more_of msg (padB msg.length)).1]; rfl
  have hlen : (msg ++ padB msg.length).length = msg.length + (zlen msg.length + 9) := by rw [List.length_append, padB_length]
  have hzl : zlen msg.length < 64 := Nat.mod_lt _ (by decide)
  have hmod : (msg ++ padB msg.length).length % 64 = 0 := by rw [hlen]; simp only [zlen]; omega
  rw [hout]
  have hKI := KI_wd
  have hI := Is_wd
  have hdr : ((W32 (Ks ++ Is)).drop 64).take 8 = W32 Is := by rw [W32_app, List.drop_left' Ks_wd.len]; exact List.take_of_length_le (by rw [hI.len]; omega)
  refine AC_enter t_pestleref05_Sum ?_; simp only [c_pestleref05_Sum, enterA, List.replicate, List.length_cons, List.length_nil, Nat.reduceAdd, Nat.reduceSub, List.cons_append, List.nil_append]
  (repeat (first | with_reducible (first | refine thenQ_n ?_ | refine blockQ_n ?_ | refine thenQ_e ?_ | refine thenQ_r ?_ | refine blockQ_r ?_ | refine blockQ_s ?_ | refine blockQ_o rfl ?_) | refine AW_skip ?_ | refine AW_seq ?_ | refine AW_ops ?_ | refine AW_blockS ?_ | refine AW_blockR ?_ | refine AW_blockD ?_ | refine AW_blockC ?_ | refine AO_nil ?_ | refine AW_draw ?_ | refine AW_draw3 ?_ | refine AW_blockD3 ?_ | (refine AW_drawA ?_; simp only [atBlk, Sm]) | refine AHd_nil ?_ | with_reducible (first | refine AP_at ?_ | refine AHP_at ?_) | (with_reducible (first | apply AO_any | apply AHd_any | apply AP_go | apply AHP_go); focus (simp only [Sm, wantedA, execA, stepA, List.getElem?_cons_zero, List.getElem?_cons_succ, if_true, if_false, binA, binInt, unA, eqA, Option.map, eq_self, reduceCtorEq, ite_true, ite_false, fitsAll, CK.fits, fillA, AV.cells, writeN, sliceCells, appendA, lenA, i64, loA, hiA, Nat.reduceAdd, Nat.reduceMul, Nat.reduceDiv, Nat.reduceSub, Nat.reduceLeDiff, Nat.reduceLT, Int.reduceLE, Int.reduceLT, foldA, maxA, minA, Int.reduceBEq, Int.reduceBNe, Int.reduceGT, Int.reduceGE, Int.reduceEq, Int.reduceNe, Int.reduceToNat, AOp.stops, ↓want_eq, ↓exec_lenX, ↓exec_storeX, ↓exec_storeN, storeN_one, ↓exec_bsX, ↓exec_sliceX, ↓exec_copyX, ↓exec_appNil, ↓exec_carryX, Nat.sub_zero, rep_len]; with_reducible first | exact EqP.at_ | exact EqP.cont | exact EqP.hcont | exact EqP.gate | exact EqP.hgate)) | (refine AW_ift ?_ ?_; focus (simp only [Sm]; done)) | (refine AW_iff ?_ ?_; focus (simp only [Sm]; done))))
  have o1 : hown (H ++ [Blk.own (W32 (Ks ++ Is))]) H.length = some (W32 (Ks ++ Is)) := hown_last
  have l1 : (H ++ [Blk.own (W32 (Ks ++ Is))]).length = H.length + 1 := by simp
  generalize H ++ [Blk.own (W32 (Ks ++ Is))] = H1 at *
  refine AO_call rfl (((AC_refPad H1 msg.length (by omega)).kept (Nat.le_refl _)).floor (by omega)) ?_
  rintro _ H2 ⟨rfl, k2⟩
  have o2 := (Chg.of_kept k2).hown (fun h => h) o1
  have l2 := k2.1
  have hcat : msg.length + (padB msg.length).length ≤ 9223372036854775807 := by rw [padB_length]; omega
  have hal : (msg ++ padB msg.length).length ≤ 1000001000 := by omega
  generalize hall : msg ++ padB msg.length = all at *
  have hc2 := hcells_own o2
  have r2 : readN H2 H.length 64 8 = some (W32 Is) := by
    simp only [readN, hc2, hKI.len, hdr]; rfl
  have o6 : hown (H2 ++ [Blk.own (rep 8 (.int .u32 0))]) H2.length = some (rep 8 (.int .u32 0)) := hown_last
  obtain ⟨H3, s3, u6, c3, l3⟩ := storeN_ex (n := 8) o6 (by omega : H.length ≤ H2.length) rep_len (W32 Is) hI.len
  have u2 := c3.hown (by omega : ¬ H.length = H2.length) (hown_app o2)
  have l3 : H3.length = H2.length + 1 := by rw [l3]; simp
  obtain ⟨K, hK⟩ : ∃ K, all.length = 64 * K := ⟨all.length / 64, by omega⟩
  have hKd : all.length / 64 = K := by omega
  rw [hKd]
  (repeat (first | with_reducible (first | refine thenQ_n ?_ | refine blockQ_n ?_ | refine thenQ_e ?_ | refine thenQ_r ?_ | refine blockQ_r ?_ | refine blockQ_s ?_ | refine blockQ_o rfl ?_) | refine AW_skip ?_ | refine AW_seq ?_ | refine AW_ops ?_ | refine AW_blockS ?_ | refine AW_blockR ?_ | refine AW_blockD ?_ | refine AW_blockC ?_ | refine AO_nil ?_ | refine AW_draw ?_ | refine AW_draw3 ?_ | refine AW_blockD3 ?_ | (refine AW_drawA ?_; simp only [atBlk, Sm]) | refine AHd_nil ?_ | with_reducible (first | refine AP_at ?_ | refine AHP_at ?_) | (with_reducible (first | apply AO_any | apply AHd_any | apply AP_go | apply AHP_go); focus (simp only [Sm, wantedA, execA, stepA, List.getElem?_cons_zero, List.getElem?_cons_succ, if_true, if_false, binA, binInt, unA, eqA, Option.map, eq_self, reduceCtorEq, ite_true, ite_false, fitsAll, CK.fits, fillA, AV.cells, writeN, sliceCells, appendA, lenA, i64, loA, hiA, Nat.reduceAdd, Nat.reduceMul, Nat.reduceDiv, Nat.reduceSub, Nat.reduceLeDiff, Nat.reduceLT, Int.reduceLE, Int.reduceLT, foldA, maxA, minA, Int.reduceBEq, Int.reduceBNe, Int.reduceGT, Int.reduceGE, Int.reduceEq, Int.reduceNe, Int.reduceToNat, AOp.stops, ↓want_eq, ↓exec_lenX, ↓exec_storeX, ↓exec_storeN, storeN_one, ↓exec_bsX, ↓exec_sliceX, ↓exec_copyX, ↓exec_appNil, ↓exec_carryX, Nat.sub_zero, rep_len, binStr, hcat, hall, ↓r2, hc2, s3]; with_reducible first | exact EqP.at_ | exact EqP.cont | exact EqP.hcont | exact EqP.gate | exact EqP.hgate)) | (refine AW_ift ?_ ?_; focus (simp only [Sm]; done)) | (refine AW_iff ?_ ?_; focus (simp only [Sm]; done))))
  generalize hp : H.length = p at *
  generalize hq : H2.length = q at *
  refine AW_mid (fun e fr H' => e = .normal ∧ qaI p q all H3 K fr H') ?_ ?_
  · refine AW_block (AW_up (qaI p q all H3) K ⟨Chg.refl _ _, u6, stale _ _ rfl⟩ ?_)
    rintro k fr H4 hk ⟨c4, o4, st, rfl⟩
    have hwd := stO_wd hI (blks 64 all k)
    have hs1 : stO Is (blks 64 all (k + 1)) = compO (stO Is (blks 64 all k)) (toN (blk 64 all k)) := by rw [blks_succ, stO_app]; rfl
    generalize hu : stO Is (blks 64 all k) = u at *
    (repeat (first | with_reducible (first | refine thenQ_n ?_ | refine blockQ_n ?_ | refine thenQ_e ?_ | refine thenQ_r ?_ | refine blockQ_r ?_ | refine blockQ_s ?_ | refine blockQ_o rfl ?_) | refine AW_skip ?_ | refine AW_seq ?_ | refine AW_ops ?_ | refine AW_blockS ?_ | refine AW_blockR ?_ | refine AW_blockD ?_ | refine AW_blockC ?_ | refine AO_nil ?_ | refine AW_draw ?_ | refine AW_draw3 ?_ | refine AW_blockD3 ?_ | (refine AW_drawA ?_; simp only [atBlk, Sm]) | refine AHd_nil ?_ | with_reducible (first | refine AP_at ?_ | refine AHP_at ?_) | (with_reducible (first | apply AO_any | apply AHd_any | apply AP_go | apply AHP_go); focus (simp only [Sm, wantedA, execA, stepA, List.getElem?_cons_zero, List.getElem?_cons_succ, if_true, if_false, binA, binInt, unA, eqA, Option.map, eq_self, reduceCtorEq, ite_true, ite_false, fitsAll, CK.fits, fillA, AV.cells, writeN, sliceCells, appendA, lenA, i64, loA, hiA, Nat.reduceAdd, Nat.reduceMul, Nat.reduceDiv, Nat.reduceSub, Nat.reduceLeDiff, Nat.reduceLT, Int.reduceLE, Int.reduceLT, foldA, maxA, minA, Int.reduceBEq, Int.reduceBNe, Int.reduceGT, Int.reduceGE, Int.reduceEq, Int.reduceNe, Int.reduceToNat, AOp.stops, ↓want_eq, ↓exec_lenX, ↓exec_storeX, ↓exec_storeN, storeN_one, ↓exec_bsX, ↓exec_sliceX, ↓exec_copyX, ↓exec_appNil, ↓exec_carryX, Nat.sub_zero, rep_len]; with_reducible first | exact EqP.at_ | exact EqP.cont | exact EqP.hcont | exact EqP.gate | exact EqP.hgate)) | (refine AW_ift ?_ ?_; focus (simp only [Sm]; done)) | (refine AW_iff ?_ ?_; focus (simp only [Sm]; done))))
    refine AW_cond rfl ?_ ?_ <;> intro ht
    · have ht : ((64 * k : Nat) : Int) < ((all.length : Nat) : Int) := of_decide_eq_true ht
      have hk2 : k < K := by omega
      have h2 := hcells_own (c4.hown (by omega : ¬ p = q) u2)
      have r2 : readN H4 p 0 72 = some (W32 (Ks ++ Is)) := by have := readN_all h2; rw [hKI.len] at this; exact this
      have r6 : readN H4 q 0 8 = some (W32 u) := by have := readN_all (hcells_own o4); rw [hwd.len] at this; exact this
      have e1 : IntKind.i64.wrap (((64 * k : Nat) : Int) + 64) = ((64 * (k + 1) : Nat) : Int) := by rw [i64_of (by omega) (by omega)]; omega
      have b1 : ((64 * (k + 1) : Nat) : Int) ≤ ((all.length : Nat) : Int) := by omega
      have b2 : (0 : Int) ≤ ((64 * (k + 1) : Nat) : Int) := by omega
      have b3 : (0 : Int) ≤ ((64 * k : Nat) : Int) := by omega
      have b4 : 64 * k ≤ 64 * (k + 1) := by omega
      have b5 : 64 * (k + 1) - 64 * k = 64 := by omega
      have hbk : (all.drop (64 * k)).take 64 = blk 64 all k := by rw [Nat.mul_comm]; rfl
      have hbl : (blk 64 all k).length = 64 := by simp only [blk, List.length_take, List.length_drop]; omega
      (repeat (first | with_reducible (first | refine thenQ_n ?_ | refine blockQ_n ?_ | refine thenQ_e ?_ | refine thenQ_r ?_ | refine blockQ_r ?_ | refine blockQ_s ?_ | refine blockQ_o rfl ?_) | refine AW_skip ?_ | refine AW_seq ?_ | refine AW_ops ?_ | refine AW_blockS ?_ | refine AW_blockR ?_ | refine AW_blockD ?_ | refine AW_blockC ?_ | refine AO_nil ?_ | refine AW_draw ?_ | refine AW_draw3 ?_ | refine AW_blockD3 ?_ | (refine AW_drawA ?_; simp only [atBlk, Sm]) | refine AHd_nil ?_ | with_reducible (first | refine AP_at ?_ | refine AHP_at ?_) | (with_reducible (first | apply AO_any | apply AHd_any | apply AP_go | apply AHP_go); focus (simp only [Sm, wantedA, execA, stepA, List.getElem?_cons_zero, List.getElem?_cons_succ, if_true, if_false, binA, binInt, unA, eqA, Option.map, eq_self, reduceCtorEq, ite_true, ite_false, fitsAll, CK.fits, fillA, AV.cells, writeN, sliceCells, appendA, lenA, i64, loA, hiA, Nat.reduceAdd, Nat.reduceMul, Nat.reduceDiv, Nat.reduceSub, Nat.reduceLeDiff, Nat.reduceLT, Int.reduceLE, Int.reduceLT, foldA, maxA, minA, Int.reduceBEq, Int.reduceBNe, Int.reduceGT, Int.reduceGE, Int.reduceEq, Int.reduceNe, Int.reduceToNat, AOp.stops, ↓want_eq, ↓exec_lenX, ↓exec_storeX, ↓exec_storeN, storeN_one, ↓exec_bsX, ↓exec_sliceX, ↓exec_copyX, ↓exec_appNil, ↓exec_carryX, Nat.sub_zero, rep_len, ↓r2, ↓r6, e1, b1, b2, b3, b4, b5, hbk, Int.toNat_natCast]; with_reducible first | exact EqP.at_ | exact EqP.cont | exact EqP.hcont | exact EqP.gate | exact EqP.hgate)) | (refine AW_ift ?_ ?_; focus (simp only [Sm]; done)) | (refine AW_iff ?_ ?_; focus (simp only [Sm]; done))))
      refine AO_call rfl (((AC_refCompress H4 u (blk 64 all k) hwd hbl).kept (Nat.le_refl _)).floor (by have := c4.1; omega)) ?_
      rintro _ H5 ⟨rfl, k5⟩
      have hwc := compO_wd (bs := toN (blk 64 all k)) hwd
      rw [← hs1] at hwc
      have hs2 := hs1.symm
      have o5 := (Chg.of_kept k5).hown (fun h => h) o4
      obtain ⟨H6, s6, o6, c6, l6⟩ := storeN_ex (n := 8) o5 (by omega : p ≤ q) hwd.len (W32 (stO Is (blks 64 all (k + 1)))) hwc.len
      (repeat (first | with_reducible (first | refine thenQ_n ?_ | refine blockQ_n ?_ | refine thenQ_e ?_ | refine thenQ_r ?_ | refine blockQ_r ?_ | refine blockQ_s ?_ | refine blockQ_o rfl ?_) | refine AW_skip ?_ | refine AW_seq ?_ | refine AW_ops ?_ | refine AW_blockS ?_ | refine AW_blockR ?_ | refine AW_blockD ?_ | refine AW_blockC ?_ | refine AO_nil ?_ | refine AW_draw ?_ | refine AW_draw3 ?_ | refine AW_blockD3 ?_ | (refine AW_drawA ?_; simp only [atBlk, Sm]) | refine AHd_nil ?_ | with_reducible (first | refine AP_at ?_ | refine AHP_at ?_) | (with_reducible (first | apply AO_any | apply AHd_any | apply AP_go | apply AHP_go); focus (simp only [Sm, wantedA, execA, stepA, List.getElem?_cons_zero, List.getElem?_cons_succ, if_true, if_false, binA, binInt, unA, eqA, Option.map, eq_self, reduceCtorEq, ite_true, ite_false, fitsAll, CK.fits, fillA, AV.cells, writeN, sliceCells, appendA, lenA, i64, loA, hiA, Nat.reduceAdd, Nat.reduceMul, Nat.reduceDiv, Nat.reduceSub, Nat.reduceLeDiff, Nat.reduceLT, Int.reduceLE, Int.reduceLT, foldA, maxA, minA, Int.reduceBEq, Int.reduceBNe, Int.reduceGT, Int.reduceGE, Int.reduceEq, Int.reduceNe, Int.reduceToNat, AOp.stops, ↓want_eq, ↓exec_lenX, ↓exec_storeX, ↓exec_storeN, storeN_one, ↓exec_bsX, ↓exec_sliceX, ↓exec_copyX, ↓exec_appNil, ↓exec_carryX, Nat.sub_zero, rep_len, hs2, s6, e1]; with_reducible first | exact EqP.at_ | exact EqP.cont | exact EqP.hcont | exact EqP.gate | exact EqP.hgate)) | (refine AW_ift ?_ ?_; focus (simp only [Sm]; done)) | (refine AW_iff ?_ ?_; focus (simp only [Sm]; done))))
      exact ⟨hk2, (c4.trans (Chg.of_kept k5) (fun _ _ h => h.elim)).trans c6 (fun _ _ h => h), o6, stale _ _ rfl⟩
    · obtain rfl : k = K := by have : ¬ ((64 * k : Nat) : Int) < ((all.length : Nat) : Int) := of_decide_eq_false ht; omega
      subst hu
      exact AW_exit ⟨rfl, c4, o4, stale _ _ rfl⟩
  rintro e fr H4 ⟨rfl, c4, o4, st, rfl⟩
  have hwd := stO_wd hI (blks 64 all K)
  generalize stO Is (blks 64 all K) = r at *
  have l4 := c4.1
  (repeat (first | with_reducible (first | refine thenQ_n ?_ | refine blockQ_n ?_ | refine thenQ_e ?_ | refine thenQ_r ?_ | refine blockQ_r ?_ | refine blockQ_s ?_ | refine blockQ_o rfl ?_) | refine AW_skip ?_ | refine AW_seq ?_ | refine AW_ops ?_ | refine AW_blockS ?_ | refine AW_blockR ?_ | refine AW_blockD ?_ | refine AW_blockC ?_ | refine AO_nil ?_ | refine AW_draw ?_ | refine AW_draw3 ?_ | refine AW_blockD3 ?_ | (refine AW_drawA ?_; simp only [atBlk, Sm]) | refine AHd_nil ?_ | with_reducible (first | refine AP_at ?_ | refine AHP_at ?_) | (with_reducible (first | apply AO_any | apply AHd_any | apply AP_go | apply AHP_go); focus (simp only [Sm, wantedA, execA, stepA, List.getElem?_cons_zero, List.getElem?_cons_succ, if_true, if_false, binA, binInt, unA, eqA, Option.map, eq_self, reduceCtorEq, ite_true, ite_false, fitsAll, CK.fits, fillA, AV.cells, writeN, sliceCells, appendA, lenA, i64, loA, hiA, Nat.reduceAdd, Nat.reduceMul, Nat.reduceDiv, Nat.reduceSub, Nat.reduceLeDiff, Nat.reduceLT, Int.reduceLE, Int.reduceLT, foldA, maxA, minA, Int.reduceBEq, Int.reduceBNe, Int.reduceGT, Int.reduceGE, Int.reduceEq, Int.reduceNe, Int.reduceToNat, AOp.stops, ↓want_eq, ↓exec_lenX, ↓exec_storeX, ↓exec_storeN, storeN_one, ↓exec_bsX, ↓exec_sliceX, ↓exec_copyX, ↓exec_appNil, ↓exec_carryX, Nat.sub_zero, rep_len]; with_reducible first | exact EqP.at_ | exact EqP.cont | exact EqP.hcont | exact EqP.gate | exact EqP.hgate)) | (refine AW_ift ?_ ?_; focus (simp only [Sm]; done)) | (refine AW_iff ?_ ?_; focus (simp only [Sm]; done))))
  refine AW_mid (fun e fr H' => e = .normal ∧ qbI q r H4 8 fr H') ?_ ?_
  · refine AW_block (AW_up (qbI q r H4) 8 ⟨Kept.refl _ _, .snil, Own.nil, stale _ _ rfl⟩ ?_)
    rintro i fr H5 hi ⟨k5, x, hx, st, rfl⟩
    (repeat (first | with_reducible (first | refine thenQ_n ?_ | refine blockQ_n ?_ | refine thenQ_e ?_ | refine thenQ_r ?_ | refine blockQ_r ?_ | refine blockQ_s ?_ | refine blockQ_o rfl ?_) | refine AW_skip ?_ | refine AW_seq ?_ | refine AW_ops ?_ | refine AW_blockS ?_ | refine AW_blockR ?_ | refine AW_blockD ?_ | refine AW_blockC ?_ | refine AO_nil ?_ | refine AW_draw ?_ | refine AW_draw3 ?_ | refine AW_blockD3 ?_ | (refine AW_drawA ?_; simp only [atBlk, Sm]) | refine AHd_nil ?_ | with_reducible (first | refine AP_at ?_ | refine AHP_at ?_) | (with_reducible (first | apply AO_any | apply AHd_any | apply AP_go | apply AHP_go); focus (simp only [Sm, wantedA, execA, stepA, List.getElem?_cons_zero, List.getElem?_cons_succ, if_true, if_false, binA, binInt, unA, eqA, Option.map, eq_self, reduceCtorEq, ite_true, ite_false, fitsAll, CK.fits, fillA, AV.cells, writeN, sliceCells, appendA, lenA, i64, loA, hiA, Nat.reduceAdd, Nat.reduceMul, Nat.reduceDiv, Nat.reduceSub, Nat.reduceLeDiff, Nat.reduceLT, Int.reduceLE, Int.reduceLT, foldA, maxA, minA, Int.reduceBEq, Int.reduceBNe, Int.reduceGT, Int.reduceGE, Int.reduceEq, Int.reduceNe, Int.reduceToNat, AOp.stops, ↓want_eq, ↓exec_lenX, ↓exec_storeX, ↓exec_storeN, storeN_one, ↓exec_bsX, ↓exec_sliceX, ↓exec_copyX, ↓exec_appNil, ↓exec_carryX, Nat.sub_zero, rep_len]; with_reducible first | exact EqP.at_ | exact EqP.cont | exact EqP.hcont | exact EqP.gate | exact EqP.hgate)) | (refine AW_ift ?_ ?_; focus (simp only [Sm]; done)) | (refine AW_iff ?_ ?_; focus (simp only [Sm]; done))))
    refine AW_cond rfl ?_ ?_ <;> intro ht
    · have ht : (i : Int) < 8 := of_decide_eq_true ht
      have hi2 : i < 8 := by omega
      have h5 := hcells_own ((Chg.of_kept k5).hown (fun h => h) o4)
      have g1 := hwd.get (i := i) hi2
      have hv := hwd.2 i
      have hfs : flat (beB 4) r (i + 1) = flat (beB 4) r i ++ beB 4 (r.getD i 0) := rfl
      generalize r.getD i 0 = v at *
      (repeat (first | with_reducible (first | refine thenQ_n ?_ | refine blockQ_n ?_ | refine thenQ_e ?_ | refine thenQ_r ?_ | refine blockQ_r ?_ | refine blockQ_s ?_ | refine blockQ_o rfl ?_) | refine AW_skip ?_ | refine AW_seq ?_ | refine AW_ops ?_ | refine AW_blockS ?_ | refine AW_blockR ?_ | refine AW_blockD ?_ | refine AW_blockC ?_ | refine AO_nil ?_ | refine AW_draw ?_ | refine AW_draw3 ?_ | refine AW_blockD3 ?_ | (refine AW_drawA ?_; simp only [atBlk, Sm]) | refine AHd_nil ?_ | with_reducible (first | refine AP_at ?_ | refine AHP_at ?_) | (with_reducible (first | apply AO_any | apply AHd_any | apply AP_go | apply AHP_go); focus (simp only [Sm, wantedA, execA, stepA, List.getElem?_cons_zero, List.getElem?_cons_succ, if_true, if_false, binA, binInt, unA, eqA, Option.map, eq_self, reduceCtorEq, ite_true, ite_false, fitsAll, CK.fits, fillA, AV.cells, writeN, sliceCells, appendA, lenA, i64, loA, hiA, Nat.reduceAdd, Nat.reduceMul, Nat.reduceDiv, Nat.reduceSub, Nat.reduceLeDiff, Nat.reduceLT, Int.reduceLE, Int.reduceLT, foldA, maxA, minA, Int.reduceBEq, Int.reduceBNe, Int.reduceGT, Int.reduceGE, Int.reduceEq, Int.reduceNe, Int.reduceToNat, AOp.stops, ↓want_eq, ↓exec_lenX, ↓exec_storeX, ↓exec_storeN, storeN_one, ↓exec_bsX, ↓exec_sliceX, ↓exec_copyX, ↓exec_appNil, ↓exec_carryX, Nat.sub_zero, rep_len, h5, ht, g1, Nat.zero_add]; with_reducible first | exact EqP.at_ | exact EqP.cont | exact EqP.hcont | exact EqP.gate | exact EqP.hgate)) | (refine AW_ift ?_ ?_; focus (simp only [Sm]; done)) | (refine AW_iff ?_ ?_; focus (simp only [Sm]; done))))
      refine AO_call rfl (((AC_Of32 H5 v hv).kept (Nat.le_refl _)).floor (by have := k5.1; omega)) ?_
      rintro _ H6 ⟨⟨x6, rfl, h6⟩, k6⟩
      (repeat (first | with_reducible (first | refine thenQ_n ?_ | refine blockQ_n ?_ | refine thenQ_e ?_ | refine thenQ_r ?_ | refine blockQ_r ?_ | refine blockQ_s ?_ | refine blockQ_o rfl ?_) | refine AW_skip ?_ | refine AW_seq ?_ | refine AW_ops ?_ | refine AW_blockS ?_ | refine AW_blockR ?_ | refine AW_blockD ?_ | refine AW_blockC ?_ | refine AO_nil ?_ | refine AW_draw ?_ | refine AW_draw3 ?_ | refine AW_blockD3 ?_ | (refine AW_drawA ?_; simp only [atBlk, Sm]) | refine AHd_nil ?_ | with_reducible (first | refine AP_at ?_ | refine AHP_at ?_) | (with_reducible (first | apply AO_any | apply AHd_any | apply AP_go | apply AHP_go); focus (simp only [Sm, wantedA, execA, stepA, List.getElem?_cons_zero, List.getElem?_cons_succ, if_true, if_false, binA, binInt, unA, eqA, Option.map, eq_self, reduceCtorEq, ite_true, ite_false, fitsAll, CK.fits, fillA, AV.cells, writeN, sliceCells, appendA, lenA, i64, loA, hiA, Nat.reduceAdd, Nat.reduceMul, Nat.reduceDiv, Nat.reduceSub, Nat.reduceLeDiff, Nat.reduceLT, Int.reduceLE, Int.reduceLT, foldA, maxA, minA, Int.reduceBEq, Int.reduceBNe, Int.reduceGT, Int.reduceGE, Int.reduceEq, Int.reduceNe, Int.reduceToNat, AOp.stops, ↓want_eq, ↓exec_lenX, ↓exec_storeX, ↓exec_storeN, storeN_one, ↓exec_bsX, ↓exec_sliceX, ↓exec_copyX, ↓exec_appNil, ↓exec_carryX, Nat.sub_zero, rep_len]; with_reducible first | exact EqP.at_ | exact EqP.cont | exact EqP.hcont | exact EqP.gate | exact EqP.hgate)) | (refine AW_ift ?_ ?_; focus (simp only [Sm]; done)) | (refine AW_iff ?_ ?_; focus (simp only [Sm]; done))))
      refine AO_call rfl (((AC_Turned H6 x6 _ h6.rd (by rw [leB_length]; omega)).kept (Nat.le_refl _)).floor (by have := k5.1; have := k6.1; omega)) ?_
      rintro _ H7 ⟨⟨x7, rfl, h7⟩, k7⟩
      have hbe : (leB 4 v).reverse = beB 4 v := rfl
      rw [hbe] at h7
      have hx7 := (hx.kept k6).kept k7
      have hfl := flat_length (beB_length 4) r i
      refine AO_appendT (bytes := 1) (f := H4.length) hx7.t h7.rd.cells rfl (by omega) (Nat.mod_one _) (by omega) (by have := k5.1; have := k6.1; have := k7.1; omega) (by rw [W8_length, W8_length, beB_length]; omega) rfl rfl ?_
      rintro q' n' H8 hq' h8 c8
      rw [← W8_append, ← hfs] at h8
      have esc := i64_succ (show i < 9223372036854775807 by omega)
      (repeat (first | with_reducible (first | refine thenQ_n ?_ | refine blockQ_n ?_ | refine thenQ_e ?_ | refine thenQ_r ?_ | refine blockQ_r ?_ | refine blockQ_s ?_ | refine blockQ_o rfl ?_) | refine AW_skip ?_ | refine AW_seq ?_ | refine AW_ops ?_ | refine AW_blockS ?_ | refine AW_blockR ?_ | refine AW_blockD ?_ | refine AW_blockC ?_ | refine AO_nil ?_ | refine AW_draw ?_ | refine AW_draw3 ?_ | refine AW_blockD3 ?_ | (refine AW_drawA ?_; simp only [atBlk, Sm]) | refine AHd_nil ?_ | with_reducible (first | refine AP_at ?_ | refine AHP_at ?_) | (with_reducible (first | apply AO_any | apply AHd_any | apply AP_go | apply AHP_go); focus (simp only [Sm, wantedA, execA, stepA, List.getElem?_cons_zero, List.getElem?_cons_succ, if_true, if_false, binA, binInt, unA, eqA, Option.map, eq_self, reduceCtorEq, ite_true, ite_false, fitsAll, CK.fits, fillA, AV.cells, writeN, sliceCells, appendA, lenA, i64, loA, hiA, Nat.reduceAdd, Nat.reduceMul, Nat.reduceDiv, Nat.reduceSub, Nat.reduceLeDiff, Nat.reduceLT, Int.reduceLE, Int.reduceLT, foldA, maxA, minA, Int.reduceBEq, Int.reduceBNe, Int.reduceGT, Int.reduceGE, Int.reduceEq, Int.reduceNe, Int.reduceToNat, AOp.stops, ↓want_eq, ↓exec_lenX, ↓exec_storeX, ↓exec_storeN, storeN_one, ↓exec_bsX, ↓exec_sliceX, ↓exec_copyX, ↓exec_appNil, ↓exec_carryX, Nat.sub_zero, rep_len, esc]; with_reducible first | exact EqP.at_ | exact EqP.cont | exact EqP.hcont | exact EqP.gate | exact EqP.hgate)) | (refine AW_ift ?_ ?_; focus (simp only [Sm]; done)) | (refine AW_iff ?_ ?_; focus (simp only [Sm]; done))))
      exact ⟨hi2, kept_app (((Chg.of_kept k5).trans (Chg.of_kept k6) (fun _ _ h => h)).trans (Chg.of_kept k7) (fun _ _ h => h)).kept hx7 c8, _, h8, stale _ _ rfl⟩
    · obtain rfl : i = 8 := by have : ¬ (i : Int) < 8 := of_decide_eq_false ht; omega
      exact AW_exit ⟨rfl, k5, x, hx, stale _ _ rfl⟩
  rintro e fr H5 ⟨rfl, k5, x, hx, st, rfl⟩
  have hr8 : outO r = (flat (beB 4) r 8).map UInt8.ofNat := by rw [outO, hwd.1]
  rw [W8B8 (flat_lt (beB_lt 4) r 8), ← hr8] at hx
  (repeat (first | with_reducible (first | refine thenQ_n ?_ | refine blockQ_n ?_ | refine thenQ_e ?_ | refine thenQ_r ?_ | refine blockQ_r ?_ | refine blockQ_s ?_ | refine blockQ_o rfl ?_) | refine AW_skip ?_ | refine AW_seq ?_ | refine AW_ops ?_ | refine AW_blockS ?_ | refine AW_blockR ?_ | refine AW_blockD ?_ | refine AW_blockC ?_ | refine AO_nil ?_ | refine AW_draw ?_ | refine AW_draw3 ?_ | refine AW_blockD3 ?_ | (refine AW_drawA ?_; simp only [atBlk, Sm]) | refine AHd_nil ?_ | with_reducible (first | refine AP_at ?_ | refine AHP_at ?_) | (with_reducible (first | apply AO_any | apply AHd_any | apply AP_go | apply AHP_go); focus (simp only [Sm, wantedA, execA, stepA, List.getElem?_cons_zero, List.getElem?_cons_succ, if_true, if_false, binA, binInt, unA, eqA, Option.map, eq_self, reduceCtorEq, ite_true, ite_false, fitsAll, CK.fits, fillA, AV.cells, writeN, sliceCells, appendA, lenA, i64, loA, hiA, Nat.reduceAdd, Nat.reduceMul, Nat.reduceDiv, Nat.reduceSub, Nat.reduceLeDiff, Nat.reduceLT, Int.reduceLE, Int.reduceLT, foldA, maxA, minA, Int.reduceBEq, Int.reduceBNe, Int.reduceGT, Int.reduceGE, Int.reduceEq, Int.reduceNe, Int.reduceToNat, AOp.stops, ↓want_eq, ↓exec_lenX, ↓exec_storeX, ↓exec_storeN, storeN_one, ↓exec_bsX, ↓exec_sliceX, ↓exec_copyX, ↓exec_appNil, ↓exec_carryX, Nat.sub_zero, rep_len, bsX_rd hx.rd]; with_reducible first | exact EqP.at_ | exact EqP.cont | exact EqP.hcont | exact EqP.gate | exact EqP.hgate)) | (refine AW_ift ?_ ?_; focus (simp only [Sm]; done)) | (refine AW_iff ?_ ?_; focus (simp only [Sm]; done))))
  exact AW_ret ⟨_, rfl, rfl⟩
end PK

/- Texts put together bit by bit: words.Xor, the document's Mixed and Xor. -/
namespace PK
open Go PAbs
set_option linter.unusedSimpArgs false
set_option linter.unusedVariables false
set_option maxRecDepth 100000
set_option maxHeartbeats 4000000

def xorB (a b : List UInt8) : List UInt8 := List.zipWith (· ^^^ ·) a b
def xorAll : List UInt8 → List (List UInt8) → Option (List UInt8)
  | acc, [] => some acc
  | acc, s :: r => if s.length = acc.length then xorAll (xorB acc s) r else none
def xorL : List (List UInt8) → Option (List UInt8)
  | [] => some []
  | s :: r => xorAll s r
theorem xorB_length {a b : List UInt8} (h : b.length = a.length) : (xorB a b).length = a.length := by simp [xorB, h]
theorem xorAll_length : ∀ {l : List (List UInt8)} {s acc : List UInt8}, xorAll s l = some acc → acc.length = s.length
  | [], s, acc, h => by simp only [xorAll, Option.some.injEq] at h; rw [h]
  | x :: l, s, acc, h => by
    simp only [xorAll] at h
    split at h
    · rename_i hx; rw [xorAll_length h, xorB_length hx]
    · cases h
theorem xorAll_append : ∀ (l m : List (List UInt8)) (s : List UInt8), xorAll s (l ++ m) = (xorAll s l).bind fun acc => xorAll acc m
  | [], m, s => rfl
  | x :: l, m, s => by
    simp only [List.cons_append, xorAll]
    split
    · exact xorAll_append l m _
    · rfl
theorem take_one {α : Type} {l : List α} {i : Nat} {x : α} (h : l[i]? = some x) : l.take (i + 1) = l.take i ++ [x] := by rw [List.take_add_one, h]; rfl
theorem xorAll_step {l : List (List UInt8)} {s acc x : List UInt8} {i : Nat} (h : xorAll s (l.take i) = some acc) (hx : l[i]? = some x) : xorAll s (l.take (i + 1)) = if x.length = acc.length then some (xorB acc x) else none := by
  rw [take_one hx, xorAll_append, h]; rfl
theorem xorAll_stop {l : List (List UInt8)} {s : List UInt8} {i : Nat} (h : xorAll s (l.take i) = none) : xorAll s l = none := by
  rw [← List.take_append_drop i l, xorAll_append, h]; rfl

def mixAt (a x : List UInt8) (k : Nat) : UInt8 := a.getD k 0 ^^^ x.getD k 0
theorem upd_xor {a x : List UInt8} (h : x.length = a.length) : upd (mixAt a x) a a.length = xorB a x := by
  have := upd_eq (f := mixAt a x) (l := a) (m := xorB a x) (by rw [xorB_length h]) ?_
  · rw [xorB_length h] at this; exact this
  · intro j hj
    rw [xorB_length h] at hj
    simp [xorB, mixAt, List.getElem?_zipWith, hj, h]

def xorV (o : Option (List UInt8)) : AV := match o with | some t => .tup [.c (.str t), .c (.int .i64 0)] | none => .tup [.c (.str []), .c (.int .i64 9)]
def xorI (b n : Nat) (x16 : Cell) (s : List UInt8) (l : List (List UInt8)) (H0 : AHeap) (i : Nat) (fr : AFrame) (H : AHeap) : Prop := Kept H0.length H0 H ∧ (∃ acc, xorAll s (l.take i) = some acc ∧ hown H b = some (B8 acc)) ∧ (∃ s : Nat → AV, fr = [s 0, s 1, s 2, s 3, .c (.slc b 0 n 1), s 5, s 6, s 7, s 8, s 9, s 10, s 11, s 12, s 13, s 14, s 15, .c x16, .c (.int .i64 (l.length : Int)), .c (.int .i64 (i : Int)), s 19, s 20, s 21, s 22, s 23, s 24, s 25, s 26, s 27, s 28, s 29, s 30, s 31, s 32, s 33, s 34, s 35, s 36, s 37, s 38, s 39, s 40, s 41, s 42, s 43, s 44])

def xorJ (b n : Nat) (x16 : Cell) (acc x : List UInt8) (l : List (List UInt8)) (i : Nat) (H0 : AHeap) (k : Nat) (fr : AFrame) (H : AHeap) : Prop := Kept H0.length H0 H ∧ hown H b = some (B8 (upd (mixAt acc x) acc k)) ∧ (∃ s : Nat → AV, fr = [s 0, s 1, s 2, s 3, .c (.slc b 0 n 1), s 5, .c (.str x), s 7, s 8, s 9, s 10, s 11, s 12, s 13, s 14, s 15, .c x16, .c (.int .i64 (l.length : Int)), .c (.int .i64 (i : Int)), s 19, s 20, s 21, s 22, s 23, s 24, s 25, s 26, s 27, .c (.int .i64 (n : Int)), .c (.int .i64 (k : Int)), s 30, s 31, s 32, s 33, s 34, s 35, s 36, s 37, s 38, s 39, s 40, s 41, s 42, s 43, s 44])




theorem AC_Xor (H : AHeap) (y : Cell) (ss : List (List UInt8)) (hy : Rd H y 1 (ss.map Cell.str)) (hl : ss.length ≤ 1000000) (hs : ∀ s ∈ ss, s.length ≤ 1000000000) : AC A H.length F_words_Xor [.c y] H (fun v H' => v = xorV (xorL ss)) := by
  have yl : (ss.map Cell.str).length = ss.length := by simp
  refine AC_enter t_words_Xor ?_; simp only [c_words_Xor, enterA, List.replicate, List.length_cons, List.length_nil, Nat.reduceAdd, Nat.reduceSub, List.cons_append, List.nil_append]
  cases ss with
  | nil =>
    (repeat (first | with_reducible refine thenQ_n ?_ | with_reducible refine blockQ_n ?_ | refine AW_skip ?_ | refine AW_seq ?_ | refine AW_ops ?_ | refine AW_blockS ?_ | refine AW_blockR ?_ | refine AW_blockD ?_ | refine AW_blockC ?_ | refine AO_nil ?_ | refine AW_draw ?_ | refine AW_draw3 ?_ | refine AW_blockD3 ?_ | refine AHd_nil ?_ | ((first | with_reducible apply AO_pre | with_reducible apply AHd_pre); focus (simp only [List.take_succ_cons, List.take_zero, List.drop_succ_cons, List.drop_zero, bne_self_eq_false, List.map_cons, List.map_nil, Bool.true_beq, Bool.false_beq, run_nil, run_cons, run_gate, cont_some, gate_true, gate_false, hrun_nil, hrun_cons, hrun_gate, hcont_some, hgate_true, hgate_false, put_some, put_none, ev_t, ev_k, wantedA, execA, stepA, List.set_cons_succ, List.set_cons_zero, List.getD_cons_succ, List.getD_cons_zero, List.getElem?_cons_zero, List.getElem?_cons_succ, if_true, if_false, binA, binInt, unA, eqA, Option.map, eq_self, true_or, or_true, true_and, and_true, and_self, beq_self_eq_true, Bool.not_true, Bool.not_false, reduceCtorEq, Bool.false_eq_true, ite_true, ite_false, fitsAll, CK.fits, decide_true, Bool.and_true, Bool.true_and, fillA, AV.cells, writeN, readN, sliceCells, appendA, lenA, i64, loA, hiA, hcells_last, hown_last, List.take_zero, List.drop_zero, List.nil_append, List.cons_append, List.append_nil, List.take_nil, List.drop_nil, List.length_cons, List.length_nil, List.length_append, Nat.zero_add, Nat.add_zero, Nat.reduceAdd, Nat.reduceMul, Nat.reduceDiv, Nat.reduceSub, Nat.mul_one, Nat.one_mul, Nat.div_one, Nat.le_refl, Nat.reduceLeDiff, Nat.reduceLT, Int.toNat_natCast, Int.toNat_zero, Nat.zero_le, Int.natCast_nonneg, Int.reduceLE, Int.reduceLT, Option.some.injEq, foldA, maxA, minA, Cell.int.injEq, AV.c.injEq, pre_nil, pre_cons, pre_gate, pre1_cons, pre1_gate, qstop_true, qstop_false, qstopg_false, qgate_true, qgate_false, pcont_some, pstop_true, pstop_false, pstopg_false, pgate_true, pgate_false, hpre_nil, hpre_cons, hpre_gate, hpre1_cons, hpre1_gate, hqstop_true, hqstop_false, hqstopg_false, hqgate_true, hqgate_false, hpcont_some, hpstop_true, hpstop_false, hpstopg_false, hpgate_true, hpgate_false, Int.reduceBEq, Int.reduceBNe, Int.reduceGT, Int.reduceGE, Int.reduceEq, Int.reduceNe, decide_false, nat_0, nat_1, nat_2, nat_3, nat_4, nat_8, nat_16, nat_64, nat_128, Int.reduceToNat, AOp.stops, pre1_nil, hpre1_nil, ↓want_eq, wantV_bool, wantV_undef, ↓exec_lenX, lenX_snil, lenX_slc, hy.len0 rfl (by omega)]; with_reducible rfl))))
    refine AW_cond (t := true) rfl (fun _ => ?_) (fun h => by cases h)
    (repeat (first | with_reducible refine thenQ_n ?_ | with_reducible refine blockQ_n ?_ | refine AW_skip ?_ | refine AW_seq ?_ | refine AW_ops ?_ | refine AW_blockS ?_ | refine AW_blockR ?_ | refine AW_blockD ?_ | refine AW_blockC ?_ | refine AO_nil ?_ | refine AW_draw ?_ | refine AW_draw3 ?_ | refine AW_blockD3 ?_ | refine AHd_nil ?_ | ((first | with_reducible apply AO_pre | with_reducible apply AHd_pre); focus (simp only [List.take_succ_cons, List.take_zero, List.drop_succ_cons, List.drop_zero, bne_self_eq_false, List.map_cons, List.map_nil, Bool.true_beq, Bool.false_beq, run_nil, run_cons, run_gate, cont_some, gate_true, gate_false, hrun_nil, hrun_cons, hrun_gate, hcont_some, hgate_true, hgate_false, put_some, put_none, ev_t, ev_k, wantedA, execA, stepA, List.set_cons_succ, List.set_cons_zero, List.getD_cons_succ, List.getD_cons_zero, List.getElem?_cons_zero, List.getElem?_cons_succ, if_true, if_false, binA, binInt, unA, eqA, Option.map, eq_self, true_or, or_true, true_and, and_true, and_self, beq_self_eq_true, Bool.not_true, Bool.not_false, reduceCtorEq, Bool.false_eq_true, ite_true, ite_false, fitsAll, CK.fits, decide_true, Bool.and_true, Bool.true_and, fillA, AV.cells, writeN, readN, sliceCells, appendA, lenA, i64, loA, hiA, hcells_last, hown_last, List.take_zero, List.drop_zero, List.nil_append, List.cons_append, List.append_nil, List.take_nil, List.drop_nil, List.length_cons, List.length_nil, List.length_append, Nat.zero_add, Nat.add_zero, Nat.reduceAdd, Nat.reduceMul, Nat.reduceDiv, Nat.reduceSub, Nat.mul_one, Nat.one_mul, Nat.div_one, Nat.le_refl, Nat.reduceLeDiff, Nat.reduceLT, Int.toNat_natCast, Int.toNat_zero, Nat.zero_le, Int.natCast_nonneg, Int.reduceLE, Int.reduceLT, Option.some.injEq, foldA, maxA, minA, Cell.int.injEq, AV.c.injEq, pre_nil, pre_cons, pre_gate, pre1_cons, pre1_gate, qstop_true, qstop_false, qstopg_false, qgate_true, qgate_false, pcont_some, pstop_true, pstop_false, pstopg_false, pgate_true, pgate_false, hpre_nil, hpre_cons, hpre_gate, hpre1_cons, hpre1_gate, hqstop_true, hqstop_false, hqstopg_false, hqgate_true, hqgate_false, hpcont_some, hpstop_true, hpstop_false, hpstopg_false, hpgate_true, hpgate_false, Int.reduceBEq, Int.reduceBNe, Int.reduceGT, Int.reduceGE, Int.reduceEq, Int.reduceNe, decide_false, nat_0, nat_1, nat_2, nat_3, nat_4, nat_8, nat_16, nat_64, nat_128, Int.reduceToNat, AOp.stops, pre1_nil, hpre1_nil, ↓want_eq, wantV_bool, wantV_undef, ↓exec_lenX, lenX_snil, lenX_slc]; with_reducible rfl))))
    exact AW_ret ⟨_, rfl, rfl⟩
  | cons w l =>
  obtain ⟨m, hm⟩ : ∃ m, l.length = m := ⟨_, rfl⟩
  have hl : m + 1 ≤ 1000000 := by rw [← hm]; exact hl
  have yl : (List.map Cell.str (w :: l)).length = m + 1 := by simp [hm]
  have hsl : w.length ≤ 1000000000 := hs w (by simp)
  obtain ⟨u, o, full, rfl, hf, hg⟩ := hy.get (i := 0) (by omega)
  rw [yl] at hy
  have hy1 : Rd H (.slc u (o + 1) m 1) 1 (l.map Cell.str) := by
    have := hy.sub (i := 1) (j := m + 1) (by omega) (by omega)
    have e : ((List.map Cell.str (w :: l)).drop (1 * 1)).take ((m + 1 - 1) * 1) = l.map Cell.str := by
      simp only [Nat.mul_one, List.map_cons, List.drop_succ_cons, List.drop_zero, Nat.add_sub_cancel]
      exact List.take_of_length_le (by simp [hm])
    rw [e] at this; exact this
  rw [yl]
  simp only [List.map_cons, List.getElem?_cons_zero, Nat.add_zero] at hg
  have e0 : (((m + 1 : Nat) : Int) == 0) = false := by simp; omega
  have c1 : (1 : Int) ≤ ((m + 1 : Nat) : Int) := by omega
  have c2 : (0 : Int) < ((m + 1 : Nat) : Int) := by omega
  have c3 : 1 ≤ m + 1 := by omega
  have hf2 : hcells (H ++ [.own (B8 w)]) u = some full := hcells_app hf
  (repeat (first | with_reducible refine thenQ_n ?_ | with_reducible refine blockQ_n ?_ | refine AW_skip ?_ | refine AW_seq ?_ | refine AW_ops ?_ | refine AW_blockS ?_ | refine AW_blockR ?_ | refine AW_blockD ?_ | refine AW_blockC ?_ | refine AO_nil ?_ | refine AW_draw ?_ | refine AW_draw3 ?_ | refine AW_blockD3 ?_ | refine AHd_nil ?_ | ((first | with_reducible apply AO_pre | with_reducible apply AHd_pre); focus (simp only [List.take_succ_cons, List.take_zero, List.drop_succ_cons, List.drop_zero, bne_self_eq_false, List.map_cons, List.map_nil, Bool.true_beq, Bool.false_beq, run_nil, run_cons, run_gate, cont_some, gate_true, gate_false, hrun_nil, hrun_cons, hrun_gate, hcont_some, hgate_true, hgate_false, put_some, put_none, ev_t, ev_k, wantedA, execA, stepA, List.set_cons_succ, List.set_cons_zero, List.getD_cons_succ, List.getD_cons_zero, List.getElem?_cons_zero, List.getElem?_cons_succ, if_true, if_false, binA, binInt, unA, eqA, Option.map, eq_self, true_or, or_true, true_and, and_true, and_self, beq_self_eq_true, Bool.not_true, Bool.not_false, reduceCtorEq, Bool.false_eq_true, ite_true, ite_false, fitsAll, CK.fits, decide_true, Bool.and_true, Bool.true_and, fillA, AV.cells, writeN, readN, sliceCells, appendA, lenA, i64, loA, hiA, hcells_last, hown_last, List.take_zero, List.drop_zero, List.nil_append, List.cons_append, List.append_nil, List.take_nil, List.drop_nil, List.length_cons, List.length_nil, List.length_append, Nat.zero_add, Nat.add_zero, Nat.reduceAdd, Nat.reduceMul, Nat.reduceDiv, Nat.reduceSub, Nat.mul_one, Nat.one_mul, Nat.div_one, Nat.le_refl, Nat.reduceLeDiff, Nat.reduceLT, Int.toNat_natCast, Int.toNat_zero, Nat.zero_le, Int.natCast_nonneg, Int.reduceLE, Int.reduceLT, Option.some.injEq, foldA, maxA, minA, Cell.int.injEq, AV.c.injEq, pre_nil, pre_cons, pre_gate, pre1_cons, pre1_gate, qstop_true, qstop_false, qstopg_false, qgate_true, qgate_false, pcont_some, pstop_true, pstop_false, pstopg_false, pgate_true, pgate_false, hpre_nil, hpre_cons, hpre_gate, hpre1_cons, hpre1_gate, hqstop_true, hqstop_false, hqstopg_false, hqgate_true, hqgate_false, hpcont_some, hpstop_true, hpstop_false, hpstopg_false, hpgate_true, hpgate_false, Int.reduceBEq, Int.reduceBNe, Int.reduceGT, Int.reduceGE, Int.reduceEq, Int.reduceNe, decide_false, nat_0, nat_1, nat_2, nat_3, nat_4, nat_8, nat_16, nat_64, nat_128, Int.reduceToNat, AOp.stops, pre1_nil, hpre1_nil, ↓want_eq, wantV_bool, wantV_undef, ↓exec_lenX, lenX_snil, lenX_slc, hf, e0]; with_reducible rfl))))
  refine AW_cond (t := false) rfl (fun h => by cases h) fun _ => ?_
  (repeat (first | with_reducible refine thenQ_n ?_ | with_reducible refine blockQ_n ?_ | refine AW_skip ?_ | refine AW_seq ?_ | refine AW_ops ?_ | refine AW_blockS ?_ | refine AW_blockR ?_ | refine AW_blockD ?_ | refine AW_blockC ?_ | refine AO_nil ?_ | refine AW_draw ?_ | refine AW_draw3 ?_ | refine AW_blockD3 ?_ | refine AHd_nil ?_ | ((first | with_reducible apply AO_pre | with_reducible apply AHd_pre); focus (simp only [List.take_succ_cons, List.take_zero, List.drop_succ_cons, List.drop_zero, bne_self_eq_false, List.map_cons, List.map_nil, Bool.true_beq, Bool.false_beq, run_nil, run_cons, run_gate, cont_some, gate_true, gate_false, hrun_nil, hrun_cons, hrun_gate, hcont_some, hgate_true, hgate_false, put_some, put_none, ev_t, ev_k, wantedA, execA, stepA, List.set_cons_succ, List.set_cons_zero, List.getD_cons_succ, List.getD_cons_zero, List.getElem?_cons_zero, List.getElem?_cons_succ, if_true, if_false, binA, binInt, unA, eqA, Option.map, eq_self, true_or, or_true, true_and, and_true, and_self, beq_self_eq_true, Bool.not_true, Bool.not_false, reduceCtorEq, Bool.false_eq_true, ite_true, ite_false, fitsAll, CK.fits, decide_true, Bool.and_true, Bool.true_and, fillA, AV.cells, writeN, readN, sliceCells, appendA, lenA, i64, loA, hiA, hcells_last, hown_last, List.take_zero, List.drop_zero, List.nil_append, List.cons_append, List.append_nil, List.take_nil, List.drop_nil, List.length_cons, List.length_nil, List.length_append, Nat.zero_add, Nat.add_zero, Nat.reduceAdd, Nat.reduceMul, Nat.reduceDiv, Nat.reduceSub, Nat.mul_one, Nat.one_mul, Nat.div_one, Nat.le_refl, Nat.reduceLeDiff, Nat.reduceLT, Int.toNat_natCast, Int.toNat_zero, Nat.zero_le, Int.natCast_nonneg, Int.reduceLE, Int.reduceLT, Option.some.injEq, foldA, maxA, minA, Cell.int.injEq, AV.c.injEq, pre_nil, pre_cons, pre_gate, pre1_cons, pre1_gate, qstop_true, qstop_false, qstopg_false, qgate_true, qgate_false, pcont_some, pstop_true, pstop_false, pstopg_false, pgate_true, pgate_false, hpre_nil, hpre_cons, hpre_gate, hpre1_cons, hpre1_gate, hqstop_true, hqstop_false, hqstopg_false, hqgate_true, hqgate_false, hpcont_some, hpstop_true, hpstop_false, hpstopg_false, hpgate_true, hpgate_false, Int.reduceBEq, Int.reduceBNe, Int.reduceGT, Int.reduceGE, Int.reduceEq, Int.reduceNe, decide_false, nat_0, nat_1, nat_2, nat_3, nat_4, nat_8, nat_16, nat_64, nat_128, Int.reduceToNat, AOp.stops, pre1_nil, hpre1_nil, ↓want_eq, wantV_bool, wantV_undef, ↓exec_lenX, lenX_snil, lenX_slc, hf, hg, c1, c2, c3, B8_of_str, hf2, Int.toNat_one, Int.reduceToNat, Nat.add_sub_cancel]; with_reducible rfl))))
  have k0 : Kept H.length H (H ++ [.own (B8 w)]) := Kept.push _ _ _
  have hb : hown (H ++ [.own (B8 w)]) H.length = some (B8 w) := hown_last
  refine AW_mid (fun e fr H' => (e = .normal ∧ ∃ acc, xorL (w :: l) = some acc ∧ hown H' H.length = some (B8 acc) ∧ acc.length = w.length ∧ (∃ s : Nat → AV, fr = [s 0, s 1, s 2, s 3, .c (.slc H.length 0 w.length 1), s 5, s 6, s 7, s 8, s 9, s 10, s 11, s 12, s 13, s 14, s 15, s 16, s 17, s 18, s 19, s 20, s 21, s 22, s 23, s 24, s 25, s 26, s 27, s 28, s 29, s 30, s 31, s 32, s 33, s 34, s 35, s 36, s 37, s 38, s 39, s 40, s 41, s 42, s 43, s 44])) ∨ (e = .ret ∧ xorL (w :: l) = none ∧ (∃ s : Nat → AV, fr = [s 0, s 1, .c (.str []), .c (.int .i64 9), s 4, s 5, s 6, s 7, s 8, s 9, s 10, s 11, s 12, s 13, s 14, s 15, s 16, s 17, s 18, s 19, s 20, s 21, s 22, s 23, s 24, s 25, s 26, s 27, s 28, s 29, s 30, s 31, s 32, s 33, s 34, s 35, s 36, s 37, s 38, s 39, s 40, s 41, s 42, s 43, s 44]))) ?_ ?_
  · refine AW_block (AW_up (xorI H.length w.length (.slc u (o + 1) m 1) w l H) l.length ⟨k0, ⟨w, rfl, hb⟩, stale _ _ (by rw [hm]; rfl)⟩ ?_)
    rintro i fr H1 hi ⟨k1, ⟨acc, hacc, ho⟩, st, rfl⟩
    have la : acc.length = w.length := xorAll_length hacc
    (repeat (first | with_reducible refine thenQ_n ?_ | with_reducible refine blockQ_n ?_ | refine AW_skip ?_ | refine AW_seq ?_ | refine AW_ops ?_ | refine AW_blockS ?_ | refine AW_blockR ?_ | refine AW_blockD ?_ | refine AW_blockC ?_ | refine AO_nil ?_ | refine AW_draw ?_ | refine AW_draw3 ?_ | refine AW_blockD3 ?_ | refine AHd_nil ?_ | ((first | with_reducible apply AO_pre | with_reducible apply AHd_pre); focus (simp only [List.take_succ_cons, List.take_zero, List.drop_succ_cons, List.drop_zero, bne_self_eq_false, List.map_cons, List.map_nil, Bool.true_beq, Bool.false_beq, run_nil, run_cons, run_gate, cont_some, gate_true, gate_false, hrun_nil, hrun_cons, hrun_gate, hcont_some, hgate_true, hgate_false, put_some, put_none, ev_t, ev_k, wantedA, execA, stepA, List.set_cons_succ, List.set_cons_zero, List.getD_cons_succ, List.getD_cons_zero, List.getElem?_cons_zero, List.getElem?_cons_succ, if_true, if_false, binA, binInt, unA, eqA, Option.map, eq_self, true_or, or_true, true_and, and_true, and_self, beq_self_eq_true, Bool.not_true, Bool.not_false, reduceCtorEq, Bool.false_eq_true, ite_true, ite_false, fitsAll, CK.fits, decide_true, Bool.and_true, Bool.true_and, fillA, AV.cells, writeN, readN, sliceCells, appendA, lenA, i64, loA, hiA, hcells_last, hown_last, List.take_zero, List.drop_zero, List.nil_append, List.cons_append, List.append_nil, List.take_nil, List.drop_nil, List.length_cons, List.length_nil, List.length_append, Nat.zero_add, Nat.add_zero, Nat.reduceAdd, Nat.reduceMul, Nat.reduceDiv, Nat.reduceSub, Nat.mul_one, Nat.one_mul, Nat.div_one, Nat.le_refl, Nat.reduceLeDiff, Nat.reduceLT, Int.toNat_natCast, Int.toNat_zero, Nat.zero_le, Int.natCast_nonneg, Int.reduceLE, Int.reduceLT, Option.some.injEq, foldA, maxA, minA, Cell.int.injEq, AV.c.injEq, pre_nil, pre_cons, pre_gate, pre1_cons, pre1_gate, qstop_true, qstop_false, qstopg_false, qgate_true, qgate_false, pcont_some, pstop_true, pstop_false, pstopg_false, pgate_true, pgate_false, hpre_nil, hpre_cons, hpre_gate, hpre1_cons, hpre1_gate, hqstop_true, hqstop_false, hqstopg_false, hqgate_true, hqgate_false, hpcont_some, hpstop_true, hpstop_false, hpstopg_false, hpgate_true, hpgate_false, Int.reduceBEq, Int.reduceBNe, Int.reduceGT, Int.reduceGE, Int.reduceEq, Int.reduceNe, decide_false, nat_0, nat_1, nat_2, nat_3, nat_4, nat_8, nat_16, nat_64, nat_128, Int.reduceToNat, AOp.stops, pre1_nil, hpre1_nil, ↓want_eq, wantV_bool, wantV_undef, ↓exec_lenX, lenX_snil, lenX_slc]; with_reducible rfl))))
    refine AW_cond rfl ?_ ?_ <;> intro ht
    · have ht : (i : Int) < l.length := of_decide_eq_true ht
      have ht2 : i < l.length := by omega
      obtain ⟨x, hx⟩ : ∃ x, l[i]? = some x := ⟨_, List.getElem?_eq_getElem ht2⟩
      have hxl : x.length ≤ 1000000000 := hs x (List.mem_cons_of_mem _ (List.mem_of_getElem? hx))
      obtain ⟨u', o', full', e, hf', hg'⟩ := (hy1.kept k1).get (i := i) (by simpa using ht2)
      simp only [Cell.slc.injEq] at e
      obtain ⟨rfl, rfl, _, _⟩ := e
      have gx : full'[o + 1 + i]? = some (.str x) := by rw [hg']; simp [hx]
      have cm : (i : Int) < (m : Int) := by omega
      have hc1 := hcells_own ho
      by_cases hlen : x.length = acc.length
      · have hn : ((x.length : Int) != (w.length : Int)) = false := by simp; omega
        (repeat (first | with_reducible refine thenQ_n ?_ | with_reducible refine blockQ_n ?_ | refine AW_skip ?_ | refine AW_seq ?_ | refine AW_ops ?_ | refine AW_blockS ?_ | refine AW_blockR ?_ | refine AW_blockD ?_ | refine AW_blockC ?_ | refine AO_nil ?_ | refine AW_draw ?_ | refine AW_draw3 ?_ | refine AW_blockD3 ?_ | refine AHd_nil ?_ | ((first | with_reducible apply AO_pre | with_reducible apply AHd_pre); focus (simp only [List.take_succ_cons, List.take_zero, List.drop_succ_cons, List.drop_zero, bne_self_eq_false, List.map_cons, List.map_nil, Bool.true_beq, Bool.false_beq, run_nil, run_cons, run_gate, cont_some, gate_true, gate_false, hrun_nil, hrun_cons, hrun_gate, hcont_some, hgate_true, hgate_false, put_some, put_none, ev_t, ev_k, wantedA, execA, stepA, List.set_cons_succ, List.set_cons_zero, List.getD_cons_succ, List.getD_cons_zero, List.getElem?_cons_zero, List.getElem?_cons_succ, if_true, if_false, binA, binInt, unA, eqA, Option.map, eq_self, true_or, or_true, true_and, and_true, and_self, beq_self_eq_true, Bool.not_true, Bool.not_false, reduceCtorEq, Bool.false_eq_true, ite_true, ite_false, fitsAll, CK.fits, decide_true, Bool.and_true, Bool.true_and, fillA, AV.cells, writeN, readN, sliceCells, appendA, lenA, i64, loA, hiA, hcells_last, hown_last, List.take_zero, List.drop_zero, List.nil_append, List.cons_append, List.append_nil, List.take_nil, List.drop_nil, List.length_cons, List.length_nil, List.length_append, Nat.zero_add, Nat.add_zero, Nat.reduceAdd, Nat.reduceMul, Nat.reduceDiv, Nat.reduceSub, Nat.mul_one, Nat.one_mul, Nat.div_one, Nat.le_refl, Nat.reduceLeDiff, Nat.reduceLT, Int.toNat_natCast, Int.toNat_zero, Nat.zero_le, Int.natCast_nonneg, Int.reduceLE, Int.reduceLT, Option.some.injEq, foldA, maxA, minA, Cell.int.injEq, AV.c.injEq, pre_nil, pre_cons, pre_gate, pre1_cons, pre1_gate, qstop_true, qstop_false, qstopg_false, qgate_true, qgate_false, pcont_some, pstop_true, pstop_false, pstopg_false, pgate_true, pgate_false, hpre_nil, hpre_cons, hpre_gate, hpre1_cons, hpre1_gate, hqstop_true, hqstop_false, hqstopg_false, hqgate_true, hqgate_false, hpcont_some, hpstop_true, hpstop_false, hpstopg_false, hpgate_true, hpgate_false, Int.reduceBEq, Int.reduceBNe, Int.reduceGT, Int.reduceGE, Int.reduceEq, Int.reduceNe, decide_false, nat_0, nat_1, nat_2, nat_3, nat_4, nat_8, nat_16, nat_64, nat_128, Int.reduceToNat, AOp.stops, pre1_nil, hpre1_nil, ↓want_eq, wantV_bool, wantV_undef, ↓exec_lenX, lenX_snil, lenX_slc, hf', gx, cm, hc1, hn]; with_reducible rfl))))
        refine AW_cond (t := false) rfl (fun h => by cases h) fun _ => ?_
        (repeat (first | with_reducible refine thenQ_n ?_ | with_reducible refine blockQ_n ?_ | refine AW_skip ?_ | refine AW_seq ?_ | refine AW_ops ?_ | refine AW_blockS ?_ | refine AW_blockR ?_ | refine AW_blockD ?_ | refine AW_blockC ?_ | refine AO_nil ?_ | refine AW_draw ?_ | refine AW_draw3 ?_ | refine AW_blockD3 ?_ | refine AHd_nil ?_ | ((first | with_reducible apply AO_pre | with_reducible apply AHd_pre); focus (simp only [List.take_succ_cons, List.take_zero, List.drop_succ_cons, List.drop_zero, bne_self_eq_false, List.map_cons, List.map_nil, Bool.true_beq, Bool.false_beq, run_nil, run_cons, run_gate, cont_some, gate_true, gate_false, hrun_nil, hrun_cons, hrun_gate, hcont_some, hgate_true, hgate_false, put_some, put_none, ev_t, ev_k, wantedA, execA, stepA, List.set_cons_succ, List.set_cons_zero, List.getD_cons_succ, List.getD_cons_zero, List.getElem?_cons_zero, List.getElem?_cons_succ, if_true, if_false, binA, binInt, unA, eqA, Option.map, eq_self, true_or, or_true, true_and, and_true, and_self, beq_self_eq_true, Bool.not_true, Bool.not_false, reduceCtorEq, Bool.false_eq_true, ite_true, ite_false, fitsAll, CK.fits, decide_true, Bool.and_true, Bool.true_and, fillA, AV.cells, writeN, readN, sliceCells, appendA, lenA, i64, loA, hiA, hcells_last, hown_last, List.take_zero, List.drop_zero, List.nil_append, List.cons_append, List.append_nil, List.take_nil, List.drop_nil, List.length_cons, List.length_nil, List.length_append, Nat.zero_add, Nat.add_zero, Nat.reduceAdd, Nat.reduceMul, Nat.reduceDiv, Nat.reduceSub, Nat.mul_one, Nat.one_mul, Nat.div_one, Nat.le_refl, Nat.reduceLeDiff, Nat.reduceLT, Int.toNat_natCast, Int.toNat_zero, Nat.zero_le, Int.natCast_nonneg, Int.reduceLE, Int.reduceLT, Option.some.injEq, foldA, maxA, minA, Cell.int.injEq, AV.c.injEq, pre_nil, pre_cons, pre_gate, pre1_cons, pre1_gate, qstop_true, qstop_false, qstopg_false, qgate_true, qgate_false, pcont_some, pstop_true, pstop_false, pstopg_false, pgate_true, pgate_false, hpre_nil, hpre_cons, hpre_gate, hpre1_cons, hpre1_gate, hqstop_true, hqstop_false, hqstopg_false, hqgate_true, hqgate_false, hpcont_some, hpstop_true, hpstop_false, hpstopg_false, hpgate_true, hpgate_false, Int.reduceBEq, Int.reduceBNe, Int.reduceGT, Int.reduceGE, Int.reduceEq, Int.reduceNe, decide_false, nat_0, nat_1, nat_2, nat_3, nat_4, nat_8, nat_16, nat_64, nat_128, Int.reduceToNat, AOp.stops, pre1_nil, hpre1_nil, ↓want_eq, wantV_bool, wantV_undef, ↓exec_lenX, lenX_snil, lenX_slc, hc1]; with_reducible rfl))))
        refine AW_mid (fun e fr H' => e = .normal ∧ Kept H.length H H' ∧ hown H' H.length = some (B8 (xorB acc x)) ∧ (∃ s : Nat → AV, fr = [s 0, s 1, s 2, s 3, .c (.slc H.length 0 w.length 1), s 5, s 6, s 7, s 8, s 9, s 10, s 11, s 12, s 13, s 14, s 15, .c (.slc u (o + 1) m 1), .c (.int .i64 (l.length : Int)), .c (.int .i64 (i : Int)), s 19, s 20, s 21, s 22, s 23, s 24, s 25, s 26, s 27, s 28, s 29, s 30, s 31, s 32, s 33, s 34, s 35, s 36, s 37, s 38, s 39, s 40, s 41, s 42, s 43, s 44])) ?_ ?_
        · refine AW_block (AW_up (xorJ H.length w.length (.slc u (o + 1) m 1) acc x l i H) w.length ⟨k1, ho, stale _ _ rfl⟩ ?_)
          rintro k fr H2 hk ⟨k2, hown2, st, rfl⟩
          (repeat (first | with_reducible refine thenQ_n ?_ | with_reducible refine blockQ_n ?_ | refine AW_skip ?_ | refine AW_seq ?_ | refine AW_ops ?_ | refine AW_blockS ?_ | refine AW_blockR ?_ | refine AW_blockD ?_ | refine AW_blockC ?_ | refine AO_nil ?_ | refine AW_draw ?_ | refine AW_draw3 ?_ | refine AW_blockD3 ?_ | refine AHd_nil ?_ | ((first | with_reducible apply AO_pre | with_reducible apply AHd_pre); focus (simp only [List.take_succ_cons, List.take_zero, List.drop_succ_cons, List.drop_zero, bne_self_eq_false, List.map_cons, List.map_nil, Bool.true_beq, Bool.false_beq, run_nil, run_cons, run_gate, cont_some, gate_true, gate_false, hrun_nil, hrun_cons, hrun_gate, hcont_some, hgate_true, hgate_false, put_some, put_none, ev_t, ev_k, wantedA, execA, stepA, List.set_cons_succ, List.set_cons_zero, List.getD_cons_succ, List.getD_cons_zero, List.getElem?_cons_zero, List.getElem?_cons_succ, if_true, if_false, binA, binInt, unA, eqA, Option.map, eq_self, true_or, or_true, true_and, and_true, and_self, beq_self_eq_true, Bool.not_true, Bool.not_false, reduceCtorEq, Bool.false_eq_true, ite_true, ite_false, fitsAll, CK.fits, decide_true, Bool.and_true, Bool.true_and, fillA, AV.cells, writeN, readN, sliceCells, appendA, lenA, i64, loA, hiA, hcells_last, hown_last, List.take_zero, List.drop_zero, List.nil_append, List.cons_append, List.append_nil, List.take_nil, List.drop_nil, List.length_cons, List.length_nil, List.length_append, Nat.zero_add, Nat.add_zero, Nat.reduceAdd, Nat.reduceMul, Nat.reduceDiv, Nat.reduceSub, Nat.mul_one, Nat.one_mul, Nat.div_one, Nat.le_refl, Nat.reduceLeDiff, Nat.reduceLT, Int.toNat_natCast, Int.toNat_zero, Nat.zero_le, Int.natCast_nonneg, Int.reduceLE, Int.reduceLT, Option.some.injEq, foldA, maxA, minA, Cell.int.injEq, AV.c.injEq, pre_nil, pre_cons, pre_gate, pre1_cons, pre1_gate, qstop_true, qstop_false, qstopg_false, qgate_true, qgate_false, pcont_some, pstop_true, pstop_false, pstopg_false, pgate_true, pgate_false, hpre_nil, hpre_cons, hpre_gate, hpre1_cons, hpre1_gate, hqstop_true, hqstop_false, hqstopg_false, hqgate_true, hqgate_false, hpcont_some, hpstop_true, hpstop_false, hpstopg_false, hpgate_true, hpgate_false, Int.reduceBEq, Int.reduceBNe, Int.reduceGT, Int.reduceGE, Int.reduceEq, Int.reduceNe, decide_false, nat_0, nat_1, nat_2, nat_3, nat_4, nat_8, nat_16, nat_64, nat_128, Int.reduceToNat, AOp.stops, pre1_nil, hpre1_nil, ↓want_eq, wantV_bool, wantV_undef, ↓exec_lenX, lenX_snil, lenX_slc]; with_reducible rfl))))
          refine AW_cond rfl ?_ ?_ <;> intro ht
          · have ht : (k : Int) < w.length := of_decide_eq_true ht
            have ht2 : k < w.length := by omega
            have hc2 := hcells_own hown2
            have ul : (B8 (upd (mixAt acc x) acc k)).length = w.length := by rw [B8_length, upd_length, la]
            have g1 : (B8 (upd (mixAt acc x) acc k))[k]? = some (.int .u8 ((acc.getD k 0).toNat : Int)) := B8_get (by rw [upd_self k (by omega)]; simp [show k < acc.length by omega])
            have g2 : x[k]? = some (x.getD k 0) := by simp [show k < x.length by omega]
            (repeat (first | with_reducible refine thenQ_n ?_ | with_reducible refine blockQ_n ?_ | refine AW_skip ?_ | refine AW_seq ?_ | refine AW_ops ?_ | refine AW_blockS ?_ | refine AW_blockR ?_ | refine AW_blockD ?_ | refine AW_blockC ?_ | refine AO_nil ?_ | refine AW_draw ?_ | refine AW_draw3 ?_ | refine AW_blockD3 ?_ | refine AHd_nil ?_ | ((first | with_reducible apply AO_pre | with_reducible apply AHd_pre); focus (simp only [List.take_succ_cons, List.take_zero, List.drop_succ_cons, List.drop_zero, bne_self_eq_false, List.map_cons, List.map_nil, Bool.true_beq, Bool.false_beq, run_nil, run_cons, run_gate, cont_some, gate_true, gate_false, hrun_nil, hrun_cons, hrun_gate, hcont_some, hgate_true, hgate_false, put_some, put_none, ev_t, ev_k, wantedA, execA, stepA, List.set_cons_succ, List.set_cons_zero, List.getD_cons_succ, List.getD_cons_zero, List.getElem?_cons_zero, List.getElem?_cons_succ, if_true, if_false, binA, binInt, unA, eqA, Option.map, eq_self, true_or, or_true, true_and, and_true, and_self, beq_self_eq_true, Bool.not_true, Bool.not_false, reduceCtorEq, Bool.false_eq_true, ite_true, ite_false, fitsAll, CK.fits, decide_true, Bool.and_true, Bool.true_and, fillA, AV.cells, writeN, readN, sliceCells, appendA, lenA, i64, loA, hiA, hcells_last, hown_last, List.take_zero, List.drop_zero, List.nil_append, List.cons_append, List.append_nil, List.take_nil, List.drop_nil, List.length_cons, List.length_nil, List.length_append, Nat.zero_add, Nat.add_zero, Nat.reduceAdd, Nat.reduceMul, Nat.reduceDiv, Nat.reduceSub, Nat.mul_one, Nat.one_mul, Nat.div_one, Nat.le_refl, Nat.reduceLeDiff, Nat.reduceLT, Int.toNat_natCast, Int.toNat_zero, Nat.zero_le, Int.natCast_nonneg, Int.reduceLE, Int.reduceLT, Option.some.injEq, foldA, maxA, minA, Cell.int.injEq, AV.c.injEq, pre_nil, pre_cons, pre_gate, pre1_cons, pre1_gate, qstop_true, qstop_false, qstopg_false, qgate_true, qgate_false, pcont_some, pstop_true, pstop_false, pstopg_false, pgate_true, pgate_false, hpre_nil, hpre_cons, hpre_gate, hpre1_cons, hpre1_gate, hqstop_true, hqstop_false, hqstopg_false, hqgate_true, hqgate_false, hpcont_some, hpstop_true, hpstop_false, hpstopg_false, hpgate_true, hpgate_false, Int.reduceBEq, Int.reduceBNe, Int.reduceGT, Int.reduceGE, Int.reduceEq, Int.reduceNe, decide_false, nat_0, nat_1, nat_2, nat_3, nat_4, nat_8, nat_16, nat_64, nat_128, Int.reduceToNat, AOp.stops, pre1_nil, hpre1_nil, ↓want_eq, wantV_bool, wantV_undef, ↓exec_lenX, lenX_snil, lenX_slc, hc2, g1, g2, ht, xor_byte, Nat.zero_add, storeX_own hown2 (Nat.le_refl _) (by rw [ul]; exact ht2 : k < _), ↓exec_storeX, i64_succ (show k < 9223372036854775807 by omega)]; with_reducible rfl))))
            refine ⟨ht2, k2.trans ?_, ?_, stale _ _ rfl⟩
            · exact Kept.setB (Nat.le_refl _)
            · rw [B8_set]; exact hown_set (hown_lt hown2)
          · obtain rfl : k = w.length := by have : ¬ (k : Int) < w.length := of_decide_eq_false ht; omega
            exact AW_exit ⟨rfl, k2, by rw [← la, upd_xor hlen] at hown2; exact hown2, stale _ _ rfl⟩
        rintro e fr H2 ⟨rfl, k2, ho2, st, rfl⟩
        (repeat (first | with_reducible refine thenQ_n ?_ | with_reducible refine blockQ_n ?_ | refine AW_skip ?_ | refine AW_seq ?_ | refine AW_ops ?_ | refine AW_blockS ?_ | refine AW_blockR ?_ | refine AW_blockD ?_ | refine AW_blockC ?_ | refine AO_nil ?_ | refine AW_draw ?_ | refine AW_draw3 ?_ | refine AW_blockD3 ?_ | refine AHd_nil ?_ | ((first | with_reducible apply AO_pre | with_reducible apply AHd_pre); focus (simp only [List.take_succ_cons, List.take_zero, List.drop_succ_cons, List.drop_zero, bne_self_eq_false, List.map_cons, List.map_nil, Bool.true_beq, Bool.false_beq, run_nil, run_cons, run_gate, cont_some, gate_true, gate_false, hrun_nil, hrun_cons, hrun_gate, hcont_some, hgate_true, hgate_false, put_some, put_none, ev_t, ev_k, wantedA, execA, stepA, List.set_cons_succ, List.set_cons_zero, List.getD_cons_succ, List.getD_cons_zero, List.getElem?_cons_zero, List.getElem?_cons_succ, if_true, if_false, binA, binInt, unA, eqA, Option.map, eq_self, true_or, or_true, true_and, and_true, and_self, beq_self_eq_true, Bool.not_true, Bool.not_false, reduceCtorEq, Bool.false_eq_true, ite_true, ite_false, fitsAll, CK.fits, decide_true, Bool.and_true, Bool.true_and, fillA, AV.cells, writeN, readN, sliceCells, appendA, lenA, i64, loA, hiA, hcells_last, hown_last, List.take_zero, List.drop_zero, List.nil_append, List.cons_append, List.append_nil, List.take_nil, List.drop_nil, List.length_cons, List.length_nil, List.length_append, Nat.zero_add, Nat.add_zero, Nat.reduceAdd, Nat.reduceMul, Nat.reduceDiv, Nat.reduceSub, Nat.mul_one, Nat.one_mul, Nat.div_one, Nat.le_refl, Nat.reduceLeDiff, Nat.reduceLT, Int.toNat_natCast, Int.toNat_zero, Nat.zero_le, Int.natCast_nonneg, Int.reduceLE, Int.reduceLT, Option.some.injEq, foldA, maxA, minA, Cell.int.injEq, AV.c.injEq, pre_nil, pre_cons, pre_gate, pre1_cons, pre1_gate, qstop_true, qstop_false, qstopg_false, qgate_true, qgate_false, pcont_some, pstop_true, pstop_false, pstopg_false, pgate_true, pgate_false, hpre_nil, hpre_cons, hpre_gate, hpre1_cons, hpre1_gate, hqstop_true, hqstop_false, hqstopg_false, hqgate_true, hqgate_false, hpcont_some, hpstop_true, hpstop_false, hpstopg_false, hpgate_true, hpgate_false, Int.reduceBEq, Int.reduceBNe, Int.reduceGT, Int.reduceGE, Int.reduceEq, Int.reduceNe, decide_false, nat_0, nat_1, nat_2, nat_3, nat_4, nat_8, nat_16, nat_64, nat_128, Int.reduceToNat, AOp.stops, pre1_nil, hpre1_nil, ↓want_eq, wantV_bool, wantV_undef, ↓exec_lenX, lenX_snil, lenX_slc, i64_succ (show i < 9223372036854775807 by omega)]; with_reducible rfl))))
        refine ⟨ht2, k2, ⟨_, ?_, ho2⟩, stale _ _ rfl⟩
        rw [xorAll_step hacc hx, if_pos hlen]
      · have hn : ((x.length : Int) != (w.length : Int)) = true := by simp; omega
        (repeat (first | with_reducible refine thenQ_n ?_ | with_reducible refine blockQ_n ?_ | refine AW_skip ?_ | refine AW_seq ?_ | refine AW_ops ?_ | refine AW_blockS ?_ | refine AW_blockR ?_ | refine AW_blockD ?_ | refine AW_blockC ?_ | refine AO_nil ?_ | refine AW_draw ?_ | refine AW_draw3 ?_ | refine AW_blockD3 ?_ | refine AHd_nil ?_ | ((first | with_reducible apply AO_pre | with_reducible apply AHd_pre); focus (simp only [List.take_succ_cons, List.take_zero, List.drop_succ_cons, List.drop_zero, bne_self_eq_false, List.map_cons, List.map_nil, Bool.true_beq, Bool.false_beq, run_nil, run_cons, run_gate, cont_some, gate_true, gate_false, hrun_nil, hrun_cons, hrun_gate, hcont_some, hgate_true, hgate_false, put_some, put_none, ev_t, ev_k, wantedA, execA, stepA, List.set_cons_succ, List.set_cons_zero, List.getD_cons_succ, List.getD_cons_zero, List.getElem?_cons_zero, List.getElem?_cons_succ, if_true, if_false, binA, binInt, unA, eqA, Option.map, eq_self, true_or, or_true, true_and, and_true, and_self, beq_self_eq_true, Bool.not_true, Bool.not_false, reduceCtorEq, Bool.false_eq_true, ite_true, ite_false, fitsAll, CK.fits, decide_true, Bool.and_true, Bool.true_and, fillA, AV.cells, writeN, readN, sliceCells, appendA, lenA, i64, loA, hiA, hcells_last, hown_last, List.take_zero, List.drop_zero, List.nil_append, List.cons_append, List.append_nil, List.take_nil, List.drop_nil, List.length_cons, List.length_nil, List.length_append, Nat.zero_add, Nat.add_zero, Nat.reduceAdd, Nat.reduceMul, Nat.reduceDiv, Nat.reduceSub, Nat.mul_one, Nat.one_mul, Nat.div_one, Nat.le_refl, Nat.reduceLeDiff, Nat.reduceLT, Int.toNat_natCast, Int.toNat_zero, Nat.zero_le, Int.natCast_nonneg, Int.reduceLE, Int.reduceLT, Option.some.injEq, foldA, maxA, minA, Cell.int.injEq, AV.c.injEq, pre_nil, pre_cons, pre_gate, pre1_cons, pre1_gate, qstop_true, qstop_false, qstopg_false, qgate_true, qgate_false, pcont_some, pstop_true, pstop_false, pstopg_false, pgate_true, pgate_false, hpre_nil, hpre_cons, hpre_gate, hpre1_cons, hpre1_gate, hqstop_true, hqstop_false, hqstopg_false, hqgate_true, hqgate_false, hpcont_some, hpstop_true, hpstop_false, hpstopg_false, hpgate_true, hpgate_false, Int.reduceBEq, Int.reduceBNe, Int.reduceGT, Int.reduceGE, Int.reduceEq, Int.reduceNe, decide_false, nat_0, nat_1, nat_2, nat_3, nat_4, nat_8, nat_16, nat_64, nat_128, Int.reduceToNat, AOp.stops, pre1_nil, hpre1_nil, ↓want_eq, wantV_bool, wantV_undef, ↓exec_lenX, lenX_snil, lenX_slc, hf', gx, cm, hc1, hn]; with_reducible rfl))))
        refine AW_cond (t := true) rfl (fun _ => ?_) (fun h => by cases h)
        (repeat (first | with_reducible refine thenQ_n ?_ | with_reducible refine blockQ_n ?_ | refine AW_skip ?_ | refine AW_seq ?_ | refine AW_ops ?_ | refine AW_blockS ?_ | refine AW_blockR ?_ | refine AW_blockD ?_ | refine AW_blockC ?_ | refine AO_nil ?_ | refine AW_draw ?_ | refine AW_draw3 ?_ | refine AW_blockD3 ?_ | refine AHd_nil ?_ | ((first | with_reducible apply AO_pre | with_reducible apply AHd_pre); focus (simp only [List.take_succ_cons, List.take_zero, List.drop_succ_cons, List.drop_zero, bne_self_eq_false, List.map_cons, List.map_nil, Bool.true_beq, Bool.false_beq, run_nil, run_cons, run_gate, cont_some, gate_true, gate_false, hrun_nil, hrun_cons, hrun_gate, hcont_some, hgate_true, hgate_false, put_some, put_none, ev_t, ev_k, wantedA, execA, stepA, List.set_cons_succ, List.set_cons_zero, List.getD_cons_succ, List.getD_cons_zero, List.getElem?_cons_zero, List.getElem?_cons_succ, if_true, if_false, binA, binInt, unA, eqA, Option.map, eq_self, true_or, or_true, true_and, and_true, and_self, beq_self_eq_true, Bool.not_true, Bool.not_false, reduceCtorEq, Bool.false_eq_true, ite_true, ite_false, fitsAll, CK.fits, decide_true, Bool.and_true, Bool.true_and, fillA, AV.cells, writeN, readN, sliceCells, appendA, lenA, i64, loA, hiA, hcells_last, hown_last, List.take_zero, List.drop_zero, List.nil_append, List.cons_append, List.append_nil, List.take_nil, List.drop_nil, List.length_cons, List.length_nil, List.length_append, Nat.zero_add, Nat.add_zero, Nat.reduceAdd, Nat.reduceMul, Nat.reduceDiv, Nat.reduceSub, Nat.mul_one, Nat.one_mul, Nat.div_one, Nat.le_refl, Nat.reduceLeDiff, Nat.reduceLT, Int.toNat_natCast, Int.toNat_zero, Nat.zero_le, Int.natCast_nonneg, Int.reduceLE, Int.reduceLT, Option.some.injEq, foldA, maxA, minA, Cell.int.injEq, AV.c.injEq, pre_nil, pre_cons, pre_gate, pre1_cons, pre1_gate, qstop_true, qstop_false, qstopg_false, qgate_true, qgate_false, pcont_some, pstop_true, pstop_false, pstopg_false, pgate_true, pgate_false, hpre_nil, hpre_cons, hpre_gate, hpre1_cons, hpre1_gate, hqstop_true, hqstop_false, hqstopg_false, hqgate_true, hqgate_false, hpcont_some, hpstop_true, hpstop_false, hpstopg_false, hpgate_true, hpgate_false, Int.reduceBEq, Int.reduceBNe, Int.reduceGT, Int.reduceGE, Int.reduceEq, Int.reduceNe, decide_false, nat_0, nat_1, nat_2, nat_3, nat_4, nat_8, nat_16, nat_64, nat_128, Int.reduceToNat, AOp.stops, pre1_nil, hpre1_nil, ↓want_eq, wantV_bool, wantV_undef, ↓exec_lenX, lenX_snil, lenX_slc]; with_reducible rfl))))
        refine AW_ret (.inr ⟨rfl, ?_, stale _ _ rfl⟩)
        exact xorAll_stop (i := i + 1) (by rw [xorAll_step hacc hx, if_neg hlen])
    · obtain rfl : i = l.length := by have : ¬ (i : Int) < l.length := of_decide_eq_false ht; omega
      refine AW_exit (.inl ⟨rfl, acc, ?_, ho, la, stale _ _ rfl⟩)
      rw [List.take_length] at hacc; exact hacc
  rintro e fr H1 (⟨rfl, acc, hacc, ho, la, st, rfl⟩ | ⟨rfl, hno, st, rfl⟩)
  · have hr : sliceCells H1 1 (.c (.slc H.length 0 w.length 1)) = some (B8 acc) := by
      have hO : Own H.length H1 (.slc H.length 0 w.length 1) 1 (B8 acc) := .inr ⟨_, _, rfl, by rw [B8_length, la, Nat.mul_one], Nat.le_refl _, ho⟩
      exact hO.rd.cells
    (repeat (first | with_reducible refine thenQ_n ?_ | with_reducible refine blockQ_n ?_ | refine AW_skip ?_ | refine AW_seq ?_ | refine AW_ops ?_ | refine AW_blockS ?_ | refine AW_blockR ?_ | refine AW_blockD ?_ | refine AW_blockC ?_ | refine AO_nil ?_ | refine AW_draw ?_ | refine AW_draw3 ?_ | refine AW_blockD3 ?_ | refine AHd_nil ?_ | ((first | with_reducible apply AO_pre | with_reducible apply AHd_pre); focus (simp only [List.take_succ_cons, List.take_zero, List.drop_succ_cons, List.drop_zero, bne_self_eq_false, List.map_cons, List.map_nil, Bool.true_beq, Bool.false_beq, run_nil, run_cons, run_gate, cont_some, gate_true, gate_false, hrun_nil, hrun_cons, hrun_gate, hcont_some, hgate_true, hgate_false, put_some, put_none, ev_t, ev_k, wantedA, execA, stepA, List.set_cons_succ, List.set_cons_zero, List.getD_cons_succ, List.getD_cons_zero, List.getElem?_cons_zero, List.getElem?_cons_succ, if_true, if_false, binA, binInt, unA, eqA, Option.map, eq_self, true_or, or_true, true_and, and_true, and_self, beq_self_eq_true, Bool.not_true, Bool.not_false, reduceCtorEq, Bool.false_eq_true, ite_true, ite_false, fitsAll, CK.fits, decide_true, Bool.and_true, Bool.true_and, fillA, AV.cells, writeN, readN, sliceCells, appendA, lenA, i64, loA, hiA, hcells_last, hown_last, List.take_zero, List.drop_zero, List.nil_append, List.cons_append, List.append_nil, List.take_nil, List.drop_nil, List.length_cons, List.length_nil, List.length_append, Nat.zero_add, Nat.add_zero, Nat.reduceAdd, Nat.reduceMul, Nat.reduceDiv, Nat.reduceSub, Nat.mul_one, Nat.one_mul, Nat.div_one, Nat.le_refl, Nat.reduceLeDiff, Nat.reduceLT, Int.toNat_natCast, Int.toNat_zero, Nat.zero_le, Int.natCast_nonneg, Int.reduceLE, Int.reduceLT, Option.some.injEq, foldA, maxA, minA, Cell.int.injEq, AV.c.injEq, pre_nil, pre_cons, pre_gate, pre1_cons, pre1_gate, qstop_true, qstop_false, qstopg_false, qgate_true, qgate_false, pcont_some, pstop_true, pstop_false, pstopg_false, pgate_true, pgate_false, hpre_nil, hpre_cons, hpre_gate, hpre1_cons, hpre1_gate, hqstop_true, hqstop_false, hqstopg_false, hqgate_true, hqgate_false, hpcont_some, hpstop_true, hpstop_false, hpstopg_false, hpgate_true, hpgate_false, Int.reduceBEq, Int.reduceBNe, Int.reduceGT, Int.reduceGE, Int.reduceEq, Int.reduceNe, decide_false, nat_0, nat_1, nat_2, nat_3, nat_4, nat_8, nat_16, nat_64, nat_128, Int.reduceToNat, AOp.stops, pre1_nil, hpre1_nil, ↓want_eq, wantV_bool, wantV_undef, ↓exec_lenX, lenX_snil, lenX_slc, ↓hr, bytesOf_B8]; with_reducible rfl))))
    exact AW_ret ⟨_, rfl, by rw [hacc]; rfl⟩
  · simp only [thenQ, exitQ]
    exact ⟨_, rfl, by rw [hno]; rfl⟩

end PK

/- Package mac as code of the abstract machine. -/
namespace PK
open Go PAbs

noncomputable def c_mac_New : AFn := AFn.mk 18 [.tmp 2]
  (.seq (.region
      [⟨some 2, .mv (.k (.c (.pnil))), none⟩])
  (.seq (.region
      [⟨some 4, .mv (.t 0), none⟩,
        ⟨some 5, .call F_mac_key [.t 4], none⟩,
        ⟨some 3, .mv (.t 5), none⟩])
  (.seq (.region
      [⟨some 6, .call F_sha_New [], none⟩,
        ⟨some 7, .mv (.t 3), none⟩,
        ⟨some 8, .call F_mac_masked [.t 7, .k (.c (.int .u8 54))], none⟩,
        ⟨some 9, .buildSlice ([.str []]) 1 1 [(0, 1, .t 8)], none⟩,
        ⟨some 10, .call F_sha_Hash_Add [.t 6, .t 9], none⟩,
        ⟨some 11, .call F_sha_New [], none⟩,
        ⟨some 12, .mv (.t 3), none⟩,
        ⟨some 13, .call F_mac_masked [.t 12, .k (.c (.int .u8 92))], none⟩,
        ⟨some 14, .buildSlice ([.str []]) 1 1 [(0, 1, .t 13)], none⟩,
        ⟨some 15, .call F_sha_Hash_Add [.t 11, .t 14], none⟩,
        ⟨some 16, .build ([.pnil, .pnil]) [(0, 1, .t 10), (1, 1, .t 15)], none⟩,
        ⟨some 17, .box (.t 16), none⟩,
        ⟨some 2, .mv (.t 17), none⟩])
  (.ret))))
theorem t_mac_New : A F_mac_New = some c_mac_New := by kernel_rfl

noncomputable def c_mac_Mac_With : AFn := AFn.mk 20 [.tmp 4]
  (.seq (.region
      [⟨some 4, .mv (.k (.c (.pnil))), none⟩])
  (.seq (.seq (.region
        [⟨some 5, .mv (.t 0), none⟩,
          ⟨some 6, .eq false .ptr (.t 5) (.k (.c (.pnil))), none⟩])
    (.cond (.t 6)
      (.seq (.region
          [⟨some 4, .mv (.k (.c (.pnil))), none⟩])
      (.ret))
      (.skip)))
  (.seq (.draw3
      [⟨some 7, .mv (.t 0), none⟩,
        ⟨some 8, .nilCheck (.t 7), none⟩,
        ⟨some 9, .fieldAddr 0 (.t 8), none⟩,
        ⟨some 10, .load1 (.t 9), none⟩,
        ⟨some 11, .call F_sha_Hash_Clone [.t 10], none⟩,
        ⟨some 12, .mv (.t 1), none⟩,
        ⟨some 13, .call F_sha_Hash_Add [.t 11, .t 12], none⟩,
        ⟨some 14, .mv (.t 0), none⟩,
        ⟨some 15, .nilCheck (.t 14), none⟩,
        ⟨some 16, .fieldAddr 1 (.t 15), none⟩,
        ⟨some 17, .load1 (.t 16), none⟩]
      [⟨some 18, .build ([.pnil, .pnil]) [(0, 1, .t 13), (1, 1, .t 17)], none⟩,
        ⟨some 19, .box (.t 18), none⟩,
        ⟨some 4, .mv (.t 19), none⟩])
  (.ret))))
theorem t_mac_Mac_With : A F_mac_Mac_With = some c_mac_Mac_With := by kernel_rfl

noncomputable def c_mac_Mac_Chain : AFn := AFn.mk 41 [.tmp 6, .tmp 7]
  (.seq (.region
      [⟨some 6, .mv (.k (.c (.str []))), none⟩,
        ⟨some 7, .mv (.k (.c (.str []))), none⟩])
  (.seq (.seq (.region
        [⟨some 11, .mv (.t 0), none⟩,
          ⟨some 12, .eq false .ptr (.t 11) (.k (.c (.pnil))), none⟩,
          ⟨some 13, .mv (.t 12), none⟩,
          ⟨some 14, .mv (.t 1), some (13, false)⟩,
          ⟨some 15, .bin .lss (.t 14) (.k (.c (.int .i64 1))), some (13, false)⟩,
          ⟨some 16, .pick (.t 13) (.k (.c (.bool true))) (.t 15), none⟩])
    (.cond (.t 16)
      (.seq (.region
          [⟨some 6, .mv (.k (.c (.str []))), none⟩,
            ⟨some 7, .mv (.k (.c (.str []))), none⟩])
      (.ret))
      (.skip)))
  (.seq (.region
      [⟨some 17, .mv (.t 0), none⟩,
        ⟨some 18, .mv (.t 2), none⟩,
        ⟨some 19, .call F_mac_Mac_With [.t 17, .t 18], none⟩,
        ⟨some 20, .call F_mac_Mac_Tag [.t 19], none⟩,
        ⟨some 8, .mv (.t 20), none⟩])
  (.seq (.region
      [⟨some 21, .mv (.t 8), none⟩,
        ⟨some 9, .mv (.t 21), none⟩])
  (.seq (.seq (.region
        [⟨some 10, .mv (.k (.c (.int .i64 1))), none⟩])
    (.block 0
      (.loop
        (.seq (.seq (.region
              [⟨some 22, .mv (.t 10), none⟩,
                ⟨some 23, .mv (.t 1), none⟩,
                ⟨some 24, .bin .lss (.t 22) (.t 23), none⟩])
          (.cond (.t 24)
            (.skip)
            (.exit 0)))
        (.seq (.block 1
            (.seq (.region
                [⟨some 27, .mv (.t 0), none⟩,
                  ⟨some 28, .mv (.t 8), none⟩,
                  ⟨some 29, .buildSlice ([.str []]) 1 1 [(0, 1, .t 28)], none⟩,
                  ⟨some 30, .call F_mac_Mac_With [.t 27, .t 29], none⟩,
                  ⟨some 31, .call F_mac_Mac_Tag [.t 30], none⟩,
                  ⟨some 8, .mv (.t 31), none⟩])
            (.region
              [⟨some 33, .mv (.t 9), none⟩,
                ⟨some 34, .mv (.t 8), none⟩,
                ⟨some 35, .buildSlice ([.str [], .str []]) 1 2 [(0, 1, .t 33), (1, 1, .t 34)], none⟩,
                ⟨some 36, .call F_words_Xor [.t 35], none⟩,
                ⟨some 32, .mv (.t 36), none⟩,
                ⟨some 37, .extract (.t 32) 0, none⟩,
                ⟨some 38, .extract (.t 32) 1, none⟩,
                ⟨some 9, .mv (.t 37), none⟩])))
        (.region
          [⟨some 25, .mv (.t 10), none⟩,
            ⟨some 26, .bin .add (.t 25) (.k (.c (.int .i64 1))), none⟩,
            ⟨some 10, .mv (.t 26), none⟩]))))))
  (.seq (.region
      [⟨some 39, .mv (.t 8), none⟩,
        ⟨some 40, .mv (.t 9), none⟩,
        ⟨some 6, .mv (.t 39), none⟩,
        ⟨some 7, .mv (.t 40), none⟩])
  (.ret)))))))
theorem t_mac_Mac_Chain : A F_mac_Mac_Chain = some c_mac_Mac_Chain := by kernel_rfl

noncomputable def c_mac_Mac_Tag : AFn := AFn.mk 18 [.tmp 2]
  (.seq (.region
      [⟨some 2, .mv (.k (.c (.str []))), none⟩])
  (.seq (.seq (.region
        [⟨some 3, .mv (.t 0), none⟩,
          ⟨some 4, .eq false .ptr (.t 3) (.k (.c (.pnil))), none⟩])
    (.cond (.t 4)
      (.seq (.region
          [⟨some 2, .mv (.k (.c (.str []))), none⟩])
      (.ret))
      (.skip)))
  (.seq (.draw3
      [⟨some 5, .mv (.t 0), none⟩,
        ⟨some 6, .nilCheck (.t 5), none⟩,
        ⟨some 7, .fieldAddr 1 (.t 6), none⟩,
        ⟨some 8, .load1 (.t 7), none⟩,
        ⟨some 9, .call F_sha_Hash_Clone [.t 8], none⟩,
        ⟨some 10, .mv (.t 0), none⟩,
        ⟨some 11, .nilCheck (.t 10), none⟩,
        ⟨some 12, .fieldAddr 0 (.t 11), none⟩,
        ⟨some 13, .load1 (.t 12), none⟩]
      [⟨some 14, .call F_sha_Hash_Sum [.t 13], none⟩,
        ⟨some 15, .buildSlice ([.str []]) 1 1 [(0, 1, .t 14)], none⟩,
        ⟨some 16, .call F_sha_Hash_Add [.t 9, .t 15], none⟩,
        ⟨some 17, .call F_sha_Hash_Sum [.t 16], none⟩,
        ⟨some 2, .mv (.t 17), none⟩])
  (.ret))))
theorem t_mac_Mac_Tag : A F_mac_Mac_Tag = some c_mac_Mac_Tag := by kernel_rfl

noncomputable def c_mac_key : AFn := AFn.mk 16 [.tmp 2]
  (.seq (.region
      [⟨some 2, .mv (.k (.c (.str []))), none⟩])
  (.seq (.seq (.region
        [⟨some 3, .mv (.t 0), none⟩,
          ⟨some 4, .len true (.t 3), none⟩,
          ⟨some 5, .bin .gtr (.t 4) (.k (.c (.int .i64 64))), none⟩])
    (.cond (.t 5)
      (.region
        [⟨some 6, .mv (.t 0), none⟩,
          ⟨some 7, .buildSlice ([.str []]) 1 1 [(0, 1, .t 6)], none⟩,
          ⟨some 8, .call F_sha_Of [.t 7], none⟩,
          ⟨some 0, .mv (.t 8), none⟩])
      (.skip)))
  (.seq (.region
      [⟨some 9, .mv (.t 0), none⟩,
        ⟨some 10, .mv (.t 0), none⟩,
        ⟨some 11, .len true (.t 10), none⟩,
        ⟨some 12, .bin .sub (.k (.c (.int .i64 64))) (.t 11), none⟩,
        ⟨some 13, .makeSlice ([.int .u8 0]) 1 (.t 12) (.t 12), none⟩,
        ⟨some 14, .bytesStr (.t 13), none⟩,
        ⟨some 15, .bin .add (.t 9) (.t 14), none⟩,
        ⟨some 2, .mv (.t 15), none⟩])
  (.ret))))
theorem t_mac_key : A F_mac_key = some c_mac_key := by kernel_rfl

noncomputable def c_mac_masked : AFn := AFn.mk 31 [.tmp 4]
  (.seq (.region
      [⟨some 4, .mv (.k (.c (.str []))), none⟩])
  (.seq (.region
      [⟨some 9, .mv (.t 0), none⟩,
        ⟨some 10, .len true (.t 9), none⟩,
        ⟨some 11, .makeSlice ([.int .u8 0]) 1 (.t 10) (.t 10), none⟩,
        ⟨some 5, .mv (.t 11), none⟩])
  (.seq (.seq (.region
        [⟨some 12, .mv (.t 5), none⟩,
          ⟨some 13, .len false (.t 12), none⟩,
          ⟨some 14, .mv (.k (.c (.int .i64 0))), none⟩])
    (.block 0
      (.loop
        (.seq (.region
            [⟨some 15, .bin .lss (.t 14) (.t 13), none⟩])
        (.seq (.cond (.t 15)
            (.skip)
            (.exit 0))
        (.seq (.block 1
            (.seq (.region
                [⟨some 16, .mv (.t 14), none⟩,
                  ⟨some 6, .mv (.t 16), none⟩])
            (.region
              [⟨some 17, .mv (.t 5), none⟩,
                ⟨some 18, .mv (.t 6), none⟩,
                ⟨some 19, .mv (.t 1), none⟩,
                ⟨some 20, .idxSlc 1 (.t 17) (.t 18), none⟩,
                ⟨none, .store 1 (.t 20) (.t 19), none⟩])))
        (.region
          [⟨some 21, .bin .add (.t 14) (.k (.c (.int .i64 1))), none⟩,
            ⟨some 14, .mv (.t 21), none⟩])))))))
  (.seq (.region
      [⟨some 23, .mv (.t 0), none⟩,
        ⟨some 24, .mv (.t 5), none⟩,
        ⟨some 25, .bytesStr (.t 24), none⟩,
        ⟨some 26, .buildSlice ([.str [], .str []]) 1 2 [(0, 1, .t 23), (1, 1, .t 25)], none⟩,
        ⟨some 27, .call F_words_Xor [.t 26], none⟩,
        ⟨some 22, .mv (.t 27), none⟩,
        ⟨some 28, .extract (.t 22) 0, none⟩,
        ⟨some 29, .extract (.t 22) 1, none⟩,
        ⟨some 7, .mv (.t 28), none⟩,
        ⟨some 8, .mv (.t 29), none⟩])
  (.seq (.region
      [⟨some 30, .mv (.t 7), none⟩,
        ⟨some 4, .mv (.t 30), none⟩])
  (.ret))))))
theorem t_mac_masked : A F_mac_masked = some c_mac_masked := by kernel_rfl
end PK
