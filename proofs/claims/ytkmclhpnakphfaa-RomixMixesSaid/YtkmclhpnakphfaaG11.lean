/- Texts of this claim, put together: L24c KPestlelaw24 L24d KPestleref24 KPestleref02. -/
import Derived.Test.YtkmclhpnakphfaaG8
import Derived.Test.YtkmclhpnakphfaaG10
/- Package romix: Mix. -/
namespace PK
open Go PAbs
set_option linter.unusedSimpArgs false
set_option linter.unusedVariables false
set_option maxRecDepth 100000
set_option maxHeartbeats 4000000

def rowsO (ws : List Nat) (W R : Nat) : List (List Nat) := (List.range R).map (rowO ws W)
theorem rowsO_length {ws : List Nat} {W R : Nat} : (rowsO ws W R).length = R := by simp [rowsO]
theorem rowsO_get {ws : List Nat} {W R k : Nat} (h : k < R) : (rowsO ws W R)[k]? = some (rowO ws W k) := by rw [rowsO, List.getElem?_map, List.getElem?_range h]; rfl
theorem rowsO_getD {ws : List Nat} {W R k : Nat} (h : k < R) : (rowsO ws W R).getD k [] = rowO ws W k := by rw [List.getD_eq_getElem?_getD, rowsO_get h]; rfl
theorem rowsO_put {ws l : List Nat} {W R k : Nat} (hR : R * W ≤ ws.length) (hk : k < R) (hl : l.length = W) : rowsO (putO ws W k l) W R = (rowsO ws W R).set k l := by
  have hb : ∀ j, j < R → j * W + W ≤ ws.length := fun j hj => by have : (j + 1) * W ≤ R * W := Nat.mul_le_mul_right _ hj; rw [Nat.add_mul] at this; omega
  apply List.ext_getElem?
  intro j
  rw [List.getElem?_set, rowsO_length]
  rcases Nat.lt_or_ge j R with hj | hj
  · rw [rowsO_get hj, rowsO_get hj, row_put (hb k hk) (hb j hj) hl]
    by_cases e : k = j
    · subst e; rw [if_pos rfl, if_pos rfl, if_pos hj]
    · rw [if_neg e, if_neg (fun h => e h.symm)]
  · rw [List.getElem?_eq_none (by rw [rowsO_length]; exact hj), List.getElem?_eq_none (by rw [rowsO_length]; exact hj)]
    rw [if_neg (by omega)]

def xorW (x v : List Nat) (k : Nat) : List Nat := upd (fun c => x.getD c 0 ^^^ v.getD c 0) x k
def fillR (r first : Nat) (rows : List (List Nat)) (x : List Nat) : Nat → List (List Nat) × List Nat
  | 0 => (rows, x)
  | i + 1 => ((fillR r first rows x i).1.set (first + i) (fillR r first rows x i).2, mixW r (fillR r first rows x i).2)
def turnR (r first m : Nat) (rows : List (List Nat)) (x : List Nat) : Nat → List Nat
  | 0 => x
  | i + 1 => mixW r (xorW (turnR r first m rows x i) (rows.getD (first + intV r (turnR r first m rows x i) % m) []) (32 * r))
def mixR (r k first m : Nat) (rows : List (List Nat)) : List (List Nat) :=
  (fillR r first rows (rows.getD k []) m).1.set k (turnR r first m (fillR r first rows (rows.getD k []) m).1 (fillR r first rows (rows.getD k []) m).2 m)
def AllR (r : Nat) (rows : List (List Nat)) : Prop := ∀ j, j < rows.length → Row r (rows.getD j [])
theorem AllR.set {r : Nat} {rows : List (List Nat)} (h : AllR r rows) (k : Nat) {l : List Nat} (hl : Row r l) : AllR r (rows.set k l) := by
  intro j hj
  rw [List.length_set] at hj
  rw [List.getD_eq_getElem?_getD, List.getElem?_set]
  by_cases e : k = j
  · subst e; rw [if_pos rfl, if_pos hj]; exact hl
  · rw [if_neg e, ← List.getD_eq_getElem?_getD]; exact h j hj
theorem fillR_ok {r first : Nat} {rows : List (List Nat)} {x : List Nat} (h : AllR r rows) (hx : Row r x) : ∀ i, (fillR r first rows x i).1.length = rows.length ∧ AllR r (fillR r first rows x i).1 ∧ Row r (fillR r first rows x i).2
  | 0 => ⟨rfl, h, hx⟩
  | i + 1 => by
    obtain ⟨h1, h2, h3⟩ := fillR_ok (first := first) h hx i
    exact ⟨by simp only [fillR, List.length_set]; exact h1, h2.set _ h3, h3.mix⟩
theorem xorW_row {r : Nat} {x v : List Nat} (hx : Row r x) (hv : Row r v) (k : Nat) : Row r (xorW x v k) := by
  refine ⟨by rw [xorW, upd_length]; exact hx.len, hx.pos, hx.le, fun j => ?_⟩
  rcases Nat.lt_or_ge j x.length with h | h
  · rw [List.getD_eq_getElem?_getD, xorW, upd_get k j h]
    split
    · exact Nat.xor_lt_two_pow (n := 32) (hx.lt j) (hv.lt j)
    · rw [← List.getD_eq_getElem?_getD]; exact hx.lt j
  · rw [List.getD_eq_getElem?_getD, List.getElem?_eq_none (by rw [xorW, upd_length]; exact h)]; decide
theorem turnR_ok {r first m : Nat} {rows : List (List Nat)} {x : List Nat} (h : AllR r rows) (hx : Row r x) (hm : 1 ≤ m) (hf : first + m ≤ rows.length) : ∀ i, Row r (turnR r first m rows x i)
  | 0 => hx
  | i + 1 => by
    have h1 := turnR_ok h hx hm hf i
    have := Nat.mod_lt (intV r (turnR r first m rows x i)) hm
    exact (xorW_row h1 (h _ (by omega)) _).mix

theorem StoreAt.room {H : AHeap} {s p a q n r R : Nat} {live : Bool} {ws : List Nat} (h : StoreAt H s p a q n r R live ws) : R * (32 * r) ≤ ws.length := by
  rw [h.R2, h.len]; exact Nat.div_mul_le_self _ _
theorem StoreAt.row {H : AHeap} {s p a q n r R : Nat} {live : Bool} {ws : List Nat} (h : StoreAt H s p a q n r R live ws) {k : Nat} (hk : k < R) : Row r (rowO ws (32 * r) k) := by
  have hrw := h.rows hk
  have hl := h.len
  refine ⟨rowO_length (by omega), h.r1, h.r2, fun j => ?_⟩
  rcases Nat.lt_or_ge j (32 * r) with hj | hj
  · rw [rowO_get hj]; exact h.lt _
  · rw [List.getD_eq_getElem?_getD, List.getElem?_eq_none (by rw [rowO_length (by omega)]; exact hj)]; decide
theorem StoreAt.all {H : AHeap} {s p a q n r R : Nat} {live : Bool} {ws : List Nat} (h : StoreAt H s p a q n r R live ws) : AllR r (rowsO ws (32 * r) R) := by
  intro j hj
  rw [rowsO_length] at hj
  rw [rowsO_getD hj]; exact h.row hj
theorem own_slc {f : Nat} {H : AHeap} {x : Cell} {l : List Nat} {W : Nat} (h : Own f H x 1 (W32 l)) (hl : l.length = W) (h0 : 0 < W) : ∃ o, x = .slc o 0 W 1 ∧ f ≤ o ∧ hown H o = some (W32 l) := by
  rcases h with ⟨_, h2⟩ | ⟨o, m, rfl, h2, h3, h4⟩
  · have : (W32 l).length = 0 := by rw [h2]; rfl
    rw [W32_length] at this; omega
  · rw [W32_length] at h2
    obtain rfl : m = W := by omega
    exact ⟨o, rfl, h3, h4⟩

def powO (z : Int) : Int × Int := if z < 0 then (0, 1) else if z > 62 then (0, 10) else ((2 ^ z.toNat : Nat), 0)
theorem AC_Power (fl : Nat) (H : AHeap) (z : Int) : AC A fl F_size_Power [.c (.int .i64 z)] H (fun v H' => v = .tup [.c (.int .i64 (powO z).1), .c (.int .i64 (powO z).2)] ∧ H = H') := by
  refine AC_enter t_size_Power ?_; simp only [c_size_Power, enterA, List.replicate, List.length_cons, List.length_nil, Nat.reduceAdd, Nat.reduceSub, List.cons_append, List.nil_append]
  by_cases h1 : z < 0
  · rw [powO, if_pos h1]
    (repeat (first | with_reducible (first | refine thenQ_n ?_ | refine blockQ_n ?_ | refine thenQ_e ?_ | refine thenQ_r ?_ | refine blockQ_r ?_ | refine blockQ_s ?_ | refine blockQ_o rfl ?_) | refine AW_skip ?_ | refine AW_seq ?_ | refine AW_ops ?_ | refine AW_blockS ?_ | refine AW_blockR ?_ | refine AW_blockD ?_ | refine AW_blockC ?_ | refine AO_nil ?_ | refine AW_draw ?_ | refine AW_draw3 ?_ | refine AW_blockD3 ?_ | (refine AW_drawA ?_; simp only [atBlk, Sm]) | refine AHd_nil ?_ | with_reducible (first | refine AP_at ?_ | refine AHP_at ?_) | (with_reducible (first | apply AO_any | apply AHd_any | apply AP_go | apply AHP_go); focus (simp only [Sm, wantedA, execA, stepA, List.getElem?_cons_zero, List.getElem?_cons_succ, if_true, if_false, binA, binInt, unA, eqA, Option.map, eq_self, reduceCtorEq, ite_true, ite_false, cellsAV, fitsAll, CK.fits, fillA, AV.cells, writeN, sliceCells, appendA, lenA, i64, loA, hiA, Nat.reduceAdd, Nat.reduceMul, Nat.reduceDiv, Nat.reduceSub, Nat.reduceLeDiff, Nat.reduceLT, Int.reduceLE, Int.reduceLT, foldA, maxA, minA, Int.reduceBEq, Int.reduceBNe, Int.reduceGT, Int.reduceGE, Int.reduceEq, Int.reduceNe, Int.reduceToNat, AOp.stops, ↓want_eq, ↓exec_lenX, ↓exec_storeX, ↓exec_storeN, storeN_one, ↓exec_bsX, ↓exec_sliceX, ↓exec_copyX, ↓exec_appNil, ↓exec_carryX, Nat.sub_zero, rep_len, decide_eq_true h1]; with_reducible first | exact EqP.at_ | exact EqP.cont | exact EqP.hcont | exact EqP.gate | exact EqP.hgate)) | (refine AW_ift ?_ ?_; focus (simp only [Sm]; done)) | (refine AW_iff ?_ ?_; focus (simp only [Sm]; done))))
    exact AW_ret ⟨_, rfl, rfl, rfl⟩
  by_cases h2 : z > 62
  · rw [powO, if_neg h1, if_pos h2]
    (repeat (first | with_reducible (first | refine thenQ_n ?_ | refine blockQ_n ?_ | refine thenQ_e ?_ | refine thenQ_r ?_ | refine blockQ_r ?_ | refine blockQ_s ?_ | refine blockQ_o rfl ?_) | refine AW_skip ?_ | refine AW_seq ?_ | refine AW_ops ?_ | refine AW_blockS ?_ | refine AW_blockR ?_ | refine AW_blockD ?_ | refine AW_blockC ?_ | refine AO_nil ?_ | refine AW_draw ?_ | refine AW_draw3 ?_ | refine AW_blockD3 ?_ | (refine AW_drawA ?_; simp only [atBlk, Sm]) | refine AHd_nil ?_ | with_reducible (first | refine AP_at ?_ | refine AHP_at ?_) | (with_reducible (first | apply AO_any | apply AHd_any | apply AP_go | apply AHP_go); focus (simp only [Sm, wantedA, execA, stepA, List.getElem?_cons_zero, List.getElem?_cons_succ, if_true, if_false, binA, binInt, unA, eqA, Option.map, eq_self, reduceCtorEq, ite_true, ite_false, cellsAV, fitsAll, CK.fits, fillA, AV.cells, writeN, sliceCells, appendA, lenA, i64, loA, hiA, Nat.reduceAdd, Nat.reduceMul, Nat.reduceDiv, Nat.reduceSub, Nat.reduceLeDiff, Nat.reduceLT, Int.reduceLE, Int.reduceLT, foldA, maxA, minA, Int.reduceBEq, Int.reduceBNe, Int.reduceGT, Int.reduceGE, Int.reduceEq, Int.reduceNe, Int.reduceToNat, AOp.stops, ↓want_eq, ↓exec_lenX, ↓exec_storeX, ↓exec_storeN, storeN_one, ↓exec_bsX, ↓exec_sliceX, ↓exec_copyX, ↓exec_appNil, ↓exec_carryX, Nat.sub_zero, rep_len, decide_eq_false h1, decide_eq_true h2]; with_reducible first | exact EqP.at_ | exact EqP.cont | exact EqP.hcont | exact EqP.gate | exact EqP.hgate)) | (refine AW_ift ?_ ?_; focus (simp only [Sm]; done)) | (refine AW_iff ?_ ?_; focus (simp only [Sm]; done))))
    exact AW_ret ⟨_, rfl, rfl, rfl⟩
  rw [powO, if_neg h1, if_neg h2]
  obtain ⟨i, rfl⟩ := Int.eq_ofNat_of_zero_le (show 0 ≤ z by omega)
  have hi : i ≤ 62 := by omega
  have p1 : 2 ^ i ≤ 2 ^ 62 := Nat.pow_le_pow_right (by omega) hi
  have p0 : 0 < 2 ^ i := Nat.two_pow_pos _
  have w2 : shlA .i64 1 (i : Int) = ((2 ^ i : Nat) : Int) := by
    simp only [shlA, Int.toNat_natCast, Int.one_mul]
    rw [Nat.min_eq_left (by show i ≤ 64; omega), show ((2 : Int) ^ i) = ((2 ^ i : Nat) : Int) by simp, i64_of (by omega) (by omega)]
  have w6 : ¬ ((i : Int) < 0) := by omega
  (repeat (first | with_reducible (first | refine thenQ_n ?_ | refine blockQ_n ?_ | refine thenQ_e ?_ | refine thenQ_r ?_ | refine blockQ_r ?_ | refine blockQ_s ?_ | refine blockQ_o rfl ?_) | refine AW_skip ?_ | refine AW_seq ?_ | refine AW_ops ?_ | refine AW_blockS ?_ | refine AW_blockR ?_ | refine AW_blockD ?_ | refine AW_blockC ?_ | refine AO_nil ?_ | refine AW_draw ?_ | refine AW_draw3 ?_ | refine AW_blockD3 ?_ | (refine AW_drawA ?_; simp only [atBlk, Sm]) | refine AHd_nil ?_ | with_reducible (first | refine AP_at ?_ | refine AHP_at ?_) | (with_reducible (first | apply AO_any | apply AHd_any | apply AP_go | apply AHP_go); focus (simp only [Sm, wantedA, execA, stepA, List.getElem?_cons_zero, List.getElem?_cons_succ, if_true, if_false, binA, binInt, unA, eqA, Option.map, eq_self, reduceCtorEq, ite_true, ite_false, cellsAV, fitsAll, CK.fits, fillA, AV.cells, writeN, sliceCells, appendA, lenA, i64, loA, hiA, Nat.reduceAdd, Nat.reduceMul, Nat.reduceDiv, Nat.reduceSub, Nat.reduceLeDiff, Nat.reduceLT, Int.reduceLE, Int.reduceLT, foldA, maxA, minA, Int.reduceBEq, Int.reduceBNe, Int.reduceGT, Int.reduceGE, Int.reduceEq, Int.reduceNe, Int.reduceToNat, AOp.stops, ↓want_eq, ↓exec_lenX, ↓exec_storeX, ↓exec_storeN, storeN_one, ↓exec_bsX, ↓exec_sliceX, ↓exec_copyX, ↓exec_appNil, ↓exec_carryX, Nat.sub_zero, rep_len, decide_eq_false h1, decide_eq_false h2, w2, w6, Int.toNat_natCast]; with_reducible first | exact EqP.at_ | exact EqP.cont | exact EqP.hcont | exact EqP.gate | exact EqP.hgate)) | (refine AW_ift ?_ ?_; focus (simp only [Sm]; done)) | (refine AW_iff ?_ ?_; focus (simp only [Sm]; done))))
  exact AW_ret ⟨_, rfl, rfl, rfl⟩
theorem powO_pos {z : Int} (h : (powO z).2 = 0) : 1 ≤ (powO z).1 ∧ (powO z).1 ≤ 4611686018427387904 := by
  revert h
  unfold powO
  split
  · intro h; simp at h
  split
  · intro h; simp at h
  · intro _
    have : 0 < 2 ^ z.toNat := Nat.two_pow_pos _
    have : 2 ^ z.toNat ≤ 2 ^ 62 := Nat.pow_le_pow_right (by omega) (by omega)
    simp only; omega
def whyR (R : Nat) (live : Bool) (k log first : Int) : Int :=
  if hasO R live k ≠ 0 then hasO R live k else if (powO log).2 ≠ 0 then 2 else if first < 0 ∨ first > (R : Int) ∨ (powO log).1 > (R : Int) - first then 11 else if first ≤ k ∧ k - first < (powO log).1 then 1 else 0

section
variable {so p a q n r R : Nat}
theorem AC_roMix_bad (fl : Nat) (H : AHeap) {live : Bool} {ws : List Nat} (k log first : Int) (h : StoreAt H so p a q n r R live ws) (hb : whyR R live k log first ≠ 0) (hr : R ≤ 1000000) :
    AC A fl F_romix_Store_Mix [.c (.ptr so 0), .c (.int .i64 k), .c (.int .i64 log), .c (.int .i64 first)] H (fun v H' => v = .c (.int .i64 (whyR R live k log first)) ∧ H = H') := by
  have hc := hcells_own h.own
  refine AC_enter t_romix_Store_Mix ?_; simp only [c_romix_Store_Mix, enterA, List.replicate, List.length_cons, List.length_nil, Nat.reduceAdd, Nat.reduceSub, List.cons_append, List.nil_append]
  (repeat (first | with_reducible (first | refine thenQ_n ?_ | refine blockQ_n ?_ | refine thenQ_e ?_ | refine thenQ_r ?_ | refine blockQ_r ?_ | refine blockQ_s ?_ | refine blockQ_o rfl ?_) | refine AW_skip ?_ | refine AW_seq ?_ | refine AW_ops ?_ | refine AW_blockS ?_ | refine AW_blockR ?_ | refine AW_blockD ?_ | refine AW_blockC ?_ | refine AO_nil ?_ | refine AW_draw ?_ | refine AW_draw3 ?_ | refine AW_blockD3 ?_ | (refine AW_drawA ?_; simp only [atBlk, Sm]) | refine AHd_nil ?_ | with_reducible (first | refine AP_at ?_ | refine AHP_at ?_) | (with_reducible (first | apply AO_any | apply AHd_any | apply AP_go | apply AHP_go); focus (simp only [Sm, wantedA, execA, stepA, List.getElem?_cons_zero, List.getElem?_cons_succ, if_true, if_false, binA, binInt, unA, eqA, Option.map, eq_self, reduceCtorEq, ite_true, ite_false, cellsAV, fitsAll, CK.fits, fillA, AV.cells, writeN, sliceCells, appendA, lenA, i64, loA, hiA, Nat.reduceAdd, Nat.reduceMul, Nat.reduceDiv, Nat.reduceSub, Nat.reduceLeDiff, Nat.reduceLT, Int.reduceLE, Int.reduceLT, foldA, maxA, minA, Int.reduceBEq, Int.reduceBNe, Int.reduceGT, Int.reduceGE, Int.reduceEq, Int.reduceNe, Int.reduceToNat, AOp.stops, ↓want_eq, ↓exec_lenX, ↓exec_storeX, ↓exec_storeN, storeN_one, ↓exec_bsX, ↓exec_sliceX, ↓exec_copyX, ↓exec_appNil, ↓exec_carryX, Nat.sub_zero, rep_len]; with_reducible first | exact EqP.at_ | exact EqP.cont | exact EqP.hcont | exact EqP.gate | exact EqP.hgate)) | (refine AW_ift ?_ ?_; focus (simp only [Sm]; done)) | (refine AW_iff ?_ ?_; focus (simp only [Sm]; done))))
  refine AO_call rfl (AC_roHas fl H k h) ?_
  rintro _ _ ⟨rfl, rfl⟩
  by_cases h1 : hasO R live k ≠ 0
  · rw [whyR, if_pos h1]
    have e : (hasO R live k != 0) = true := bne_iff_ne.mpr h1
    (repeat (first | with_reducible (first | refine thenQ_n ?_ | refine blockQ_n ?_ | refine thenQ_e ?_ | refine thenQ_r ?_ | refine blockQ_r ?_ | refine blockQ_s ?_ | refine blockQ_o rfl ?_) | refine AW_skip ?_ | refine AW_seq ?_ | refine AW_ops ?_ | refine AW_blockS ?_ | refine AW_blockR ?_ | refine AW_blockD ?_ | refine AW_blockC ?_ | refine AO_nil ?_ | refine AW_draw ?_ | refine AW_draw3 ?_ | refine AW_blockD3 ?_ | (refine AW_drawA ?_; simp only [atBlk, Sm]) | refine AHd_nil ?_ | with_reducible (first | refine AP_at ?_ | refine AHP_at ?_) | (with_reducible (first | apply AO_any | apply AHd_any | apply AP_go | apply AHP_go); focus (simp only [Sm, wantedA, execA, stepA, List.getElem?_cons_zero, List.getElem?_cons_succ, if_true, if_false, binA, binInt, unA, eqA, Option.map, eq_self, reduceCtorEq, ite_true, ite_false, cellsAV, fitsAll, CK.fits, fillA, AV.cells, writeN, sliceCells, appendA, lenA, i64, loA, hiA, Nat.reduceAdd, Nat.reduceMul, Nat.reduceDiv, Nat.reduceSub, Nat.reduceLeDiff, Nat.reduceLT, Int.reduceLE, Int.reduceLT, foldA, maxA, minA, Int.reduceBEq, Int.reduceBNe, Int.reduceGT, Int.reduceGE, Int.reduceEq, Int.reduceNe, Int.reduceToNat, AOp.stops, ↓want_eq, ↓exec_lenX, ↓exec_storeX, ↓exec_storeN, storeN_one, ↓exec_bsX, ↓exec_sliceX, ↓exec_copyX, ↓exec_appNil, ↓exec_carryX, Nat.sub_zero, rep_len, e]; with_reducible first | exact EqP.at_ | exact EqP.cont | exact EqP.hcont | exact EqP.gate | exact EqP.hgate)) | (refine AW_ift ?_ ?_; focus (simp only [Sm]; done)) | (refine AW_iff ?_ ?_; focus (simp only [Sm]; done))))
    exact AW_ret ⟨_, rfl, rfl, rfl⟩
  have h1 : hasO R live k = 0 := Decidable.of_not_not h1
  have hkz : 0 ≤ k ∧ k < (R : Int) := by
    simp only [hasO] at h1
    split at h1
    · simp at h1
    · omega
  rw [whyR, if_neg (fun hh => hh h1)] at hb ⊢
  rw [h1]
  (repeat (first | with_reducible (first | refine thenQ_n ?_ | refine blockQ_n ?_ | refine thenQ_e ?_ | refine thenQ_r ?_ | refine blockQ_r ?_ | refine blockQ_s ?_ | refine blockQ_o rfl ?_) | refine AW_skip ?_ | refine AW_seq ?_ | refine AW_ops ?_ | refine AW_blockS ?_ | refine AW_blockR ?_ | refine AW_blockD ?_ | refine AW_blockC ?_ | refine AO_nil ?_ | refine AW_draw ?_ | refine AW_draw3 ?_ | refine AW_blockD3 ?_ | (refine AW_drawA ?_; simp only [atBlk, Sm]) | refine AHd_nil ?_ | with_reducible (first | refine AP_at ?_ | refine AHP_at ?_) | (with_reducible (first | apply AO_any | apply AHd_any | apply AP_go | apply AHP_go); focus (simp only [Sm, wantedA, execA, stepA, List.getElem?_cons_zero, List.getElem?_cons_succ, if_true, if_false, binA, binInt, unA, eqA, Option.map, eq_self, reduceCtorEq, ite_true, ite_false, cellsAV, fitsAll, CK.fits, fillA, AV.cells, writeN, sliceCells, appendA, lenA, i64, loA, hiA, Nat.reduceAdd, Nat.reduceMul, Nat.reduceDiv, Nat.reduceSub, Nat.reduceLeDiff, Nat.reduceLT, Int.reduceLE, Int.reduceLT, foldA, maxA, minA, Int.reduceBEq, Int.reduceBNe, Int.reduceGT, Int.reduceGE, Int.reduceEq, Int.reduceNe, Int.reduceToNat, AOp.stops, ↓want_eq, ↓exec_lenX, ↓exec_storeX, ↓exec_storeN, storeN_one, ↓exec_bsX, ↓exec_sliceX, ↓exec_copyX, ↓exec_appNil, ↓exec_carryX, Nat.sub_zero, rep_len]; with_reducible first | exact EqP.at_ | exact EqP.cont | exact EqP.hcont | exact EqP.gate | exact EqP.hgate)) | (refine AW_ift ?_ ?_; focus (simp only [Sm]; done)) | (refine AW_iff ?_ ?_; focus (simp only [Sm]; done))))
  refine AO_call rfl (AC_Power fl H log) ?_
  rintro _ _ ⟨rfl, rfl⟩
  by_cases h2 : (powO log).2 ≠ 0
  · rw [if_pos h2]
    have e : ((powO log).2 != 0) = true := bne_iff_ne.mpr h2
    (repeat (first | with_reducible (first | refine thenQ_n ?_ | refine blockQ_n ?_ | refine thenQ_e ?_ | refine thenQ_r ?_ | refine blockQ_r ?_ | refine blockQ_s ?_ | refine blockQ_o rfl ?_) | refine AW_skip ?_ | refine AW_seq ?_ | refine AW_ops ?_ | refine AW_blockS ?_ | refine AW_blockR ?_ | refine AW_blockD ?_ | refine AW_blockC ?_ | refine AO_nil ?_ | refine AW_draw ?_ | refine AW_draw3 ?_ | refine AW_blockD3 ?_ | (refine AW_drawA ?_; simp only [atBlk, Sm]) | refine AHd_nil ?_ | with_reducible (first | refine AP_at ?_ | refine AHP_at ?_) | (with_reducible (first | apply AO_any | apply AHd_any | apply AP_go | apply AHP_go); focus (simp only [Sm, wantedA, execA, stepA, List.getElem?_cons_zero, List.getElem?_cons_succ, if_true, if_false, binA, binInt, unA, eqA, Option.map, eq_self, reduceCtorEq, ite_true, ite_false, cellsAV, fitsAll, CK.fits, fillA, AV.cells, writeN, sliceCells, appendA, lenA, i64, loA, hiA, Nat.reduceAdd, Nat.reduceMul, Nat.reduceDiv, Nat.reduceSub, Nat.reduceLeDiff, Nat.reduceLT, Int.reduceLE, Int.reduceLT, foldA, maxA, minA, Int.reduceBEq, Int.reduceBNe, Int.reduceGT, Int.reduceGE, Int.reduceEq, Int.reduceNe, Int.reduceToNat, AOp.stops, ↓want_eq, ↓exec_lenX, ↓exec_storeX, ↓exec_storeN, storeN_one, ↓exec_bsX, ↓exec_sliceX, ↓exec_copyX, ↓exec_appNil, ↓exec_carryX, Nat.sub_zero, rep_len, e]; with_reducible first | exact EqP.at_ | exact EqP.cont | exact EqP.hcont | exact EqP.gate | exact EqP.hgate)) | (refine AW_ift ?_ ?_; focus (simp only [Sm]; done)) | (refine AW_iff ?_ ?_; focus (simp only [Sm]; done))))
    exact AW_ret ⟨_, rfl, rfl, rfl⟩
  have h2 : (powO log).2 = 0 := Decidable.of_not_not h2
  rw [if_neg (fun hh => hh h2)] at hb ⊢
  obtain ⟨m1, m2⟩ := powO_pos h2
  rw [h2]
  generalize (powO log).1 = m at *
  by_cases h3 : first < 0
  · rw [if_pos (.inl h3)]
    (repeat (first | with_reducible (first | refine thenQ_n ?_ | refine blockQ_n ?_ | refine thenQ_e ?_ | refine thenQ_r ?_ | refine blockQ_r ?_ | refine blockQ_s ?_ | refine blockQ_o rfl ?_) | refine AW_skip ?_ | refine AW_seq ?_ | refine AW_ops ?_ | refine AW_blockS ?_ | refine AW_blockR ?_ | refine AW_blockD ?_ | refine AW_blockC ?_ | refine AO_nil ?_ | refine AW_draw ?_ | refine AW_draw3 ?_ | refine AW_blockD3 ?_ | (refine AW_drawA ?_; simp only [atBlk, Sm]) | refine AHd_nil ?_ | with_reducible (first | refine AP_at ?_ | refine AHP_at ?_) | (with_reducible (first | apply AO_any | apply AHd_any | apply AP_go | apply AHP_go); focus (simp only [Sm, wantedA, execA, stepA, List.getElem?_cons_zero, List.getElem?_cons_succ, if_true, if_false, binA, binInt, unA, eqA, Option.map, eq_self, reduceCtorEq, ite_true, ite_false, cellsAV, fitsAll, CK.fits, fillA, AV.cells, writeN, sliceCells, appendA, lenA, i64, loA, hiA, Nat.reduceAdd, Nat.reduceMul, Nat.reduceDiv, Nat.reduceSub, Nat.reduceLeDiff, Nat.reduceLT, Int.reduceLE, Int.reduceLT, foldA, maxA, minA, Int.reduceBEq, Int.reduceBNe, Int.reduceGT, Int.reduceGE, Int.reduceEq, Int.reduceNe, Int.reduceToNat, AOp.stops, ↓want_eq, ↓exec_lenX, ↓exec_storeX, ↓exec_storeN, storeN_one, ↓exec_bsX, ↓exec_sliceX, ↓exec_copyX, ↓exec_appNil, ↓exec_carryX, Nat.sub_zero, rep_len, decide_eq_true h3]; with_reducible first | exact EqP.at_ | exact EqP.cont | exact EqP.hcont | exact EqP.gate | exact EqP.hgate)) | (refine AW_ift ?_ ?_; focus (simp only [Sm]; done)) | (refine AW_iff ?_ ?_; focus (simp only [Sm]; done))))
    exact AW_ret ⟨_, rfl, rfl, rfl⟩
  by_cases h4 : first > (R : Int)
  · rw [if_pos (.inr (.inl h4))]
    (repeat (first | with_reducible (first | refine thenQ_n ?_ | refine blockQ_n ?_ | refine thenQ_e ?_ | refine thenQ_r ?_ | refine blockQ_r ?_ | refine blockQ_s ?_ | refine blockQ_o rfl ?_) | refine AW_skip ?_ | refine AW_seq ?_ | refine AW_ops ?_ | refine AW_blockS ?_ | refine AW_blockR ?_ | refine AW_blockD ?_ | refine AW_blockC ?_ | refine AO_nil ?_ | refine AW_draw ?_ | refine AW_draw3 ?_ | refine AW_blockD3 ?_ | (refine AW_drawA ?_; simp only [atBlk, Sm]) | refine AHd_nil ?_ | with_reducible (first | refine AP_at ?_ | refine AHP_at ?_) | (with_reducible (first | apply AO_any | apply AHd_any | apply AP_go | apply AHP_go); focus (simp only [Sm, wantedA, execA, stepA, List.getElem?_cons_zero, List.getElem?_cons_succ, if_true, if_false, binA, binInt, unA, eqA, Option.map, eq_self, reduceCtorEq, ite_true, ite_false, cellsAV, fitsAll, CK.fits, fillA, AV.cells, writeN, sliceCells, appendA, lenA, i64, loA, hiA, Nat.reduceAdd, Nat.reduceMul, Nat.reduceDiv, Nat.reduceSub, Nat.reduceLeDiff, Nat.reduceLT, Int.reduceLE, Int.reduceLT, foldA, maxA, minA, Int.reduceBEq, Int.reduceBNe, Int.reduceGT, Int.reduceGE, Int.reduceEq, Int.reduceNe, Int.reduceToNat, AOp.stops, ↓want_eq, ↓exec_lenX, ↓exec_storeX, ↓exec_storeN, storeN_one, ↓exec_bsX, ↓exec_sliceX, ↓exec_copyX, ↓exec_appNil, ↓exec_carryX, Nat.sub_zero, rep_len, hc, decide_eq_false h3, decide_eq_true h4]; with_reducible first | exact EqP.at_ | exact EqP.cont | exact EqP.hcont | exact EqP.gate | exact EqP.hgate)) | (refine AW_ift ?_ ?_; focus (simp only [Sm]; done)) | (refine AW_iff ?_ ?_; focus (simp only [Sm]; done))))
    exact AW_ret ⟨_, rfl, rfl, rfl⟩
  have e1 : IntKind.i64.wrap ((R : Int) - first) = (R : Int) - first := i64_of (by omega) (by omega)
  by_cases h5 : m > (R : Int) - first
  · rw [if_pos (.inr (.inr h5))]
    (repeat (first | with_reducible (first | refine thenQ_n ?_ | refine blockQ_n ?_ | refine thenQ_e ?_ | refine thenQ_r ?_ | refine blockQ_r ?_ | refine blockQ_s ?_ | refine blockQ_o rfl ?_) | refine AW_skip ?_ | refine AW_seq ?_ | refine AW_ops ?_ | refine AW_blockS ?_ | refine AW_blockR ?_ | refine AW_blockD ?_ | refine AW_blockC ?_ | refine AO_nil ?_ | refine AW_draw ?_ | refine AW_draw3 ?_ | refine AW_blockD3 ?_ | (refine AW_drawA ?_; simp only [atBlk, Sm]) | refine AHd_nil ?_ | with_reducible (first | refine AP_at ?_ | refine AHP_at ?_) | (with_reducible (first | apply AO_any | apply AHd_any | apply AP_go | apply AHP_go); focus (simp only [Sm, wantedA, execA, stepA, List.getElem?_cons_zero, List.getElem?_cons_succ, if_true, if_false, binA, binInt, unA, eqA, Option.map, eq_self, reduceCtorEq, ite_true, ite_false, cellsAV, fitsAll, CK.fits, fillA, AV.cells, writeN, sliceCells, appendA, lenA, i64, loA, hiA, Nat.reduceAdd, Nat.reduceMul, Nat.reduceDiv, Nat.reduceSub, Nat.reduceLeDiff, Nat.reduceLT, Int.reduceLE, Int.reduceLT, foldA, maxA, minA, Int.reduceBEq, Int.reduceBNe, Int.reduceGT, Int.reduceGE, Int.reduceEq, Int.reduceNe, Int.reduceToNat, AOp.stops, ↓want_eq, ↓exec_lenX, ↓exec_storeX, ↓exec_storeN, storeN_one, ↓exec_bsX, ↓exec_sliceX, ↓exec_copyX, ↓exec_appNil, ↓exec_carryX, Nat.sub_zero, rep_len, hc, decide_eq_false h3, decide_eq_false h4, e1, decide_eq_true h5]; with_reducible first | exact EqP.at_ | exact EqP.cont | exact EqP.hcont | exact EqP.gate | exact EqP.hgate)) | (refine AW_ift ?_ ?_; focus (simp only [Sm]; done)) | (refine AW_iff ?_ ?_; focus (simp only [Sm]; done))))
    exact AW_ret ⟨_, rfl, rfl, rfl⟩
  rw [if_neg (by omega)] at hb ⊢
  have e2 : IntKind.i64.wrap (k - first) = k - first := i64_of (by omega) (by omega)
  by_cases h6 : first ≤ k ∧ k - first < m
  · rw [if_pos h6]
    (repeat (first | with_reducible (first | refine thenQ_n ?_ | refine blockQ_n ?_ | refine thenQ_e ?_ | refine thenQ_r ?_ | refine blockQ_r ?_ | refine blockQ_s ?_ | refine blockQ_o rfl ?_) | refine AW_skip ?_ | refine AW_seq ?_ | refine AW_ops ?_ | refine AW_blockS ?_ | refine AW_blockR ?_ | refine AW_blockD ?_ | refine AW_blockC ?_ | refine AO_nil ?_ | refine AW_draw ?_ | refine AW_draw3 ?_ | refine AW_blockD3 ?_ | (refine AW_drawA ?_; simp only [atBlk, Sm]) | refine AHd_nil ?_ | with_reducible (first | refine AP_at ?_ | refine AHP_at ?_) | (with_reducible (first | apply AO_any | apply AHd_any | apply AP_go | apply AHP_go); focus (simp only [Sm, wantedA, execA, stepA, List.getElem?_cons_zero, List.getElem?_cons_succ, if_true, if_false, binA, binInt, unA, eqA, Option.map, eq_self, reduceCtorEq, ite_true, ite_false, cellsAV, fitsAll, CK.fits, fillA, AV.cells, writeN, sliceCells, appendA, lenA, i64, loA, hiA, Nat.reduceAdd, Nat.reduceMul, Nat.reduceDiv, Nat.reduceSub, Nat.reduceLeDiff, Nat.reduceLT, Int.reduceLE, Int.reduceLT, foldA, maxA, minA, Int.reduceBEq, Int.reduceBNe, Int.reduceGT, Int.reduceGE, Int.reduceEq, Int.reduceNe, Int.reduceToNat, AOp.stops, ↓want_eq, ↓exec_lenX, ↓exec_storeX, ↓exec_storeN, storeN_one, ↓exec_bsX, ↓exec_sliceX, ↓exec_copyX, ↓exec_appNil, ↓exec_carryX, Nat.sub_zero, rep_len, hc, decide_eq_false h3, decide_eq_false h4, e1, decide_eq_false h5, decide_eq_true (show k ≥ first from h6.1), e2, decide_eq_true h6.2]; with_reducible first | exact EqP.at_ | exact EqP.cont | exact EqP.hcont | exact EqP.gate | exact EqP.hgate)) | (refine AW_ift ?_ ?_; focus (simp only [Sm]; done)) | (refine AW_iff ?_ ?_; focus (simp only [Sm]; done))))
    exact AW_ret ⟨_, rfl, rfl, rfl⟩
  · rw [if_neg h6] at hb
    exact absurd rfl hb


def maI24 (so p a q n r R k first m : Nat) (rows : List (List Nat)) (x0 : List Nat) (H0 : AHeap) (i : Nat) (fr : AFrame) (H : AHeap) : Prop :=
  Chg (· = q) H0 H ∧ ∃ ws o, StoreAt H so p a q n r R true ws ∧ rowsO ws (32 * r) R = (fillR r first rows x0 i).1 ∧ H0.length ≤ o ∧ hown H o = some (W32 (fillR r first rows x0 i).2) ∧ (∃ s : Nat → AV, fr = [.c (.ptr so 0), .c (.int .i64 (k : Int)), s 2, .c (.int .i64 (first : Int)), s 4, s 5, s 6, s 7, s 8, s 9, .c (.int .i64 (m : Int)), s 11, .c (.int .i64 (r : Int)), .c (.slc o 0 (32 * r) 1), s 14, s 15, s 16, s 17, s 18, s 19, s 20, s 21, s 22, s 23, s 24, s 25, s 26, s 27, s 28, s 29, s 30, s 31, s 32, s 33, s 34, s 35, s 36, s 37, s 38, s 39, s 40, s 41, s 42, s 43, s 44, s 45, s 46, s 47, s 48, s 49, s 50, s 51, s 52, s 53, s 54, s 55, s 56, s 57, s 58, s 59, s 60, s 61, s 62, s 63, s 64, s 65, s 66, s 67, s 68, s 69, s 70, s 71, s 72, s 73, s 74, s 75, s 76, s 77, .c (.int .i64 (m : Int)), .c (.int .i64 (i : Int)), s 80, s 81, s 82, s 83, s 84, s 85, s 86, s 87, s 88, s 89, s 90, s 91, s 92, s 93, s 94, s 95, s 96, s 97, s 98, s 99, s 100, s 101, s 102, s 103, s 104, s 105, s 106, s 107, s 108, s 109, s 110, s 111, s 112, s 113, s 114, s 115, s 116, s 117, s 118, s 119, s 120, s 121, s 122, s 123, s 124, s 125, s 126, s 127, s 128, s 129, s 130, s 131, s 132, s 133, s 134, s 135, s 136, s 137, s 138, s 139, s 140, s 141, s 142])

def mbI24 (so p a q n r R k first m : Nat) (rows : List (List Nat)) (x1 : List Nat) (ws : List Nat) (H0 : AHeap) (i : Nat) (fr : AFrame) (H : AHeap) : Prop :=
  Chg (· = q) H0 H ∧ ∃ o, StoreAt H so p a q n r R true ws ∧ H0.length ≤ o ∧ hown H o = some (W32 (turnR r first m rows x1 i)) ∧ (∃ s : Nat → AV, fr = [.c (.ptr so 0), .c (.int .i64 (k : Int)), s 2, .c (.int .i64 (first : Int)), s 4, s 5, s 6, s 7, s 8, s 9, .c (.int .i64 (m : Int)), s 11, .c (.int .i64 (r : Int)), .c (.slc o 0 (32 * r) 1), s 14, s 15, s 16, s 17, s 18, s 19, s 20, s 21, s 22, s 23, s 24, s 25, s 26, s 27, s 28, s 29, s 30, s 31, s 32, s 33, s 34, s 35, s 36, s 37, s 38, s 39, s 40, s 41, s 42, s 43, s 44, s 45, s 46, s 47, s 48, s 49, s 50, s 51, s 52, s 53, s 54, s 55, s 56, s 57, s 58, s 59, s 60, s 61, s 62, s 63, s 64, s 65, s 66, s 67, s 68, s 69, s 70, s 71, s 72, s 73, s 74, s 75, s 76, s 77, s 78, s 79, s 80, s 81, s 82, s 83, s 84, s 85, s 86, s 87, s 88, s 89, s 90, s 91, s 92, s 93, s 94, .c (.int .i64 (m : Int)), .c (.int .i64 (i : Int)), s 97, s 98, s 99, s 100, s 101, s 102, s 103, s 104, s 105, s 106, s 107, s 108, s 109, s 110, s 111, s 112, s 113, s 114, s 115, s 116, s 117, s 118, s 119, s 120, s 121, s 122, s 123, s 124, s 125, s 126, s 127, s 128, s 129, s 130, s 131, s 132, s 133, s 134, s 135, s 136, s 137, s 138, s 139, s 140, s 141, s 142])

def mcI24 (so r k first m i o v : Nat) (x y : List Nat) (H0 : AHeap) (j : Nat) (fr : AFrame) (H : AHeap) : Prop := Chg (· = o) H0 H ∧ hown H o = some (W32 (xorW x y j)) ∧ (∃ s : Nat → AV, fr = [.c (.ptr so 0), .c (.int .i64 (k : Int)), s 2, .c (.int .i64 (first : Int)), s 4, s 5, s 6, s 7, s 8, s 9, .c (.int .i64 (m : Int)), s 11, .c (.int .i64 (r : Int)), .c (.slc o 0 (32 * r) 1), s 14, s 15, s 16, s 17, .c (.slc v 0 (32 * r) 1), s 19, s 20, s 21, s 22, s 23, s 24, s 25, s 26, s 27, s 28, s 29, s 30, s 31, s 32, s 33, s 34, s 35, s 36, s 37, s 38, s 39, s 40, s 41, s 42, s 43, s 44, s 45, s 46, s 47, s 48, s 49, s 50, s 51, s 52, s 53, s 54, s 55, s 56, s 57, s 58, s 59, s 60, s 61, s 62, s 63, s 64, s 65, s 66, s 67, s 68, s 69, s 70, s 71, s 72, s 73, s 74, s 75, s 76, s 77, s 78, s 79, s 80, s 81, s 82, s 83, s 84, s 85, s 86, s 87, s 88, s 89, s 90, s 91, s 92, s 93, s 94, .c (.int .i64 (m : Int)), .c (.int .i64 (i : Int)), s 97, s 98, s 99, s 100, s 101, s 102, s 103, s 104, s 105, s 106, s 107, s 108, s 109, s 110, s 111, s 112, s 113, s 114, s 115, s 116, .c (.int .i64 ((32 * r : Nat) : Int)), .c (.int .i64 (j : Int)), s 119, s 120, s 121, s 122, s 123, s 124, s 125, s 126, s 127, s 128, s 129, s 130, s 131, s 132, s 133, s 134, s 135, s 136, s 137, s 138, s 139, s 140, s 141, s 142])
theorem AC_roMix (fl : Nat) (H : AHeap) {ws : List Nat} (k first m : Nat) (log : Int) (h : StoreAt H so p a q n r R true ws) (hf : fl ≤ q) (hlog : powO log = ((m : Int), 0)) (hm : 1 ≤ m) (hfm : first + m ≤ R) (hk : k < R) (hne : ¬ (first ≤ k ∧ k < first + m)) (hR : R ≤ 1000000) :
    AC A fl F_romix_Store_Mix [.c (.ptr so 0), .c (.int .i64 (k : Int)), .c (.int .i64 log), .c (.int .i64 (first : Int))] H
      (fun v H' => v = .c (.int .i64 0) ∧ Chg (· = q) H H' ∧ ∃ ws', StoreAt H' so p a q n r R true ws' ∧ rowsO ws' (32 * r) R = mixR r k first m (rowsO ws (32 * r) R)) := by
  have hc := hcells_own h.own
  have hr1 := h.r1; have hr2 := h.r2
  have sl := hown_lt h.own; have pl := hown_lt h.pc.own; have ql := hown_lt h.pc.blk
  have hh : hasO R true (k : Int) = 0 := by simp only [hasO]; rw [if_neg (by omega)]; rfl
  have e1 : IntKind.i64.wrap ((R : Int) - (first : Int)) = (R : Int) - (first : Int) := i64_of (by omega) (by omega)
  have e2 : IntKind.i64.wrap ((k : Int) - (first : Int)) = (k : Int) - (first : Int) := i64_of (by omega) (by omega)
  have z32 : ¬ ((32 : Int) = 0) := by omega
  have e3 : Int.tdiv ((32 * r : Nat) : Int) 32 = (r : Int) := (tdiv_nat (a := 32 * r) (b := 32)).trans (by rw [Nat.mul_div_cancel_left _ (by omega)])
  have e4 : IntKind.i64.wrap (r : Int) = (r : Int) := i64_of (by omega) (by omega)
  have hall := h.all
  have hx0 := h.row hk
  have hlen0 : (rowsO ws (32 * r) R).length = R := rowsO_length
  have hx0' : (rowsO ws (32 * r) R).getD k [] = rowO ws (32 * r) k := rowsO_getD hk
  refine AC_enter t_romix_Store_Mix ?_; simp only [c_romix_Store_Mix, enterA, List.replicate, List.length_cons, List.length_nil, Nat.reduceAdd, Nat.reduceSub, List.cons_append, List.nil_append]
  (repeat (first | with_reducible (first | refine thenQ_n ?_ | refine blockQ_n ?_ | refine thenQ_e ?_ | refine thenQ_r ?_ | refine blockQ_r ?_ | refine blockQ_s ?_ | refine blockQ_o rfl ?_) | refine AW_skip ?_ | refine AW_seq ?_ | refine AW_ops ?_ | refine AW_blockS ?_ | refine AW_blockR ?_ | refine AW_blockD ?_ | refine AW_blockC ?_ | refine AO_nil ?_ | refine AW_draw ?_ | refine AW_draw3 ?_ | refine AW_blockD3 ?_ | (refine AW_drawA ?_; simp only [atBlk, Sm]) | refine AHd_nil ?_ | with_reducible (first | refine AP_at ?_ | refine AHP_at ?_) | (with_reducible (first | apply AO_any | apply AHd_any | apply AP_go | apply AHP_go); focus (simp only [Sm, wantedA, execA, stepA, List.getElem?_cons_zero, List.getElem?_cons_succ, if_true, if_false, binA, binInt, unA, eqA, Option.map, eq_self, reduceCtorEq, ite_true, ite_false, cellsAV, fitsAll, CK.fits, fillA, AV.cells, writeN, sliceCells, appendA, lenA, i64, loA, hiA, Nat.reduceAdd, Nat.reduceMul, Nat.reduceDiv, Nat.reduceSub, Nat.reduceLeDiff, Nat.reduceLT, Int.reduceLE, Int.reduceLT, foldA, maxA, minA, Int.reduceBEq, Int.reduceBNe, Int.reduceGT, Int.reduceGE, Int.reduceEq, Int.reduceNe, Int.reduceToNat, AOp.stops, ↓want_eq, ↓exec_lenX, ↓exec_storeX, ↓exec_storeN, storeN_one, ↓exec_bsX, ↓exec_sliceX, ↓exec_copyX, ↓exec_appNil, ↓exec_carryX, Nat.sub_zero, rep_len]; with_reducible first | exact EqP.at_ | exact EqP.cont | exact EqP.hcont | exact EqP.gate | exact EqP.hgate)) | (refine AW_ift ?_ ?_; focus (simp only [Sm]; done)) | (refine AW_iff ?_ ?_; focus (simp only [Sm]; done))))
  refine AO_call rfl (AC_roHas fl H k h) ?_
  rintro _ _ ⟨rfl, rfl⟩
  rw [hh]
  (repeat (first | with_reducible (first | refine thenQ_n ?_ | refine blockQ_n ?_ | refine thenQ_e ?_ | refine thenQ_r ?_ | refine blockQ_r ?_ | refine blockQ_s ?_ | refine blockQ_o rfl ?_) | refine AW_skip ?_ | refine AW_seq ?_ | refine AW_ops ?_ | refine AW_blockS ?_ | refine AW_blockR ?_ | refine AW_blockD ?_ | refine AW_blockC ?_ | refine AO_nil ?_ | refine AW_draw ?_ | refine AW_draw3 ?_ | refine AW_blockD3 ?_ | (refine AW_drawA ?_; simp only [atBlk, Sm]) | refine AHd_nil ?_ | with_reducible (first | refine AP_at ?_ | refine AHP_at ?_) | (with_reducible (first | apply AO_any | apply AHd_any | apply AP_go | apply AHP_go); focus (simp only [Sm, wantedA, execA, stepA, List.getElem?_cons_zero, List.getElem?_cons_succ, if_true, if_false, binA, binInt, unA, eqA, Option.map, eq_self, reduceCtorEq, ite_true, ite_false, cellsAV, fitsAll, CK.fits, fillA, AV.cells, writeN, sliceCells, appendA, lenA, i64, loA, hiA, Nat.reduceAdd, Nat.reduceMul, Nat.reduceDiv, Nat.reduceSub, Nat.reduceLeDiff, Nat.reduceLT, Int.reduceLE, Int.reduceLT, foldA, maxA, minA, Int.reduceBEq, Int.reduceBNe, Int.reduceGT, Int.reduceGE, Int.reduceEq, Int.reduceNe, Int.reduceToNat, AOp.stops, ↓want_eq, ↓exec_lenX, ↓exec_storeX, ↓exec_storeN, storeN_one, ↓exec_bsX, ↓exec_sliceX, ↓exec_copyX, ↓exec_appNil, ↓exec_carryX, Nat.sub_zero, rep_len]; with_reducible first | exact EqP.at_ | exact EqP.cont | exact EqP.hcont | exact EqP.gate | exact EqP.hgate)) | (refine AW_ift ?_ ?_; focus (simp only [Sm]; done)) | (refine AW_iff ?_ ?_; focus (simp only [Sm]; done))))
  refine AO_call rfl (AC_Power fl H log) ?_
  rintro _ _ ⟨rfl, rfl⟩
  rw [hlog]
  rcases Decidable.em ((k : Int) ≥ (first : Int)) with hkf | hkf
  case' inl =>
    (repeat (first | with_reducible (first | refine thenQ_n ?_ | refine blockQ_n ?_ | refine thenQ_e ?_ | refine thenQ_r ?_ | refine blockQ_r ?_ | refine blockQ_s ?_ | refine blockQ_o rfl ?_) | refine AW_skip ?_ | refine AW_seq ?_ | refine AW_ops ?_ | refine AW_blockS ?_ | refine AW_blockR ?_ | refine AW_blockD ?_ | refine AW_blockC ?_ | refine AO_nil ?_ | refine AW_draw ?_ | refine AW_draw3 ?_ | refine AW_blockD3 ?_ | (refine AW_drawA ?_; simp only [atBlk, Sm]) | refine AHd_nil ?_ | with_reducible (first | refine AP_at ?_ | refine AHP_at ?_) | (with_reducible (first | apply AO_any | apply AHd_any | apply AP_go | apply AHP_go); focus (simp only [Sm, wantedA, execA, stepA, List.getElem?_cons_zero, List.getElem?_cons_succ, if_true, if_false, binA, binInt, unA, eqA, Option.map, eq_self, reduceCtorEq, ite_true, ite_false, cellsAV, fitsAll, CK.fits, fillA, AV.cells, writeN, sliceCells, appendA, lenA, i64, loA, hiA, Nat.reduceAdd, Nat.reduceMul, Nat.reduceDiv, Nat.reduceSub, Nat.reduceLeDiff, Nat.reduceLT, Int.reduceLE, Int.reduceLT, foldA, maxA, minA, Int.reduceBEq, Int.reduceBNe, Int.reduceGT, Int.reduceGE, Int.reduceEq, Int.reduceNe, Int.reduceToNat, AOp.stops, ↓want_eq, ↓exec_lenX, ↓exec_storeX, ↓exec_storeN, storeN_one, ↓exec_bsX, ↓exec_sliceX, ↓exec_copyX, ↓exec_appNil, ↓exec_carryX, Nat.sub_zero, rep_len, hc, decide_eq_false (show ¬ (first : Int) < 0 by omega), decide_eq_false (show ¬ (first : Int) > (R : Int) by omega), e1, decide_eq_false (show ¬ (m : Int) > (R : Int) - (first : Int) by omega), decide_eq_true hkf, e2, decide_eq_false (show ¬ (k : Int) - (first : Int) < (m : Int) by omega), z32, e3, e4]; with_reducible first | exact EqP.at_ | exact EqP.cont | exact EqP.hcont | exact EqP.gate | exact EqP.hgate)) | (refine AW_ift ?_ ?_; focus (simp only [Sm]; done)) | (refine AW_iff ?_ ?_; focus (simp only [Sm]; done))))
  case' inr =>
    (repeat (first | with_reducible (first | refine thenQ_n ?_ | refine blockQ_n ?_ | refine thenQ_e ?_ | refine thenQ_r ?_ | refine blockQ_r ?_ | refine blockQ_s ?_ | refine blockQ_o rfl ?_) | refine AW_skip ?_ | refine AW_seq ?_ | refine AW_ops ?_ | refine AW_blockS ?_ | refine AW_blockR ?_ | refine AW_blockD ?_ | refine AW_blockC ?_ | refine AO_nil ?_ | refine AW_draw ?_ | refine AW_draw3 ?_ | refine AW_blockD3 ?_ | (refine AW_drawA ?_; simp only [atBlk, Sm]) | refine AHd_nil ?_ | with_reducible (first | refine AP_at ?_ | refine AHP_at ?_) | (with_reducible (first | apply AO_any | apply AHd_any | apply AP_go | apply AHP_go); focus (simp only [Sm, wantedA, execA, stepA, List.getElem?_cons_zero, List.getElem?_cons_succ, if_true, if_false, binA, binInt, unA, eqA, Option.map, eq_self, reduceCtorEq, ite_true, ite_false, cellsAV, fitsAll, CK.fits, fillA, AV.cells, writeN, sliceCells, appendA, lenA, i64, loA, hiA, Nat.reduceAdd, Nat.reduceMul, Nat.reduceDiv, Nat.reduceSub, Nat.reduceLeDiff, Nat.reduceLT, Int.reduceLE, Int.reduceLT, foldA, maxA, minA, Int.reduceBEq, Int.reduceBNe, Int.reduceGT, Int.reduceGE, Int.reduceEq, Int.reduceNe, Int.reduceToNat, AOp.stops, ↓want_eq, ↓exec_lenX, ↓exec_storeX, ↓exec_storeN, storeN_one, ↓exec_bsX, ↓exec_sliceX, ↓exec_copyX, ↓exec_appNil, ↓exec_carryX, Nat.sub_zero, rep_len, hc, decide_eq_false (show ¬ (first : Int) < 0 by omega), decide_eq_false (show ¬ (first : Int) > (R : Int) by omega), e1, decide_eq_false (show ¬ (m : Int) > (R : Int) - (first : Int) by omega), decide_eq_false hkf, z32, e3, e4]; with_reducible first | exact EqP.at_ | exact EqP.cont | exact EqP.hcont | exact EqP.gate | exact EqP.hgate)) | (refine AW_ift ?_ ?_; focus (simp only [Sm]; done)) | (refine AW_iff ?_ ?_; focus (simp only [Sm]; done))))
  all_goals
    refine AO_call rfl ((AC_roRow H k h hk).floor (by omega)) ?_
    rintro _ H1 ⟨⟨x, rfl, hx⟩, k1⟩
    obtain ⟨o1, rfl, ho1, g1⟩ := own_slc hx hx0.len (by omega)
    have h1 := h.kept k1
    (repeat (first | with_reducible (first | refine thenQ_n ?_ | refine blockQ_n ?_ | refine thenQ_e ?_ | refine thenQ_r ?_ | refine blockQ_r ?_ | refine blockQ_s ?_ | refine blockQ_o rfl ?_) | refine AW_skip ?_ | refine AW_seq ?_ | refine AW_ops ?_ | refine AW_blockS ?_ | refine AW_blockR ?_ | refine AW_blockD ?_ | refine AW_blockC ?_ | refine AO_nil ?_ | refine AW_draw ?_ | refine AW_draw3 ?_ | refine AW_blockD3 ?_ | (refine AW_drawA ?_; simp only [atBlk, Sm]) | refine AHd_nil ?_ | with_reducible (first | refine AP_at ?_ | refine AHP_at ?_) | (with_reducible (first | apply AO_any | apply AHd_any | apply AP_go | apply AHP_go); focus (simp only [Sm, wantedA, execA, stepA, List.getElem?_cons_zero, List.getElem?_cons_succ, if_true, if_false, binA, binInt, unA, eqA, Option.map, eq_self, reduceCtorEq, ite_true, ite_false, cellsAV, fitsAll, CK.fits, fillA, AV.cells, writeN, sliceCells, appendA, lenA, i64, loA, hiA, Nat.reduceAdd, Nat.reduceMul, Nat.reduceDiv, Nat.reduceSub, Nat.reduceLeDiff, Nat.reduceLT, Int.reduceLE, Int.reduceLT, foldA, maxA, minA, Int.reduceBEq, Int.reduceBNe, Int.reduceGT, Int.reduceGE, Int.reduceEq, Int.reduceNe, Int.reduceToNat, AOp.stops, ↓want_eq, ↓exec_lenX, ↓exec_storeX, ↓exec_storeN, storeN_one, ↓exec_bsX, ↓exec_sliceX, ↓exec_copyX, ↓exec_appNil, ↓exec_carryX, Nat.sub_zero, rep_len]; with_reducible first | exact EqP.at_ | exact EqP.cont | exact EqP.hcont | exact EqP.gate | exact EqP.hgate)) | (refine AW_ift ?_ ?_; focus (simp only [Sm]; done)) | (refine AW_iff ?_ ?_; focus (simp only [Sm]; done))))
    refine AW_mid (fun e fr H' => e = .normal ∧ maI24 so p a q n r R k first m (rowsO ws (32 * r) R) (rowO ws (32 * r) k) H m fr H') ?_ ?_
    · refine AW_block (AW_up (maI24 so p a q n r R k first m (rowsO ws (32 * r) R) (rowO ws (32 * r) k) H) m ⟨(Chg.of_kept k1).mono (fun _ _ h => h.elim), ws, o1, h1, rfl, ho1, g1, stale _ _ rfl⟩ ?_)
      rintro i fr H2 hi ⟨c2, ws2, o2, h2, hr2', ho2, g2, st, rfl⟩
      have l2 := c2.1
      (repeat (first | with_reducible (first | refine thenQ_n ?_ | refine blockQ_n ?_ | refine thenQ_e ?_ | refine thenQ_r ?_ | refine blockQ_r ?_ | refine blockQ_s ?_ | refine blockQ_o rfl ?_) | refine AW_skip ?_ | refine AW_seq ?_ | refine AW_ops ?_ | refine AW_blockS ?_ | refine AW_blockR ?_ | refine AW_blockD ?_ | refine AW_blockC ?_ | refine AO_nil ?_ | refine AW_draw ?_ | refine AW_draw3 ?_ | refine AW_blockD3 ?_ | (refine AW_drawA ?_; simp only [atBlk, Sm]) | refine AHd_nil ?_ | with_reducible (first | refine AP_at ?_ | refine AHP_at ?_) | (with_reducible (first | apply AO_any | apply AHd_any | apply AP_go | apply AHP_go); focus (simp only [Sm, wantedA, execA, stepA, List.getElem?_cons_zero, List.getElem?_cons_succ, if_true, if_false, binA, binInt, unA, eqA, Option.map, eq_self, reduceCtorEq, ite_true, ite_false, cellsAV, fitsAll, CK.fits, fillA, AV.cells, writeN, sliceCells, appendA, lenA, i64, loA, hiA, Nat.reduceAdd, Nat.reduceMul, Nat.reduceDiv, Nat.reduceSub, Nat.reduceLeDiff, Nat.reduceLT, Int.reduceLE, Int.reduceLT, foldA, maxA, minA, Int.reduceBEq, Int.reduceBNe, Int.reduceGT, Int.reduceGE, Int.reduceEq, Int.reduceNe, Int.reduceToNat, AOp.stops, ↓want_eq, ↓exec_lenX, ↓exec_storeX, ↓exec_storeN, storeN_one, ↓exec_bsX, ↓exec_sliceX, ↓exec_copyX, ↓exec_appNil, ↓exec_carryX, Nat.sub_zero, rep_len]; with_reducible first | exact EqP.at_ | exact EqP.cont | exact EqP.hcont | exact EqP.gate | exact EqP.hgate)) | (refine AW_ift ?_ ?_; focus (simp only [Sm]; done)) | (refine AW_iff ?_ ?_; focus (simp only [Sm]; done))))
      refine AW_cond rfl ?_ ?_ <;> intro ht
      · have ht : (i : Int) < (m : Int) := of_decide_eq_true ht
        have hi2 : i < m := by omega
        obtain ⟨fl1, fl2, fl3⟩ := fillR_ok (first := first) hall hx0 i
        have e5 : IntKind.i64.wrap ((first : Int) + (i : Int)) = ((first + i : Nat) : Int) := i64_add (by omega)
        (repeat (first | with_reducible (first | refine thenQ_n ?_ | refine blockQ_n ?_ | refine thenQ_e ?_ | refine thenQ_r ?_ | refine blockQ_r ?_ | refine blockQ_s ?_ | refine blockQ_o rfl ?_) | refine AW_skip ?_ | refine AW_seq ?_ | refine AW_ops ?_ | refine AW_blockS ?_ | refine AW_blockR ?_ | refine AW_blockD ?_ | refine AW_blockC ?_ | refine AO_nil ?_ | refine AW_draw ?_ | refine AW_draw3 ?_ | refine AW_blockD3 ?_ | (refine AW_drawA ?_; simp only [atBlk, Sm]) | refine AHd_nil ?_ | with_reducible (first | refine AP_at ?_ | refine AHP_at ?_) | (with_reducible (first | apply AO_any | apply AHd_any | apply AP_go | apply AHP_go); focus (simp only [Sm, wantedA, execA, stepA, List.getElem?_cons_zero, List.getElem?_cons_succ, if_true, if_false, binA, binInt, unA, eqA, Option.map, eq_self, reduceCtorEq, ite_true, ite_false, cellsAV, fitsAll, CK.fits, fillA, AV.cells, writeN, sliceCells, appendA, lenA, i64, loA, hiA, Nat.reduceAdd, Nat.reduceMul, Nat.reduceDiv, Nat.reduceSub, Nat.reduceLeDiff, Nat.reduceLT, Int.reduceLE, Int.reduceLT, foldA, maxA, minA, Int.reduceBEq, Int.reduceBNe, Int.reduceGT, Int.reduceGE, Int.reduceEq, Int.reduceNe, Int.reduceToNat, AOp.stops, ↓want_eq, ↓exec_lenX, ↓exec_storeX, ↓exec_storeN, storeN_one, ↓exec_bsX, ↓exec_sliceX, ↓exec_copyX, ↓exec_appNil, ↓exec_carryX, Nat.sub_zero, rep_len, ht, e5]; with_reducible first | exact EqP.at_ | exact EqP.cont | exact EqP.hcont | exact EqP.gate | exact EqP.hgate)) | (refine AW_ift ?_ ?_; focus (simp only [Sm]; done)) | (refine AW_iff ?_ ?_; focus (simp only [Sm]; done))))
        refine AO_call rfl (AC_roPut fl H2 (first + i) (.slc o2 0 (32 * r) 1) _ h2 (by omega) (Rd.all (hcells_own g2) (by rw [W32_length, fl3.len])) (by rintro ⟨_, _, _, e⟩; injection e with e; omega) fl3.len fl3.lt hf) ?_
        rintro _ H3 ⟨rfl, h3, c3, l3⟩
        have g3 := c3.hown (show ¬ o2 = q by omega) g2
        (repeat (first | with_reducible (first | refine thenQ_n ?_ | refine blockQ_n ?_ | refine thenQ_e ?_ | refine thenQ_r ?_ | refine blockQ_r ?_ | refine blockQ_s ?_ | refine blockQ_o rfl ?_) | refine AW_skip ?_ | refine AW_seq ?_ | refine AW_ops ?_ | refine AW_blockS ?_ | refine AW_blockR ?_ | refine AW_blockD ?_ | refine AW_blockC ?_ | refine AO_nil ?_ | refine AW_draw ?_ | refine AW_draw3 ?_ | refine AW_blockD3 ?_ | (refine AW_drawA ?_; simp only [atBlk, Sm]) | refine AHd_nil ?_ | with_reducible (first | refine AP_at ?_ | refine AHP_at ?_) | (with_reducible (first | apply AO_any | apply AHd_any | apply AP_go | apply AHP_go); focus (simp only [Sm, wantedA, execA, stepA, List.getElem?_cons_zero, List.getElem?_cons_succ, if_true, if_false, binA, binInt, unA, eqA, Option.map, eq_self, reduceCtorEq, ite_true, ite_false, cellsAV, fitsAll, CK.fits, fillA, AV.cells, writeN, sliceCells, appendA, lenA, i64, loA, hiA, Nat.reduceAdd, Nat.reduceMul, Nat.reduceDiv, Nat.reduceSub, Nat.reduceLeDiff, Nat.reduceLT, Int.reduceLE, Int.reduceLT, foldA, maxA, minA, Int.reduceBEq, Int.reduceBNe, Int.reduceGT, Int.reduceGE, Int.reduceEq, Int.reduceNe, Int.reduceToNat, AOp.stops, ↓want_eq, ↓exec_lenX, ↓exec_storeX, ↓exec_storeN, storeN_one, ↓exec_bsX, ↓exec_sliceX, ↓exec_copyX, ↓exec_appNil, ↓exec_carryX, Nat.sub_zero, rep_len]; with_reducible first | exact EqP.at_ | exact EqP.cont | exact EqP.hcont | exact EqP.gate | exact EqP.hgate)) | (refine AW_ift ?_ ?_; focus (simp only [Sm]; done)) | (refine AW_iff ?_ ?_; focus (simp only [Sm]; done))))
        refine AO_call rfl ((AC_shMix H3 (.slc o2 0 (32 * r) 1) _ r (Rd.all (hcells_own g3) (by rw [W32_length, fl3.len])) fl3).kept (by omega)) ?_
        rintro _ H4 ⟨⟨o4, rfl, ho4, g4⟩, k4⟩
        (repeat (first | with_reducible (first | refine thenQ_n ?_ | refine blockQ_n ?_ | refine thenQ_e ?_ | refine thenQ_r ?_ | refine blockQ_r ?_ | refine blockQ_s ?_ | refine blockQ_o rfl ?_) | refine AW_skip ?_ | refine AW_seq ?_ | refine AW_ops ?_ | refine AW_blockS ?_ | refine AW_blockR ?_ | refine AW_blockD ?_ | refine AW_blockC ?_ | refine AO_nil ?_ | refine AW_draw ?_ | refine AW_draw3 ?_ | refine AW_blockD3 ?_ | (refine AW_drawA ?_; simp only [atBlk, Sm]) | refine AHd_nil ?_ | with_reducible (first | refine AP_at ?_ | refine AHP_at ?_) | (with_reducible (first | apply AO_any | apply AHd_any | apply AP_go | apply AHP_go); focus (simp only [Sm, wantedA, execA, stepA, List.getElem?_cons_zero, List.getElem?_cons_succ, if_true, if_false, binA, binInt, unA, eqA, Option.map, eq_self, reduceCtorEq, ite_true, ite_false, cellsAV, fitsAll, CK.fits, fillA, AV.cells, writeN, sliceCells, appendA, lenA, i64, loA, hiA, Nat.reduceAdd, Nat.reduceMul, Nat.reduceDiv, Nat.reduceSub, Nat.reduceLeDiff, Nat.reduceLT, Int.reduceLE, Int.reduceLT, foldA, maxA, minA, Int.reduceBEq, Int.reduceBNe, Int.reduceGT, Int.reduceGE, Int.reduceEq, Int.reduceNe, Int.reduceToNat, AOp.stops, ↓want_eq, ↓exec_lenX, ↓exec_storeX, ↓exec_storeN, storeN_one, ↓exec_bsX, ↓exec_sliceX, ↓exec_copyX, ↓exec_appNil, ↓exec_carryX, Nat.sub_zero, rep_len, i64_succ (show i < 9223372036854775807 by omega)]; with_reducible first | exact EqP.at_ | exact EqP.cont | exact EqP.hcont | exact EqP.gate | exact EqP.hgate)) | (refine AW_ift ?_ ?_; focus (simp only [Sm]; done)) | (refine AW_iff ?_ ?_; focus (simp only [Sm]; done))))
        refine ⟨hi2, (c2.trans c3 (fun _ _ h => h)).trans (Chg.of_kept k4) (fun _ _ h => h.elim), _, o4, h3.kept k4, ?_, by omega, g4, stale _ _ rfl⟩
        rw [rowsO_put h2.room (by omega) fl3.len, hr2']; rfl
      · obtain rfl : i = m := by have : ¬ (i : Int) < (m : Int) := of_decide_eq_false ht; omega
        exact AW_exit ⟨rfl, c2, ws2, o2, h2, hr2', ho2, g2, stale _ _ rfl⟩
    rintro e fr H2 ⟨rfl, c2, ws2, o2, h2, hr2', ho2, g2, st, rfl⟩
    obtain ⟨fl1, fl2, fl3⟩ := fillR_ok (first := first) hall hx0 m
    have hm0 : mixR r k first m (rowsO ws (32 * r) R) = (fillR r first (rowsO ws (32 * r) R) (rowO ws (32 * r) k) m).1.set k (turnR r first m (fillR r first (rowsO ws (32 * r) R) (rowO ws (32 * r) k) m).1 (fillR r first (rowsO ws (32 * r) R) (rowO ws (32 * r) k) m).2 m) := by rw [mixR, hx0']
    rw [hlen0] at fl1
    generalize fillR r first (rowsO ws (32 * r) R) (rowO ws (32 * r) k) m = F at *
    obtain ⟨rows, x1⟩ := F
    simp only at fl1 fl2 fl3 hr2' g2 hm0
    rw [hm0]
    clear hm0
    (repeat (first | with_reducible (first | refine thenQ_n ?_ | refine blockQ_n ?_ | refine thenQ_e ?_ | refine thenQ_r ?_ | refine blockQ_r ?_ | refine blockQ_s ?_ | refine blockQ_o rfl ?_) | refine AW_skip ?_ | refine AW_seq ?_ | refine AW_ops ?_ | refine AW_blockS ?_ | refine AW_blockR ?_ | refine AW_blockD ?_ | refine AW_blockC ?_ | refine AO_nil ?_ | refine AW_draw ?_ | refine AW_draw3 ?_ | refine AW_blockD3 ?_ | (refine AW_drawA ?_; simp only [atBlk, Sm]) | refine AHd_nil ?_ | with_reducible (first | refine AP_at ?_ | refine AHP_at ?_) | (with_reducible (first | apply AO_any | apply AHd_any | apply AP_go | apply AHP_go); focus (simp only [Sm, wantedA, execA, stepA, List.getElem?_cons_zero, List.getElem?_cons_succ, if_true, if_false, binA, binInt, unA, eqA, Option.map, eq_self, reduceCtorEq, ite_true, ite_false, cellsAV, fitsAll, CK.fits, fillA, AV.cells, writeN, sliceCells, appendA, lenA, i64, loA, hiA, Nat.reduceAdd, Nat.reduceMul, Nat.reduceDiv, Nat.reduceSub, Nat.reduceLeDiff, Nat.reduceLT, Int.reduceLE, Int.reduceLT, foldA, maxA, minA, Int.reduceBEq, Int.reduceBNe, Int.reduceGT, Int.reduceGE, Int.reduceEq, Int.reduceNe, Int.reduceToNat, AOp.stops, ↓want_eq, ↓exec_lenX, ↓exec_storeX, ↓exec_storeN, storeN_one, ↓exec_bsX, ↓exec_sliceX, ↓exec_copyX, ↓exec_appNil, ↓exec_carryX, Nat.sub_zero, rep_len]; with_reducible first | exact EqP.at_ | exact EqP.cont | exact EqP.hcont | exact EqP.gate | exact EqP.hgate)) | (refine AW_ift ?_ ?_; focus (simp only [Sm]; done)) | (refine AW_iff ?_ ?_; focus (simp only [Sm]; done))))
    refine AW_mid (fun e fr H' => e = .normal ∧ mbI24 so p a q n r R k first m rows x1 ws2 H m fr H') ?_ ?_
    · refine AW_block (AW_up (mbI24 so p a q n r R k first m rows x1 ws2 H) m ⟨c2, o2, h2, ho2, g2, stale _ _ rfl⟩ ?_)
      rintro i fr H3 hi ⟨c3, o3, h3, ho3, g3, st, rfl⟩
      have l3 := c3.1
      have o3l := hown_lt g3
      have ht3 := turnR_ok (first := first) (m := m) fl2 fl3 hm (by rw [fl1]; omega) i
      (repeat (first | with_reducible (first | refine thenQ_n ?_ | refine blockQ_n ?_ | refine thenQ_e ?_ | refine thenQ_r ?_ | refine blockQ_r ?_ | refine blockQ_s ?_ | refine blockQ_o rfl ?_) | refine AW_skip ?_ | refine AW_seq ?_ | refine AW_ops ?_ | refine AW_blockS ?_ | refine AW_blockR ?_ | refine AW_blockD ?_ | refine AW_blockC ?_ | refine AO_nil ?_ | refine AW_draw ?_ | refine AW_draw3 ?_ | refine AW_blockD3 ?_ | (refine AW_drawA ?_; simp only [atBlk, Sm]) | refine AHd_nil ?_ | with_reducible (first | refine AP_at ?_ | refine AHP_at ?_) | (with_reducible (first | apply AO_any | apply AHd_any | apply AP_go | apply AHP_go); focus (simp only [Sm, wantedA, execA, stepA, List.getElem?_cons_zero, List.getElem?_cons_succ, if_true, if_false, binA, binInt, unA, eqA, Option.map, eq_self, reduceCtorEq, ite_true, ite_false, cellsAV, fitsAll, CK.fits, fillA, AV.cells, writeN, sliceCells, appendA, lenA, i64, loA, hiA, Nat.reduceAdd, Nat.reduceMul, Nat.reduceDiv, Nat.reduceSub, Nat.reduceLeDiff, Nat.reduceLT, Int.reduceLE, Int.reduceLT, foldA, maxA, minA, Int.reduceBEq, Int.reduceBNe, Int.reduceGT, Int.reduceGE, Int.reduceEq, Int.reduceNe, Int.reduceToNat, AOp.stops, ↓want_eq, ↓exec_lenX, ↓exec_storeX, ↓exec_storeN, storeN_one, ↓exec_bsX, ↓exec_sliceX, ↓exec_copyX, ↓exec_appNil, ↓exec_carryX, Nat.sub_zero, rep_len]; with_reducible first | exact EqP.at_ | exact EqP.cont | exact EqP.hcont | exact EqP.gate | exact EqP.hgate)) | (refine AW_ift ?_ ?_; focus (simp only [Sm]; done)) | (refine AW_iff ?_ ?_; focus (simp only [Sm]; done))))
      refine AW_cond rfl ?_ ?_ <;> intro ht
      · have ht : (i : Int) < (m : Int) := of_decide_eq_true ht
        have hi2 : i < m := by omega
        have hst : turnR r first m rows x1 (i + 1) = mixW r (xorW (turnR r first m rows x1 i) (rows.getD (first + intV r (turnR r first m rows x1 i) % m) []) (32 * r)) := rfl
        generalize turnR r first m rows x1 i = T at *
        (repeat (first | with_reducible (first | refine thenQ_n ?_ | refine blockQ_n ?_ | refine thenQ_e ?_ | refine thenQ_r ?_ | refine blockQ_r ?_ | refine blockQ_s ?_ | refine blockQ_o rfl ?_) | refine AW_skip ?_ | refine AW_seq ?_ | refine AW_ops ?_ | refine AW_blockS ?_ | refine AW_blockR ?_ | refine AW_blockD ?_ | refine AW_blockC ?_ | refine AO_nil ?_ | refine AW_draw ?_ | refine AW_draw3 ?_ | refine AW_blockD3 ?_ | (refine AW_drawA ?_; simp only [atBlk, Sm]) | refine AHd_nil ?_ | with_reducible (first | refine AP_at ?_ | refine AHP_at ?_) | (with_reducible (first | apply AO_any | apply AHd_any | apply AP_go | apply AHP_go); focus (simp only [Sm, wantedA, execA, stepA, List.getElem?_cons_zero, List.getElem?_cons_succ, if_true, if_false, binA, binInt, unA, eqA, Option.map, eq_self, reduceCtorEq, ite_true, ite_false, cellsAV, fitsAll, CK.fits, fillA, AV.cells, writeN, sliceCells, appendA, lenA, i64, loA, hiA, Nat.reduceAdd, Nat.reduceMul, Nat.reduceDiv, Nat.reduceSub, Nat.reduceLeDiff, Nat.reduceLT, Int.reduceLE, Int.reduceLT, foldA, maxA, minA, Int.reduceBEq, Int.reduceBNe, Int.reduceGT, Int.reduceGE, Int.reduceEq, Int.reduceNe, Int.reduceToNat, AOp.stops, ↓want_eq, ↓exec_lenX, ↓exec_storeX, ↓exec_storeN, storeN_one, ↓exec_bsX, ↓exec_sliceX, ↓exec_copyX, ↓exec_appNil, ↓exec_carryX, Nat.sub_zero, rep_len, ht]; with_reducible first | exact EqP.at_ | exact EqP.cont | exact EqP.hcont | exact EqP.gate | exact EqP.hgate)) | (refine AW_ift ?_ ?_; focus (simp only [Sm]; done)) | (refine AW_iff ?_ ?_; focus (simp only [Sm]; done))))
        refine AO_call rfl ((AC_shInteger H3 (.slc o3 0 (32 * r) 1) T r (Rd.all (hcells_own g3) (by rw [W32_length, ht3.len])) ht3).floor (by omega)) ?_
        rintro _ _ ⟨rfl, rfl⟩
        have w1 : IntKind.u64.wrap (m : Int) = (m : Int) := by rw [wrap_u64]; omega
        have zm : ¬ ((m : Int) = 0) := by omega
        have w2 : Int.tmod ((intV r T : Nat) : Int) (m : Int) = ((intV r T % m : Nat) : Int) := tmod_nat
        have hlt := Nat.mod_lt (intV r T) hm
        have w3 : IntKind.i64.wrap ((intV r T % m : Nat) : Int) = ((intV r T % m : Nat) : Int) := i64_of (by omega) (by omega)
        have w4 : IntKind.i64.wrap ((first : Int) + ((intV r T % m : Nat) : Int)) = ((first + intV r T % m : Nat) : Int) := i64_add (by omega)
        (repeat (first | with_reducible (first | refine thenQ_n ?_ | refine blockQ_n ?_ | refine thenQ_e ?_ | refine thenQ_r ?_ | refine blockQ_r ?_ | refine blockQ_s ?_ | refine blockQ_o rfl ?_) | refine AW_skip ?_ | refine AW_seq ?_ | refine AW_ops ?_ | refine AW_blockS ?_ | refine AW_blockR ?_ | refine AW_blockD ?_ | refine AW_blockC ?_ | refine AO_nil ?_ | refine AW_draw ?_ | refine AW_draw3 ?_ | refine AW_blockD3 ?_ | (refine AW_drawA ?_; simp only [atBlk, Sm]) | refine AHd_nil ?_ | with_reducible (first | refine AP_at ?_ | refine AHP_at ?_) | (with_reducible (first | apply AO_any | apply AHd_any | apply AP_go | apply AHP_go); focus (simp only [Sm, wantedA, execA, stepA, List.getElem?_cons_zero, List.getElem?_cons_succ, if_true, if_false, binA, binInt, unA, eqA, Option.map, eq_self, reduceCtorEq, ite_true, ite_false, cellsAV, fitsAll, CK.fits, fillA, AV.cells, writeN, sliceCells, appendA, lenA, i64, loA, hiA, Nat.reduceAdd, Nat.reduceMul, Nat.reduceDiv, Nat.reduceSub, Nat.reduceLeDiff, Nat.reduceLT, Int.reduceLE, Int.reduceLT, foldA, maxA, minA, Int.reduceBEq, Int.reduceBNe, Int.reduceGT, Int.reduceGE, Int.reduceEq, Int.reduceNe, Int.reduceToNat, AOp.stops, ↓want_eq, ↓exec_lenX, ↓exec_storeX, ↓exec_storeN, storeN_one, ↓exec_bsX, ↓exec_sliceX, ↓exec_copyX, ↓exec_appNil, ↓exec_carryX, Nat.sub_zero, rep_len, w1, zm, w2, w3, w4]; with_reducible first | exact EqP.at_ | exact EqP.cont | exact EqP.hcont | exact EqP.gate | exact EqP.hgate)) | (refine AW_ift ?_ ?_; focus (simp only [Sm]; done)) | (refine AW_iff ?_ ?_; focus (simp only [Sm]; done))))
        have hd : first + intV r T % m < R := by omega
        generalize first + intV r T % m = d at *
        refine AO_call rfl ((AC_roRow H3 d h3 hd).floor (by omega)) ?_
        rintro _ H4 ⟨⟨x, rfl, hx⟩, k4⟩
        have y := h3.row hd
        have hY : rows.getD d [] = rowO ws2 (32 * r) d := by rw [← hr2', rowsO_getD hd]
        rw [hY] at hst
        generalize rowO ws2 (32 * r) d = Y at *
        obtain ⟨v, rfl, hv, gv⟩ := own_slc hx y.len (by omega)
        have g4 : hown H4 o3 = some (W32 T) := by rw [k4.hown o3l o3l]; exact g3
        have l4 := k4.1
        have ly : lenX H4 (.c (.slc o3 0 (32 * r) 1)) = some (.c (.int .i64 ((32 * r : Nat) : Int)), H4) := (Rd.all (hcells_own g4) (by rw [W32_length, ht3.len])).len (32 * r) (by rw [W32_length, ht3.len]; omega) (by decide)
        (repeat (first | with_reducible (first | refine thenQ_n ?_ | refine blockQ_n ?_ | refine thenQ_e ?_ | refine thenQ_r ?_ | refine blockQ_r ?_ | refine blockQ_s ?_ | refine blockQ_o rfl ?_) | refine AW_skip ?_ | refine AW_seq ?_ | refine AW_ops ?_ | refine AW_blockS ?_ | refine AW_blockR ?_ | refine AW_blockD ?_ | refine AW_blockC ?_ | refine AO_nil ?_ | refine AW_draw ?_ | refine AW_draw3 ?_ | refine AW_blockD3 ?_ | (refine AW_drawA ?_; simp only [atBlk, Sm]) | refine AHd_nil ?_ | with_reducible (first | refine AP_at ?_ | refine AHP_at ?_) | (with_reducible (first | apply AO_any | apply AHd_any | apply AP_go | apply AHP_go); focus (simp only [Sm, wantedA, execA, stepA, List.getElem?_cons_zero, List.getElem?_cons_succ, if_true, if_false, binA, binInt, unA, eqA, Option.map, eq_self, reduceCtorEq, ite_true, ite_false, cellsAV, fitsAll, CK.fits, fillA, AV.cells, writeN, sliceCells, appendA, lenA, i64, loA, hiA, Nat.reduceAdd, Nat.reduceMul, Nat.reduceDiv, Nat.reduceSub, Nat.reduceLeDiff, Nat.reduceLT, Int.reduceLE, Int.reduceLT, foldA, maxA, minA, Int.reduceBEq, Int.reduceBNe, Int.reduceGT, Int.reduceGE, Int.reduceEq, Int.reduceNe, Int.reduceToNat, AOp.stops, ↓want_eq, ↓exec_lenX, ↓exec_storeX, ↓exec_storeN, storeN_one, ↓exec_bsX, ↓exec_sliceX, ↓exec_copyX, ↓exec_appNil, ↓exec_carryX, Nat.sub_zero, rep_len, ly]; with_reducible first | exact EqP.at_ | exact EqP.cont | exact EqP.hcont | exact EqP.gate | exact EqP.hgate)) | (refine AW_ift ?_ ?_; focus (simp only [Sm]; done)) | (refine AW_iff ?_ ?_; focus (simp only [Sm]; done))))
        refine AW_mid (fun e fr H' => e = .normal ∧ mcI24 so r k first m i o3 v T Y H4 (32 * r) fr H') ?_ ?_
        · refine AW_block (AW_up (mcI24 so r k first m i o3 v T Y H4) (32 * r) ⟨Chg.refl _ _, g4, stale _ _ rfl⟩ ?_)
          rintro j fr H5 hj ⟨c5, g5, st, rfl⟩
          (repeat (first | with_reducible (first | refine thenQ_n ?_ | refine blockQ_n ?_ | refine thenQ_e ?_ | refine thenQ_r ?_ | refine blockQ_r ?_ | refine blockQ_s ?_ | refine blockQ_o rfl ?_) | refine AW_skip ?_ | refine AW_seq ?_ | refine AW_ops ?_ | refine AW_blockS ?_ | refine AW_blockR ?_ | refine AW_blockD ?_ | refine AW_blockC ?_ | refine AO_nil ?_ | refine AW_draw ?_ | refine AW_draw3 ?_ | refine AW_blockD3 ?_ | (refine AW_drawA ?_; simp only [atBlk, Sm]) | refine AHd_nil ?_ | with_reducible (first | refine AP_at ?_ | refine AHP_at ?_) | (with_reducible (first | apply AO_any | apply AHd_any | apply AP_go | apply AHP_go); focus (simp only [Sm, wantedA, execA, stepA, List.getElem?_cons_zero, List.getElem?_cons_succ, if_true, if_false, binA, binInt, unA, eqA, Option.map, eq_self, reduceCtorEq, ite_true, ite_false, cellsAV, fitsAll, CK.fits, fillA, AV.cells, writeN, sliceCells, appendA, lenA, i64, loA, hiA, Nat.reduceAdd, Nat.reduceMul, Nat.reduceDiv, Nat.reduceSub, Nat.reduceLeDiff, Nat.reduceLT, Int.reduceLE, Int.reduceLT, foldA, maxA, minA, Int.reduceBEq, Int.reduceBNe, Int.reduceGT, Int.reduceGE, Int.reduceEq, Int.reduceNe, Int.reduceToNat, AOp.stops, ↓want_eq, ↓exec_lenX, ↓exec_storeX, ↓exec_storeN, storeN_one, ↓exec_bsX, ↓exec_sliceX, ↓exec_copyX, ↓exec_appNil, ↓exec_carryX, Nat.sub_zero, rep_len]; with_reducible first | exact EqP.at_ | exact EqP.cont | exact EqP.hcont | exact EqP.gate | exact EqP.hgate)) | (refine AW_ift ?_ ?_; focus (simp only [Sm]; done)) | (refine AW_iff ?_ ?_; focus (simp only [Sm]; done))))
          refine AW_cond rfl ?_ ?_ <;> intro ht5
          · have ht5 : (j : Int) < ((32 * r : Nat) : Int) := of_decide_eq_true ht5
            have hj2 : j < 32 * r := by omega
            have hX := xorW_row ht3 y j
            have gv5 := c5.hcells (show ¬ v = o3 by omega) (hcells_own gv)
            have gy := W32_get (xs := Y) (i := j) (by rw [y.len]; omega)
            have gx : (W32 (xorW T Y j))[j]? = some (.int .u32 ((T.getD j 0 : Nat) : Int)) := by
              rw [W32_get (by rw [hX.len]; omega)]
              congr 3
              have := upd_self (f := fun c => T.getD c 0 ^^^ Y.getD c 0) (l := T) j (by rw [ht3.len]; omega)
              simp only [xorW, List.getD_eq_getElem?_getD] at this ⊢
              rw [this]
            have ex := xor32 (ht3.lt j) (y.lt j)
            have xl : (W32 (xorW T Y j)).length = 32 * r := by rw [W32_length, hX.len]
            (repeat (first | with_reducible (first | refine thenQ_n ?_ | refine blockQ_n ?_ | refine thenQ_e ?_ | refine thenQ_r ?_ | refine blockQ_r ?_ | refine blockQ_s ?_ | refine blockQ_o rfl ?_) | refine AW_skip ?_ | refine AW_seq ?_ | refine AW_ops ?_ | refine AW_blockS ?_ | refine AW_blockR ?_ | refine AW_blockD ?_ | refine AW_blockC ?_ | refine AO_nil ?_ | refine AW_draw ?_ | refine AW_draw3 ?_ | refine AW_blockD3 ?_ | (refine AW_drawA ?_; simp only [atBlk, Sm]) | refine AHd_nil ?_ | with_reducible (first | refine AP_at ?_ | refine AHP_at ?_) | (with_reducible (first | apply AO_any | apply AHd_any | apply AP_go | apply AHP_go); focus (simp only [Sm, wantedA, execA, stepA, List.getElem?_cons_zero, List.getElem?_cons_succ, if_true, if_false, binA, binInt, unA, eqA, Option.map, eq_self, reduceCtorEq, ite_true, ite_false, cellsAV, fitsAll, CK.fits, fillA, AV.cells, writeN, sliceCells, appendA, lenA, i64, loA, hiA, Nat.reduceAdd, Nat.reduceMul, Nat.reduceDiv, Nat.reduceSub, Nat.reduceLeDiff, Nat.reduceLT, Int.reduceLE, Int.reduceLT, foldA, maxA, minA, Int.reduceBEq, Int.reduceBNe, Int.reduceGT, Int.reduceGE, Int.reduceEq, Int.reduceNe, Int.reduceToNat, AOp.stops, ↓want_eq, ↓exec_lenX, ↓exec_storeX, ↓exec_storeN, storeN_one, ↓exec_bsX, ↓exec_sliceX, ↓exec_copyX, ↓exec_appNil, ↓exec_carryX, Nat.sub_zero, rep_len, hcells_own g5, gv5, ht5, gx, gy, ex, storeX_own g5 (show fl ≤ o3 by omega) (by rw [xl]; exact hj2 : j < _), Nat.zero_add, i64_succ (show j < 9223372036854775807 by omega)]; with_reducible first | exact EqP.at_ | exact EqP.cont | exact EqP.hcont | exact EqP.gate | exact EqP.hgate)) | (refine AW_ift ?_ ?_; focus (simp only [Sm]; done)) | (refine AW_iff ?_ ?_; focus (simp only [Sm]; done))))
            refine ⟨hj2, c5.trans (Chg.set (S := (· = o3)) rfl) (fun _ _ h => h), ?_, stale _ _ rfl⟩
            rw [hown_set (hown_lt g5), W32_setL]; rfl
          · obtain rfl : j = 32 * r := by have : ¬ (j : Int) < ((32 * r : Nat) : Int) := of_decide_eq_false ht5; omega
            exact AW_exit ⟨rfl, c5, g5, stale _ _ rfl⟩
        rintro e fr H5 ⟨rfl, c5, g5, st, rfl⟩
        have l5 := c5.1
        have hX := xorW_row ht3 y (32 * r)
        (repeat (first | with_reducible (first | refine thenQ_n ?_ | refine blockQ_n ?_ | refine thenQ_e ?_ | refine thenQ_r ?_ | refine blockQ_r ?_ | refine blockQ_s ?_ | refine blockQ_o rfl ?_) | refine AW_skip ?_ | refine AW_seq ?_ | refine AW_ops ?_ | refine AW_blockS ?_ | refine AW_blockR ?_ | refine AW_blockD ?_ | refine AW_blockC ?_ | refine AO_nil ?_ | refine AW_draw ?_ | refine AW_draw3 ?_ | refine AW_blockD3 ?_ | (refine AW_drawA ?_; simp only [atBlk, Sm]) | refine AHd_nil ?_ | with_reducible (first | refine AP_at ?_ | refine AHP_at ?_) | (with_reducible (first | apply AO_any | apply AHd_any | apply AP_go | apply AHP_go); focus (simp only [Sm, wantedA, execA, stepA, List.getElem?_cons_zero, List.getElem?_cons_succ, if_true, if_false, binA, binInt, unA, eqA, Option.map, eq_self, reduceCtorEq, ite_true, ite_false, cellsAV, fitsAll, CK.fits, fillA, AV.cells, writeN, sliceCells, appendA, lenA, i64, loA, hiA, Nat.reduceAdd, Nat.reduceMul, Nat.reduceDiv, Nat.reduceSub, Nat.reduceLeDiff, Nat.reduceLT, Int.reduceLE, Int.reduceLT, foldA, maxA, minA, Int.reduceBEq, Int.reduceBNe, Int.reduceGT, Int.reduceGE, Int.reduceEq, Int.reduceNe, Int.reduceToNat, AOp.stops, ↓want_eq, ↓exec_lenX, ↓exec_storeX, ↓exec_storeN, storeN_one, ↓exec_bsX, ↓exec_sliceX, ↓exec_copyX, ↓exec_appNil, ↓exec_carryX, Nat.sub_zero, rep_len]; with_reducible first | exact EqP.at_ | exact EqP.cont | exact EqP.hcont | exact EqP.gate | exact EqP.hgate)) | (refine AW_ift ?_ ?_; focus (simp only [Sm]; done)) | (refine AW_iff ?_ ?_; focus (simp only [Sm]; done))))
        refine AO_call rfl ((AC_shMix H5 (.slc o3 0 (32 * r) 1) _ r (Rd.all (hcells_own g5) (by rw [W32_length, hX.len])) hX).kept (by omega)) ?_
        rintro _ H6 ⟨⟨o6, rfl, ho6, g6⟩, k6⟩
        (repeat (first | with_reducible (first | refine thenQ_n ?_ | refine blockQ_n ?_ | refine thenQ_e ?_ | refine thenQ_r ?_ | refine blockQ_r ?_ | refine blockQ_s ?_ | refine blockQ_o rfl ?_) | refine AW_skip ?_ | refine AW_seq ?_ | refine AW_ops ?_ | refine AW_blockS ?_ | refine AW_blockR ?_ | refine AW_blockD ?_ | refine AW_blockC ?_ | refine AO_nil ?_ | refine AW_draw ?_ | refine AW_draw3 ?_ | refine AW_blockD3 ?_ | (refine AW_drawA ?_; simp only [atBlk, Sm]) | refine AHd_nil ?_ | with_reducible (first | refine AP_at ?_ | refine AHP_at ?_) | (with_reducible (first | apply AO_any | apply AHd_any | apply AP_go | apply AHP_go); focus (simp only [Sm, wantedA, execA, stepA, List.getElem?_cons_zero, List.getElem?_cons_succ, if_true, if_false, binA, binInt, unA, eqA, Option.map, eq_self, reduceCtorEq, ite_true, ite_false, cellsAV, fitsAll, CK.fits, fillA, AV.cells, writeN, sliceCells, appendA, lenA, i64, loA, hiA, Nat.reduceAdd, Nat.reduceMul, Nat.reduceDiv, Nat.reduceSub, Nat.reduceLeDiff, Nat.reduceLT, Int.reduceLE, Int.reduceLT, foldA, maxA, minA, Int.reduceBEq, Int.reduceBNe, Int.reduceGT, Int.reduceGE, Int.reduceEq, Int.reduceNe, Int.reduceToNat, AOp.stops, ↓want_eq, ↓exec_lenX, ↓exec_storeX, ↓exec_storeN, storeN_one, ↓exec_bsX, ↓exec_sliceX, ↓exec_copyX, ↓exec_appNil, ↓exec_carryX, Nat.sub_zero, rep_len, i64_succ (show i < 9223372036854775807 by omega)]; with_reducible first | exact EqP.at_ | exact EqP.cont | exact EqP.hcont | exact EqP.gate | exact EqP.hgate)) | (refine AW_ift ?_ ?_; focus (simp only [Sm]; done)) | (refine AW_iff ?_ ?_; focus (simp only [Sm]; done))))
        have sl3 := hown_lt h3.own; have pl3 := hown_lt h3.pc.own; have ql3 := hown_lt h3.pc.blk
        refine ⟨hi2, ((c3.trans (Chg.of_kept k4) (fun _ _ h => h.elim)).trans c5 (fun b hb e => by omega)).trans (Chg.of_kept k6) (fun _ _ h => h.elim), o6, (((h3.kept k4).chg c5 (by omega) (by omega) (by omega)).kept k6), by omega, by rw [hst]; exact g6, stale _ _ rfl⟩
      · obtain rfl : i = m := by have : ¬ (i : Int) < (m : Int) := of_decide_eq_false ht; omega
        exact AW_exit ⟨rfl, c3, o3, h3, ho3, g3, stale _ _ rfl⟩
    rintro e fr H3 ⟨rfl, c3, o3, h3, ho3, g3, st, rfl⟩
    have ht3 := turnR_ok (first := first) (m := m) fl2 fl3 hm (by rw [fl1]; omega) m
    generalize turnR r first m rows x1 m = T at *
    (repeat (first | with_reducible (first | refine thenQ_n ?_ | refine blockQ_n ?_ | refine thenQ_e ?_ | refine thenQ_r ?_ | refine blockQ_r ?_ | refine blockQ_s ?_ | refine blockQ_o rfl ?_) | refine AW_skip ?_ | refine AW_seq ?_ | refine AW_ops ?_ | refine AW_blockS ?_ | refine AW_blockR ?_ | refine AW_blockD ?_ | refine AW_blockC ?_ | refine AO_nil ?_ | refine AW_draw ?_ | refine AW_draw3 ?_ | refine AW_blockD3 ?_ | (refine AW_drawA ?_; simp only [atBlk, Sm]) | refine AHd_nil ?_ | with_reducible (first | refine AP_at ?_ | refine AHP_at ?_) | (with_reducible (first | apply AO_any | apply AHd_any | apply AP_go | apply AHP_go); focus (simp only [Sm, wantedA, execA, stepA, List.getElem?_cons_zero, List.getElem?_cons_succ, if_true, if_false, binA, binInt, unA, eqA, Option.map, eq_self, reduceCtorEq, ite_true, ite_false, cellsAV, fitsAll, CK.fits, fillA, AV.cells, writeN, sliceCells, appendA, lenA, i64, loA, hiA, Nat.reduceAdd, Nat.reduceMul, Nat.reduceDiv, Nat.reduceSub, Nat.reduceLeDiff, Nat.reduceLT, Int.reduceLE, Int.reduceLT, foldA, maxA, minA, Int.reduceBEq, Int.reduceBNe, Int.reduceGT, Int.reduceGE, Int.reduceEq, Int.reduceNe, Int.reduceToNat, AOp.stops, ↓want_eq, ↓exec_lenX, ↓exec_storeX, ↓exec_storeN, storeN_one, ↓exec_bsX, ↓exec_sliceX, ↓exec_copyX, ↓exec_appNil, ↓exec_carryX, Nat.sub_zero, rep_len]; with_reducible first | exact EqP.at_ | exact EqP.cont | exact EqP.hcont | exact EqP.gate | exact EqP.hgate)) | (refine AW_ift ?_ ?_; focus (simp only [Sm]; done)) | (refine AW_iff ?_ ?_; focus (simp only [Sm]; done))))
    refine AO_call rfl (AC_roPut fl H3 k (.slc o3 0 (32 * r) 1) T h3 hk (Rd.all (hcells_own g3) (by rw [W32_length, ht3.len])) (by rintro ⟨_, _, _, e⟩; injection e with e; omega) ht3.len ht3.lt hf) ?_
    rintro _ H4 ⟨rfl, h4, c4, l4⟩
    (repeat (first | with_reducible (first | refine thenQ_n ?_ | refine blockQ_n ?_ | refine thenQ_e ?_ | refine thenQ_r ?_ | refine blockQ_r ?_ | refine blockQ_s ?_ | refine blockQ_o rfl ?_) | refine AW_skip ?_ | refine AW_seq ?_ | refine AW_ops ?_ | refine AW_blockS ?_ | refine AW_blockR ?_ | refine AW_blockD ?_ | refine AW_blockC ?_ | refine AO_nil ?_ | refine AW_draw ?_ | refine AW_draw3 ?_ | refine AW_blockD3 ?_ | (refine AW_drawA ?_; simp only [atBlk, Sm]) | refine AHd_nil ?_ | with_reducible (first | refine AP_at ?_ | refine AHP_at ?_) | (with_reducible (first | apply AO_any | apply AHd_any | apply AP_go | apply AHP_go); focus (simp only [Sm, wantedA, execA, stepA, List.getElem?_cons_zero, List.getElem?_cons_succ, if_true, if_false, binA, binInt, unA, eqA, Option.map, eq_self, reduceCtorEq, ite_true, ite_false, cellsAV, fitsAll, CK.fits, fillA, AV.cells, writeN, sliceCells, appendA, lenA, i64, loA, hiA, Nat.reduceAdd, Nat.reduceMul, Nat.reduceDiv, Nat.reduceSub, Nat.reduceLeDiff, Nat.reduceLT, Int.reduceLE, Int.reduceLT, foldA, maxA, minA, Int.reduceBEq, Int.reduceBNe, Int.reduceGT, Int.reduceGE, Int.reduceEq, Int.reduceNe, Int.reduceToNat, AOp.stops, ↓want_eq, ↓exec_lenX, ↓exec_storeX, ↓exec_storeN, storeN_one, ↓exec_bsX, ↓exec_sliceX, ↓exec_copyX, ↓exec_appNil, ↓exec_carryX, Nat.sub_zero, rep_len]; with_reducible first | exact EqP.at_ | exact EqP.cont | exact EqP.hcont | exact EqP.gate | exact EqP.hgate)) | (refine AW_ift ?_ ?_; focus (simp only [Sm]; done)) | (refine AW_iff ?_ ?_; focus (simp only [Sm]; done))))
    refine AW_ret ⟨_, rfl, rfl, c3.trans c4 (fun _ _ h => h), _, h4, ?_⟩
    rw [rowsO_put h3.room hk ht3.len, hr2']
end
end PK

/- Package pestlelaw24 as code of the abstract machine. -/
namespace PK
open Go PAbs

noncomputable def c_pestlelaw24_RomixMixes : AFn := AFn.mk 97 [.tmp 12]
  (.seq (.region
      [⟨some 12, .mv (.k (.c (.bool false))), none⟩])
  (.seq (.seq (.region
        [⟨some 18, .call F_pestlelaw24_awake [], none⟩,
          ⟨some 19, .un .not (.t 18), none⟩])
    (.cond (.t 19)
      (.seq (.region
          [⟨some 12, .mv (.k (.c (.bool false))), none⟩])
      (.ret))
      (.skip)))
  (.seq (.seq (.region
        [⟨some 20, .mv (.t 0), none⟩,
          ⟨some 21, .bin .lss (.t 20) (.k (.c (.int .i64 0))), none⟩,
          ⟨some 22, .mv (.t 21), none⟩,
          ⟨some 23, .mv (.t 0), some (22, false)⟩,
          ⟨some 24, .bin .gtr (.t 23) (.k (.c (.int .i64 12))), some (22, false)⟩,
          ⟨some 25, .pick (.t 22) (.k (.c (.bool true))) (.t 24), none⟩,
          ⟨some 26, .mv (.t 25), none⟩,
          ⟨some 27, .mv (.t 1), some (26, false)⟩,
          ⟨some 28, .bin .lss (.t 27) (.k (.c (.int .i64 1))), some (26, false)⟩,
          ⟨some 29, .pick (.t 26) (.k (.c (.bool true))) (.t 28), none⟩,
          ⟨some 30, .mv (.t 29), none⟩,
          ⟨some 31, .mv (.t 1), some (30, false)⟩,
          ⟨some 32, .bin .gtr (.t 31) (.k (.c (.int .i64 3))), some (30, false)⟩,
          ⟨some 33, .pick (.t 30) (.k (.c (.bool true))) (.t 32), none⟩,
          ⟨some 34, .mv (.t 33), none⟩,
          ⟨some 35, .mv (.t 2), some (34, false)⟩,
          ⟨some 36, .len false (.t 35), some (34, false)⟩,
          ⟨some 37, .bin .gtr (.t 36) (.k (.c (.int .i64 100))), some (34, false)⟩,
          ⟨some 38, .pick (.t 34) (.k (.c (.bool true))) (.t 37), none⟩])
    (.cond (.t 38)
      (.seq (.region
          [⟨some 12, .mv (.k (.c (.bool true))), none⟩])
      (.ret))
      (.skip)))
  (.seq (.region
      [⟨some 40, .mv (.t 0), none⟩,
        ⟨some 41, .mv (.t 1), none⟩,
        ⟨some 42, .mv (.t 2), none⟩,
        ⟨some 43, .call F_pestlelaw24_store [.t 40, .t 41, .t 42], none⟩,
        ⟨some 39, .mv (.t 43), none⟩,
        ⟨some 44, .extract (.t 39) 0, none⟩,
        ⟨some 45, .extract (.t 39) 1, none⟩,
        ⟨some 13, .mv (.t 44), none⟩,
        ⟨some 14, .mv (.t 45), none⟩])
  (.seq (.seq (.draw
        [⟨some 46, .mv (.t 14), none⟩,
          ⟨some 47, .bin .neq (.t 46) (.k (.c (.int .i64 0))), none⟩,
          ⟨some 48, .mv (.t 47), none⟩,
          ⟨some 49, .mv (.t 13), some (48, false)⟩,
          ⟨some 50, .call F_romix_Store_Rows [.t 49], some (48, false)⟩,
          ⟨some 51, .mv (.t 0), some (48, false)⟩,
          ⟨some 52, .bin .mul (.t 51) (.k (.c (.int .i64 256))), some (48, false)⟩,
          ⟨some 53, .mv (.t 1), some (48, false)⟩,
          ⟨some 54, .bin .mul (.k (.c (.int .i64 32))) (.t 53), some (48, false)⟩,
          ⟨some 55, .bin .quo (.t 52) (.t 54), some (48, false)⟩]
        [⟨some 56, .bin .neq (.t 50) (.t 55), some (48, false)⟩,
          ⟨some 57, .pick (.t 48) (.k (.c (.bool true))) (.t 56), none⟩])
    (.cond (.t 57)
      (.seq (.region
          [⟨some 12, .mv (.k (.c (.bool false))), none⟩])
      (.ret))
      (.skip)))
  (.seq (.region
      [⟨some 58, .mv (.t 13), none⟩,
        ⟨some 59, .call F_pestlelaw24_all [.t 58], none⟩,
        ⟨some 15, .mv (.t 59), none⟩])
  (.seq (.region
      [⟨some 60, .mv (.t 13), none⟩,
        ⟨some 61, .mv (.t 3), none⟩,
        ⟨some 62, .mv (.t 4), none⟩,
        ⟨some 63, .mv (.t 5), none⟩,
        ⟨some 64, .call F_romix_Store_Mix [.t 60, .t 61, .t 62, .t 63], none⟩,
        ⟨some 16, .mv (.t 64), none⟩])
  (.seq (.seq (.region
        [⟨some 65, .mv (.t 13), none⟩,
          ⟨some 66, .call F_romix_Store_Rows [.t 65], none⟩,
          ⟨some 67, .mv (.t 3), none⟩,
          ⟨some 68, .mv (.t 4), none⟩,
          ⟨some 69, .mv (.t 5), none⟩,
          ⟨some 70, .call F_pestleref24_Why [.t 66, .t 67, .t 68, .t 69], none⟩,
          ⟨some 17, .mv (.t 70), none⟩])
    (.seq (.region
        [⟨some 71, .mv (.t 17), none⟩,
          ⟨some 72, .bin .neq (.t 71) (.k (.c (.int .i64 0))), none⟩])
    (.cond (.t 72)
      (.seq (.region
          [⟨some 73, .mv (.t 16), none⟩,
            ⟨some 74, .mv (.t 17), none⟩,
            ⟨some 75, .bin .eql (.t 73) (.t 74), none⟩,
            ⟨some 76, .mv (.t 75), none⟩,
            ⟨some 77, .mv (.t 13), some (76, true)⟩,
            ⟨some 78, .call F_pestlelaw24_all [.t 77], some (76, true)⟩,
            ⟨some 79, .mv (.t 15), some (76, true)⟩,
            ⟨some 80, .call F_pestlelaw24_same [.t 78, .t 79], some (76, true)⟩,
            ⟨some 81, .pick (.t 76) (.t 80) (.k (.c (.bool false))), none⟩,
            ⟨some 12, .mv (.t 81), none⟩])
      (.ret))
      (.skip))))
  (.seq (.region
      [⟨some 82, .mv (.t 16), none⟩,
        ⟨some 83, .bin .eql (.t 82) (.k (.c (.int .i64 0))), none⟩,
        ⟨some 84, .mv (.t 83), none⟩,
        ⟨some 85, .mv (.t 13), some (84, true)⟩,
        ⟨some 86, .call F_pestlelaw24_all [.t 85], some (84, true)⟩,
        ⟨some 87, .mv (.t 15), some (84, true)⟩,
        ⟨some 88, .mv (.t 1), some (84, true)⟩,
        ⟨some 89, .mv (.t 3), some (84, true)⟩,
        ⟨some 90, .mv (.t 4), some (84, true)⟩,
        ⟨some 91, .convInt .u64 (.t 90), some (84, true)⟩,
        ⟨some 92, .bin .shl (.k (.c (.int .i64 1))) (.t 91), some (84, true)⟩,
        ⟨some 93, .mv (.t 5), some (84, true)⟩,
        ⟨some 94, .call F_pestleref24_Mix [.t 87, .t 88, .t 89, .t 92, .t 93], some (84, true)⟩,
        ⟨some 95, .call F_pestlelaw24_same [.t 86, .t 94], some (84, true)⟩,
        ⟨some 96, .pick (.t 84) (.t 95) (.k (.c (.bool false))), none⟩,
        ⟨some 12, .mv (.t 96), none⟩])
  (.ret))))))))))
theorem t_pestlelaw24_RomixMixes : A F_pestlelaw24_RomixMixes = some c_pestlelaw24_RomixMixes := by kernel_rfl

noncomputable def c_pestlelaw24_awake : AFn := AFn.mk 20 [.tmp 0]
  (.seq (.region
      [⟨some 0, .mv (.k (.c (.bool false))), none⟩])
  (.seq (.region
      [⟨some 4, .buildSlice ([.int .u32 0]) 1 1 [(0, 1, .k (.c (.int .u32 7)))], none⟩,
        ⟨some 5, .call F_pestlelaw24_store [.k (.c (.int .i64 1)), .k (.c (.int .i64 1)), .t 4], none⟩,
        ⟨some 3, .mv (.t 5), none⟩,
        ⟨some 6, .extract (.t 3) 0, none⟩,
        ⟨some 7, .extract (.t 3) 1, none⟩,
        ⟨some 1, .mv (.t 6), none⟩,
        ⟨some 2, .mv (.t 7), none⟩])
  (.seq (.region
      [⟨some 8, .mv (.t 2), none⟩,
        ⟨some 9, .bin .eql (.t 8) (.k (.c (.int .i64 0))), none⟩,
        ⟨some 10, .mv (.t 9), none⟩,
        ⟨some 11, .mv (.t 1), some (10, true)⟩,
        ⟨some 12, .call F_romix_Store_Rows [.t 11], some (10, true)⟩,
        ⟨some 13, .bin .eql (.t 12) (.k (.c (.int .i64 8))), some (10, true)⟩,
        ⟨some 14, .pick (.t 10) (.t 13) (.k (.c (.bool false))), none⟩,
        ⟨some 15, .mv (.t 14), none⟩,
        ⟨some 16, .mv (.t 1), some (15, true)⟩,
        ⟨some 17, .call F_romix_Store_Mix [.t 16, .k (.c (.int .i64 0)), .k (.c (.int .i64 1)), .k (.c (.int .i64 1))], some (15, true)⟩,
        ⟨some 18, .bin .eql (.t 17) (.k (.c (.int .i64 0))), some (15, true)⟩,
        ⟨some 19, .pick (.t 15) (.t 18) (.k (.c (.bool false))), none⟩,
        ⟨some 0, .mv (.t 19), none⟩])
  (.ret))))
theorem t_pestlelaw24_awake : A F_pestlelaw24_awake = some c_pestlelaw24_awake := by kernel_rfl

noncomputable def c_pestlelaw24_store : AFn := AFn.mk 77 [.tmp 6, .tmp 7]
  (.seq (.region
      [⟨some 6, .mv (.k (.c (.pnil))), none⟩,
        ⟨some 7, .mv (.k (.c (.int .i64 0))), none⟩])
  (.seq (.region
      [⟨some 18, .mv (.t 0), none⟩,
        ⟨some 19, .call F_arena_New [.t 18], none⟩,
        ⟨some 17, .mv (.t 19), none⟩,
        ⟨some 20, .extract (.t 17) 0, none⟩,
        ⟨some 21, .extract (.t 17) 1, none⟩,
        ⟨some 8, .mv (.t 20), none⟩,
        ⟨some 9, .mv (.t 21), none⟩])
  (.seq (.region
      [⟨some 23, .mv (.t 8), none⟩,
        ⟨some 24, .mv (.t 0), none⟩,
        ⟨some 25, .call F_arena_Arena_Reserve [.t 23, .t 24], none⟩,
        ⟨some 22, .mv (.t 25), none⟩,
        ⟨some 26, .extract (.t 22) 0, none⟩,
        ⟨some 27, .extract (.t 22) 1, none⟩,
        ⟨some 10, .mv (.t 26), none⟩,
        ⟨some 11, .mv (.t 27), none⟩])
  (.seq (.region
      [⟨some 29, .mv (.t 10), none⟩,
        ⟨some 30, .mv (.t 1), none⟩,
        ⟨some 31, .call F_romix_New [.t 29, .t 30], none⟩,
        ⟨some 28, .mv (.t 31), none⟩,
        ⟨some 32, .extract (.t 28) 0, none⟩,
        ⟨some 33, .extract (.t 28) 1, none⟩,
        ⟨some 12, .mv (.t 32), none⟩,
        ⟨some 13, .mv (.t 33), none⟩])
  (.seq (.seq (.region
        [⟨some 34, .mv (.t 13), none⟩,
          ⟨some 35, .bin .neq (.t 34) (.k (.c (.int .i64 0))), none⟩])
    (.cond (.t 35)
      (.seq (.region
          [⟨some 36, .mv (.t 13), none⟩,
            ⟨some 6, .mv (.k (.c (.pnil))), none⟩,
            ⟨some 7, .mv (.t 36), none⟩])
      (.ret))
      (.skip)))
  (.seq (.seq (.region
        [⟨some 37, .mv (.t 12), none⟩,
          ⟨some 38, .call F_romix_Store_Rows [.t 37], none⟩,
          ⟨some 39, .mv (.k (.c (.int .i64 0))), none⟩])
    (.block 0
      (.loop
        (.seq (.region
            [⟨some 40, .bin .lss (.t 39) (.t 38), none⟩])
        (.seq (.cond (.t 40)
            (.skip)
            (.exit 0))
        (.seq (.block 1
            (.seq (.region
                [⟨some 41, .mv (.t 39), none⟩,
                  ⟨some 14, .mv (.t 41), none⟩])
            (.seq (.region
                [⟨some 42, .mv (.t 1), none⟩,
                  ⟨some 43, .bin .mul (.k (.c (.int .i64 32))) (.t 42), none⟩,
                  ⟨some 44, .makeSlice ([.int .u32 0]) 4 (.t 43) (.t 43), none⟩,
                  ⟨some 15, .mv (.t 44), none⟩])
            (.seq (.seq (.region
                  [⟨some 45, .mv (.t 15), none⟩,
                    ⟨some 46, .len false (.t 45), none⟩,
                    ⟨some 47, .mv (.k (.c (.int .i64 0))), none⟩])
              (.block 2
                (.loop
                  (.seq (.region
                      [⟨some 48, .bin .lss (.t 47) (.t 46), none⟩])
                  (.seq (.cond (.t 48)
                      (.skip)
                      (.exit 2))
                  (.seq (.block 3
                      (.seq (.region
                          [⟨some 49, .mv (.t 47), none⟩,
                            ⟨some 16, .mv (.t 49), none⟩])
                      (.seq (.region
                          [⟨some 50, .mv (.t 2), none⟩,
                            ⟨some 51, .len false (.t 50), none⟩,
                            ⟨some 52, .bin .gtr (.t 51) (.k (.c (.int .i64 0))), none⟩])
                      (.cond (.t 52)
                        (.region
                          [⟨some 53, .mv (.t 15), none⟩,
                            ⟨some 54, .mv (.t 16), none⟩,
                            ⟨some 55, .mv (.t 2), none⟩,
                            ⟨some 56, .mv (.t 14), none⟩,
                            ⟨some 57, .mv (.t 16), none⟩,
                            ⟨some 58, .bin .add (.t 56) (.t 57), none⟩,
                            ⟨some 59, .mv (.t 2), none⟩,
                            ⟨some 60, .len false (.t 59), none⟩,
                            ⟨some 61, .bin .rem (.t 58) (.t 60), none⟩,
                            ⟨some 62, .idxSlc 1 (.t 55) (.t 61), none⟩,
                            ⟨some 63, .load1 (.t 62), none⟩,
                            ⟨some 64, .mv (.t 16), none⟩,
                            ⟨some 65, .mv (.t 14), none⟩,
                            ⟨some 66, .bin .mul (.t 64) (.t 65), none⟩,
                            ⟨some 67, .convInt .u32 (.t 66), none⟩,
                            ⟨some 68, .bin .add (.t 63) (.t 67), none⟩,
                            ⟨some 69, .idxSlc 1 (.t 53) (.t 54), none⟩,
                            ⟨none, .store 1 (.t 69) (.t 68), none⟩])
                        (.skip)))))
                  (.region
                    [⟨some 70, .bin .add (.t 47) (.k (.c (.int .i64 1))), none⟩,
                      ⟨some 47, .mv (.t 70), none⟩])))))))
            (.region
              [⟨some 71, .mv (.t 12), none⟩,
                ⟨some 72, .mv (.t 14), none⟩,
                ⟨some 73, .mv (.t 15), none⟩,
                ⟨some 74, .call F_romix_Store_Put [.t 71, .t 72, .t 73], none⟩])))))
        (.region
          [⟨some 75, .bin .add (.t 39) (.k (.c (.int .i64 1))), none⟩,
            ⟨some 39, .mv (.t 75), none⟩])))))))
  (.seq (.region
      [⟨some 76, .mv (.t 12), none⟩,
        ⟨some 6, .mv (.t 76), none⟩,
        ⟨some 7, .mv (.k (.c (.int .i64 0))), none⟩])
  (.ret))))))))
theorem t_pestlelaw24_store : A F_pestlelaw24_store = some c_pestlelaw24_store := by kernel_rfl

noncomputable def c_pestlelaw24_all : AFn := AFn.mk 24 [.tmp 2]
  (.seq (.region
      [⟨some 2, .mv (.k (.c (.snil))), none⟩])
  (.seq (.region
      [⟨some 3, .mv (.k (.c (.snil))), none⟩])
  (.seq (.seq (.region
        [⟨some 7, .mv (.t 0), none⟩,
          ⟨some 8, .call F_romix_Store_Rows [.t 7], none⟩,
          ⟨some 9, .mv (.k (.c (.int .i64 0))), none⟩])
    (.block 0
      (.loop
        (.seq (.region
            [⟨some 10, .bin .lss (.t 9) (.t 8), none⟩])
        (.seq (.cond (.t 10)
            (.skip)
            (.exit 0))
        (.seq (.block 1
            (.seq (.region
                [⟨some 11, .mv (.t 9), none⟩,
                  ⟨some 4, .mv (.t 11), none⟩])
            (.seq (.region
                [⟨some 13, .mv (.t 0), none⟩,
                  ⟨some 14, .mv (.t 4), none⟩,
                  ⟨some 15, .call F_romix_Store_Row [.t 13, .t 14], none⟩,
                  ⟨some 12, .mv (.t 15), none⟩,
                  ⟨some 16, .extract (.t 12) 0, none⟩,
                  ⟨some 17, .extract (.t 12) 1, none⟩,
                  ⟨some 5, .mv (.t 16), none⟩,
                  ⟨some 6, .mv (.t 17), none⟩])
            (.region
              [⟨some 18, .mv (.t 3), none⟩,
                ⟨some 19, .mv (.t 5), none⟩,
                ⟨some 20, .buildSlice ([.snil]) 1 1 [(0, 1, .t 19)], none⟩,
                ⟨some 21, .append ([.snil]) 24 (.t 18) (.t 20), none⟩,
                ⟨some 3, .mv (.t 21), none⟩]))))
        (.region
          [⟨some 22, .bin .add (.t 9) (.k (.c (.int .i64 1))), none⟩,
            ⟨some 9, .mv (.t 22), none⟩])))))))
  (.seq (.region
      [⟨some 23, .mv (.t 3), none⟩,
        ⟨some 2, .mv (.t 23), none⟩])
  (.ret)))))
theorem t_pestlelaw24_all : A F_pestlelaw24_all = some c_pestlelaw24_all := by kernel_rfl

noncomputable def c_pestlelaw24_same : AFn := AFn.mk 53 [.tmp 4]
  (.seq (.region
      [⟨some 4, .mv (.k (.c (.bool false))), none⟩])
  (.seq (.seq (.region
        [⟨some 7, .mv (.t 0), none⟩,
          ⟨some 8, .len false (.t 7), none⟩,
          ⟨some 9, .mv (.t 1), none⟩,
          ⟨some 10, .len false (.t 9), none⟩,
          ⟨some 11, .bin .neq (.t 8) (.t 10), none⟩])
    (.cond (.t 11)
      (.seq (.region
          [⟨some 4, .mv (.k (.c (.bool false))), none⟩])
      (.ret))
      (.skip)))
  (.seq (.seq (.region
        [⟨some 12, .mv (.t 0), none⟩,
          ⟨some 13, .len false (.t 12), none⟩,
          ⟨some 14, .mv (.k (.c (.int .i64 0))), none⟩])
    (.block 0
      (.loop
        (.seq (.region
            [⟨some 15, .bin .lss (.t 14) (.t 13), none⟩])
        (.seq (.cond (.t 15)
            (.skip)
            (.exit 0))
        (.seq (.block 1
            (.seq (.region
                [⟨some 16, .mv (.t 14), none⟩,
                  ⟨some 5, .mv (.t 16), none⟩])
            (.seq (.seq (.draw
                  [⟨some 17, .mv (.t 0), none⟩,
                    ⟨some 18, .mv (.t 5), none⟩,
                    ⟨some 19, .idxSlc 1 (.t 17) (.t 18), none⟩,
                    ⟨some 20, .load1 (.t 19), none⟩,
                    ⟨some 21, .len false (.t 20), none⟩,
                    ⟨some 22, .mv (.t 1), none⟩,
                    ⟨some 23, .mv (.t 5), none⟩,
                    ⟨some 24, .idxSlc 1 (.t 22) (.t 23), none⟩,
                    ⟨some 25, .load1 (.t 24), none⟩,
                    ⟨some 26, .len false (.t 25), none⟩]
                  [⟨some 27, .bin .neq (.t 21) (.t 26), none⟩])
              (.cond (.t 27)
                (.seq (.region
                    [⟨some 4, .mv (.k (.c (.bool false))), none⟩])
                (.ret))
                (.skip)))
            (.seq (.region
                [⟨some 28, .mv (.t 0), none⟩,
                  ⟨some 29, .mv (.t 5), none⟩,
                  ⟨some 30, .idxSlc 1 (.t 28) (.t 29), none⟩,
                  ⟨some 31, .load1 (.t 30), none⟩,
                  ⟨some 32, .len false (.t 31), none⟩,
                  ⟨some 33, .mv (.k (.c (.int .i64 0))), none⟩])
            (.block 2
              (.loop
                (.seq (.region
                    [⟨some 34, .bin .lss (.t 33) (.t 32), none⟩])
                (.seq (.cond (.t 34)
                    (.skip)
                    (.exit 2))
                (.seq (.block 3
                    (.seq (.region
                        [⟨some 35, .mv (.t 33), none⟩,
                          ⟨some 6, .mv (.t 35), none⟩])
                    (.seq (.draw
                        [⟨some 36, .mv (.t 0), none⟩,
                          ⟨some 37, .mv (.t 5), none⟩,
                          ⟨some 38, .idxSlc 1 (.t 36) (.t 37), none⟩,
                          ⟨some 39, .load1 (.t 38), none⟩,
                          ⟨some 40, .mv (.t 6), none⟩,
                          ⟨some 41, .idxSlc 1 (.t 39) (.t 40), none⟩,
                          ⟨some 42, .load1 (.t 41), none⟩,
                          ⟨some 43, .mv (.t 1), none⟩,
                          ⟨some 44, .mv (.t 5), none⟩,
                          ⟨some 45, .idxSlc 1 (.t 43) (.t 44), none⟩,
                          ⟨some 46, .load1 (.t 45), none⟩,
                          ⟨some 47, .mv (.t 6), none⟩,
                          ⟨some 48, .idxSlc 1 (.t 46) (.t 47), none⟩,
                          ⟨some 49, .load1 (.t 48), none⟩]
                        [⟨some 50, .bin .neq (.t 42) (.t 49), none⟩])
                    (.cond (.t 50)
                      (.seq (.region
                          [⟨some 4, .mv (.k (.c (.bool false))), none⟩])
                      (.ret))
                      (.skip)))))
                (.region
                  [⟨some 51, .bin .add (.t 33) (.k (.c (.int .i64 1))), none⟩,
                    ⟨some 33, .mv (.t 51), none⟩]))))))))))
        (.region
          [⟨some 52, .bin .add (.t 14) (.k (.c (.int .i64 1))), none⟩,
            ⟨some 14, .mv (.t 52), none⟩])))))))
  (.seq (.region
      [⟨some 4, .mv (.k (.c (.bool true))), none⟩])
  (.ret)))))
theorem t_pestlelaw24_same : A F_pestlelaw24_same = some c_pestlelaw24_same := by kernel_rfl
end PK

/- The helpers of the laws on romix: store, all, same, awake. -/
namespace PK
open Go PAbs
set_option linter.unusedSimpArgs false
set_option linter.unusedVariables false
set_option maxRecDepth 100000
set_option maxHeartbeats 4000000

def RdRows (W : Nat) (H : AHeap) (y : Cell) (rows : List (List Nat)) : Prop :=
  ∃ xs, Rd H y 1 xs ∧ xs.length = rows.length ∧ ∀ j, j < rows.length → ∃ x, xs[j]? = some x ∧ Rd H x 1 (W32 (rows.getD j [])) ∧ (rows.getD j []).length = W
def slcs (os : List Nat) (W : Nat) : List Cell := os.map fun o => .slc o 0 W 1
theorem slcs_length {os : List Nat} {W : Nat} : (slcs os W).length = os.length := by simp [slcs]
theorem slcs_get {os : List Nat} {W j : Nat} (h : j < os.length) : (slcs os W)[j]? = some (.slc (os.getD j 0) 0 W 1) := by
  rw [slcs, List.getElem?_map, List.getD_eq_getElem?_getD, List.getElem?_eq_getElem h]; rfl
def RowsAt (f W : Nat) (H : AHeap) (y : Cell) (rows : List (List Nat)) : Prop :=
  ∃ os, Own f H y 1 (slcs os W) ∧ os.length = rows.length ∧ ∀ j, j < rows.length → f ≤ os.getD j 0 ∧ hown H (os.getD j 0) = some (W32 (rows.getD j [])) ∧ (rows.getD j []).length = W
theorem RowsAt.rd {f W : Nat} {H : AHeap} {y : Cell} {rows : List (List Nat)} (h : RowsAt f W H y rows) : RdRows W H y rows := by
  obtain ⟨os, h1, h2, h3⟩ := h
  refine ⟨_, h1.rd, by rw [slcs_length, h2], fun j hj => ?_⟩
  obtain ⟨_, h4, h5⟩ := h3 j hj
  exact ⟨_, slcs_get (by omega), Rd.all (hcells_own h4) (by rw [W32_length, h5]), h5⟩
theorem RdRows.chg {S : Nat → Prop} {W f : Nat} {H H' : AHeap} {y : Cell} {rows : List (List Nat)} (h : RdRows W H y rows) (hc : Chg S H H') (hs : ∀ b, b < H.length → ¬ S b) : RdRows W H' y rows := by
  obtain ⟨xs, h1, h2, h3⟩ := h
  refine ⟨xs, h1.chg hc (fun b hb => hs b (h1.lt hb)), h2, fun j hj => ?_⟩
  obtain ⟨x, h4, h5, h6⟩ := h3 j hj
  exact ⟨x, h4, h5.chg hc (fun b hb => hs b (h5.lt hb)), h6⟩
theorem RowsAt.chg {S : Nat → Prop} {f W : Nat} {H H' : AHeap} {y : Cell} {rows : List (List Nat)} (h : RowsAt f W H y rows) (hc : Chg S H H') (hs : ∀ b, f ≤ b → b < H.length → ¬ S b) : RowsAt f W H' y rows := by
  obtain ⟨os, h1, h2, h3⟩ := h
  refine ⟨os, h1.chg hc (fun b hb => hs b (h1.le hb) (h1.lt' hb)), h2, fun j hj => ?_⟩
  obtain ⟨h4, h5, h6⟩ := h3 j hj
  exact ⟨h4, hc.hown (hs _ h4 (hown_lt h5)) h5, h6⟩
theorem RowsAt.kept {f W : Nat} {H H' : AHeap} {y : Cell} {rows : List (List Nat)} (h : RowsAt f W H y rows) (k : Kept H.length H H') : RowsAt f W H' y rows := h.chg (Chg.of_kept k) (fun _ _ _ h => h)
theorem RowsAt.floor {f g W : Nat} {H : AHeap} {y : Cell} {rows : List (List Nat)} (h : RowsAt f W H y rows) (hg : g ≤ f) : RowsAt g W H y rows := by
  obtain ⟨os, h1, h2, h3⟩ := h
  exact ⟨os, h1.mono hg, h2, fun j hj => ⟨Nat.le_trans hg (h3 j hj).1, (h3 j hj).2⟩⟩
theorem RowsAt.nil {f W : Nat} {H : AHeap} : RowsAt f W H .snil [] := ⟨[], Own.nil, rfl, fun j hj => absurd hj (Nat.not_lt_zero _)⟩
theorem W32_slcs {l os : List Nat} {W : Nat} (h : W32 l = slcs os W) (h0 : 0 < l.length) : False := by
  cases l with
  | nil => simp at h0
  | cons x l => cases os with
    | nil => simp [W32, slcs] at h
    | cons o os => simp [W32, slcs] at h
theorem RowsAt.push {f W o : Nat} {H H' : AHeap} {y y' : Cell} {rows : List (List Nat)} {l : List Nat} (h : RowsAt f W H y rows) (hW : 0 < W) (ho : f ≤ o) (hl : l.length = W) (hol : hown H o = some (W32 l)) (hc : Chg (inX y) H H')
    (hx : ∀ os, Own f H y 1 (slcs os W) → Own f H' y' 1 (slcs os W ++ [.slc o 0 W 1])) : RowsAt f W H' y' (rows ++ [l]) := by
  obtain ⟨os, h1, h2, h3⟩ := h
  have nx : ∀ b l', hown H b = some (W32 l') → l'.length = W → ¬ inX y b := by
    rintro b l' hb hl' ⟨u, n, z, rfl⟩
    rcases h1 with ⟨h, _⟩ | ⟨s, m, e, _, _, h4⟩
    · cases h
    · injection e with e1; subst e1
      rw [h4] at hb
      exact W32_slcs (Option.some.inj hb).symm (by omega)
  refine ⟨os ++ [o], ?_, by simp [h2], fun j hj => ?_⟩
  · have := hx os h1
    simpa [slcs] using this
  · rw [List.length_append, List.length_singleton] at hj
    by_cases e : j < rows.length
    · obtain ⟨h4, h5, h6⟩ := h3 j e
      have e1 : (os ++ [o]).getD j 0 = os.getD j 0 := by rw [List.getD_eq_getElem?_getD, List.getElem?_append_left (by omega), List.getD_eq_getElem?_getD]
      have e2 : (rows ++ [l]).getD j [] = rows.getD j [] := by rw [List.getD_eq_getElem?_getD, List.getElem?_append_left (by omega), List.getD_eq_getElem?_getD]
      rw [e1, e2]
      exact ⟨h4, hc.hown (nx _ _ h5 h6) h5, h6⟩
    · obtain rfl : j = rows.length := by omega
      have e1 : (os ++ [o]).getD rows.length 0 = o := by rw [List.getD_eq_getElem?_getD, List.getElem?_append_right (by omega), h2]; simp
      have e2 : (rows ++ [l]).getD rows.length [] = l := by rw [List.getD_eq_getElem?_getD, List.getElem?_append_right (by omega)]; simp
      rw [e1, e2]
      exact ⟨ho, hc.hown (nx _ _ hol hl) hol, hl⟩
theorem rowsO_succ {ws : List Nat} {W i : Nat} : rowsO ws W (i + 1) = rowsO ws W i ++ [rowO ws W i] := by simp [rowsO, List.range_succ]

section
variable {so p a q n r R : Nat}

def alI (so p a q n r R : Nat) (ws : List Nat) (H0 : AHeap) (i : Nat) (fr : AFrame) (H : AHeap) : Prop := Kept H0.length H0 H ∧ ∃ x3, RowsAt H0.length (32 * r) H x3 (rowsO ws (32 * r) i) ∧ (∃ s : Nat → AV, fr = [.c (.ptr so 0), s 1, s 2, .c x3, s 4, s 5, s 6, s 7, .c (.int .i64 (R : Int)), .c (.int .i64 (i : Int)), s 10, s 11, s 12, s 13, s 14, s 15, s 16, s 17, s 18, s 19, s 20, s 21, s 22, s 23])
theorem AC_all24 (H : AHeap) {ws : List Nat} (h : StoreAt H so p a q n r R true ws) (hR : R ≤ 1000000) :
    AC A H.length F_pestlelaw24_all [.c (.ptr so 0)] H (fun v H' => (∃ x, v = .c x ∧ RowsAt H.length (32 * r) H' x (rowsO ws (32 * r) R)) ∧ Kept H.length H H') := by
  have hr1 := h.r1; have hr2 := h.r2
  refine AC_enter t_pestlelaw24_all ?_; simp only [c_pestlelaw24_all, enterA, List.replicate, List.length_cons, List.length_nil, Nat.reduceAdd, Nat.reduceSub, List.cons_append, List.nil_append]
  (repeat (first | with_reducible (first | refine thenQ_n ?_ | refine blockQ_n ?_ | refine thenQ_e ?_ | refine thenQ_r ?_ | refine blockQ_r ?_ | refine blockQ_s ?_ | refine blockQ_o rfl ?_) | refine AW_skip ?_ | refine AW_seq ?_ | refine AW_ops ?_ | refine AW_blockS ?_ | refine AW_blockR ?_ | refine AW_blockD ?_ | refine AW_blockC ?_ | refine AO_nil ?_ | refine AW_draw ?_ | refine AW_draw3 ?_ | refine AW_blockD3 ?_ | (refine AW_drawA ?_; simp only [atBlk, Sm]) | refine AHd_nil ?_ | with_reducible (first | refine AP_at ?_ | refine AHP_at ?_) | (with_reducible (first | apply AO_any | apply AHd_any | apply AP_go | apply AHP_go); focus (simp only [Sm, wantedA, execA, stepA, List.getElem?_cons_zero, List.getElem?_cons_succ, if_true, if_false, binA, binInt, unA, eqA, Option.map, eq_self, reduceCtorEq, ite_true, ite_false, cellsAV, fitsAll, CK.fits, fillA, AV.cells, writeN, sliceCells, appendA, lenA, i64, loA, hiA, Nat.reduceAdd, Nat.reduceMul, Nat.reduceDiv, Nat.reduceSub, Nat.reduceLeDiff, Nat.reduceLT, Int.reduceLE, Int.reduceLT, foldA, maxA, minA, Int.reduceBEq, Int.reduceBNe, Int.reduceGT, Int.reduceGE, Int.reduceEq, Int.reduceNe, Int.reduceToNat, AOp.stops, ↓want_eq, ↓exec_lenX, ↓exec_storeX, ↓exec_storeN, storeN_one, ↓exec_bsX, ↓exec_sliceX, ↓exec_copyX, ↓exec_appNil, ↓exec_carryX, Nat.sub_zero, rep_len]; with_reducible first | exact EqP.at_ | exact EqP.cont | exact EqP.hcont | exact EqP.gate | exact EqP.hgate)) | (refine AW_ift ?_ ?_; focus (simp only [Sm]; done)) | (refine AW_iff ?_ ?_; focus (simp only [Sm]; done))))
  refine AO_call rfl (AC_roRows H.length H h) ?_
  rintro _ _ ⟨rfl, rfl⟩
  (repeat (first | with_reducible (first | refine thenQ_n ?_ | refine blockQ_n ?_ | refine thenQ_e ?_ | refine thenQ_r ?_ | refine blockQ_r ?_ | refine blockQ_s ?_ | refine blockQ_o rfl ?_) | refine AW_skip ?_ | refine AW_seq ?_ | refine AW_ops ?_ | refine AW_blockS ?_ | refine AW_blockR ?_ | refine AW_blockD ?_ | refine AW_blockC ?_ | refine AO_nil ?_ | refine AW_draw ?_ | refine AW_draw3 ?_ | refine AW_blockD3 ?_ | (refine AW_drawA ?_; simp only [atBlk, Sm]) | refine AHd_nil ?_ | with_reducible (first | refine AP_at ?_ | refine AHP_at ?_) | (with_reducible (first | apply AO_any | apply AHd_any | apply AP_go | apply AHP_go); focus (simp only [Sm, wantedA, execA, stepA, List.getElem?_cons_zero, List.getElem?_cons_succ, if_true, if_false, binA, binInt, unA, eqA, Option.map, eq_self, reduceCtorEq, ite_true, ite_false, cellsAV, fitsAll, CK.fits, fillA, AV.cells, writeN, sliceCells, appendA, lenA, i64, loA, hiA, Nat.reduceAdd, Nat.reduceMul, Nat.reduceDiv, Nat.reduceSub, Nat.reduceLeDiff, Nat.reduceLT, Int.reduceLE, Int.reduceLT, foldA, maxA, minA, Int.reduceBEq, Int.reduceBNe, Int.reduceGT, Int.reduceGE, Int.reduceEq, Int.reduceNe, Int.reduceToNat, AOp.stops, ↓want_eq, ↓exec_lenX, ↓exec_storeX, ↓exec_storeN, storeN_one, ↓exec_bsX, ↓exec_sliceX, ↓exec_copyX, ↓exec_appNil, ↓exec_carryX, Nat.sub_zero, rep_len]; with_reducible first | exact EqP.at_ | exact EqP.cont | exact EqP.hcont | exact EqP.gate | exact EqP.hgate)) | (refine AW_ift ?_ ?_; focus (simp only [Sm]; done)) | (refine AW_iff ?_ ?_; focus (simp only [Sm]; done))))
  refine AW_mid (fun e fr H' => e = .normal ∧ alI so p a q n r R ws H R fr H') ?_ ?_
  · refine AW_block (AW_up (alI so p a q n r R ws H) R ⟨Kept.refl _ _, .snil, RowsAt.nil, stale _ _ rfl⟩ ?_)
    rintro i fr H2 hi ⟨k2, x3, h3, st, rfl⟩
    have h2 := h.kept k2
    have l2 := k2.1
    (repeat (first | with_reducible (first | refine thenQ_n ?_ | refine blockQ_n ?_ | refine thenQ_e ?_ | refine thenQ_r ?_ | refine blockQ_r ?_ | refine blockQ_s ?_ | refine blockQ_o rfl ?_) | refine AW_skip ?_ | refine AW_seq ?_ | refine AW_ops ?_ | refine AW_blockS ?_ | refine AW_blockR ?_ | refine AW_blockD ?_ | refine AW_blockC ?_ | refine AO_nil ?_ | refine AW_draw ?_ | refine AW_draw3 ?_ | refine AW_blockD3 ?_ | (refine AW_drawA ?_; simp only [atBlk, Sm]) | refine AHd_nil ?_ | with_reducible (first | refine AP_at ?_ | refine AHP_at ?_) | (with_reducible (first | apply AO_any | apply AHd_any | apply AP_go | apply AHP_go); focus (simp only [Sm, wantedA, execA, stepA, List.getElem?_cons_zero, List.getElem?_cons_succ, if_true, if_false, binA, binInt, unA, eqA, Option.map, eq_self, reduceCtorEq, ite_true, ite_false, cellsAV, fitsAll, CK.fits, fillA, AV.cells, writeN, sliceCells, appendA, lenA, i64, loA, hiA, Nat.reduceAdd, Nat.reduceMul, Nat.reduceDiv, Nat.reduceSub, Nat.reduceLeDiff, Nat.reduceLT, Int.reduceLE, Int.reduceLT, foldA, maxA, minA, Int.reduceBEq, Int.reduceBNe, Int.reduceGT, Int.reduceGE, Int.reduceEq, Int.reduceNe, Int.reduceToNat, AOp.stops, ↓want_eq, ↓exec_lenX, ↓exec_storeX, ↓exec_storeN, storeN_one, ↓exec_bsX, ↓exec_sliceX, ↓exec_copyX, ↓exec_appNil, ↓exec_carryX, Nat.sub_zero, rep_len]; with_reducible first | exact EqP.at_ | exact EqP.cont | exact EqP.hcont | exact EqP.gate | exact EqP.hgate)) | (refine AW_ift ?_ ?_; focus (simp only [Sm]; done)) | (refine AW_iff ?_ ?_; focus (simp only [Sm]; done))))
    refine AW_cond rfl ?_ ?_ <;> intro ht
    · have ht : (i : Int) < (R : Int) := of_decide_eq_true ht
      have hi2 : i < R := by omega
      (repeat (first | with_reducible (first | refine thenQ_n ?_ | refine blockQ_n ?_ | refine thenQ_e ?_ | refine thenQ_r ?_ | refine blockQ_r ?_ | refine blockQ_s ?_ | refine blockQ_o rfl ?_) | refine AW_skip ?_ | refine AW_seq ?_ | refine AW_ops ?_ | refine AW_blockS ?_ | refine AW_blockR ?_ | refine AW_blockD ?_ | refine AW_blockC ?_ | refine AO_nil ?_ | refine AW_draw ?_ | refine AW_draw3 ?_ | refine AW_blockD3 ?_ | (refine AW_drawA ?_; simp only [atBlk, Sm]) | refine AHd_nil ?_ | with_reducible (first | refine AP_at ?_ | refine AHP_at ?_) | (with_reducible (first | apply AO_any | apply AHd_any | apply AP_go | apply AHP_go); focus (simp only [Sm, wantedA, execA, stepA, List.getElem?_cons_zero, List.getElem?_cons_succ, if_true, if_false, binA, binInt, unA, eqA, Option.map, eq_self, reduceCtorEq, ite_true, ite_false, cellsAV, fitsAll, CK.fits, fillA, AV.cells, writeN, sliceCells, appendA, lenA, i64, loA, hiA, Nat.reduceAdd, Nat.reduceMul, Nat.reduceDiv, Nat.reduceSub, Nat.reduceLeDiff, Nat.reduceLT, Int.reduceLE, Int.reduceLT, foldA, maxA, minA, Int.reduceBEq, Int.reduceBNe, Int.reduceGT, Int.reduceGE, Int.reduceEq, Int.reduceNe, Int.reduceToNat, AOp.stops, ↓want_eq, ↓exec_lenX, ↓exec_storeX, ↓exec_storeN, storeN_one, ↓exec_bsX, ↓exec_sliceX, ↓exec_copyX, ↓exec_appNil, ↓exec_carryX, Nat.sub_zero, rep_len, ht]; with_reducible first | exact EqP.at_ | exact EqP.cont | exact EqP.hcont | exact EqP.gate | exact EqP.hgate)) | (refine AW_ift ?_ ?_; focus (simp only [Sm]; done)) | (refine AW_iff ?_ ?_; focus (simp only [Sm]; done))))
      refine AO_call rfl ((AC_roRow H2 i h2 hi2).floor (by omega)) ?_
      rintro _ H3 ⟨⟨x, rfl, hx⟩, k3⟩
      have hrl := (h2.row hi2).len
      obtain ⟨o, rfl, ho, g3⟩ := own_slc hx hrl (by omega)
      have l3 := k3.1
      (repeat (first | with_reducible (first | refine thenQ_n ?_ | refine blockQ_n ?_ | refine thenQ_e ?_ | refine thenQ_r ?_ | refine blockQ_r ?_ | refine blockQ_s ?_ | refine blockQ_o rfl ?_) | refine AW_skip ?_ | refine AW_seq ?_ | refine AW_ops ?_ | refine AW_blockS ?_ | refine AW_blockR ?_ | refine AW_blockD ?_ | refine AW_blockC ?_ | refine AO_nil ?_ | refine AW_draw ?_ | refine AW_draw3 ?_ | refine AW_blockD3 ?_ | (refine AW_drawA ?_; simp only [atBlk, Sm]) | refine AHd_nil ?_ | with_reducible (first | refine AP_at ?_ | refine AHP_at ?_) | (with_reducible (first | apply AO_any | apply AHd_any | apply AP_go | apply AHP_go); focus (simp only [Sm, wantedA, execA, stepA, List.getElem?_cons_zero, List.getElem?_cons_succ, if_true, if_false, binA, binInt, unA, eqA, Option.map, eq_self, reduceCtorEq, ite_true, ite_false, cellsAV, fitsAll, CK.fits, fillA, AV.cells, writeN, sliceCells, appendA, lenA, i64, loA, hiA, Nat.reduceAdd, Nat.reduceMul, Nat.reduceDiv, Nat.reduceSub, Nat.reduceLeDiff, Nat.reduceLT, Int.reduceLE, Int.reduceLT, foldA, maxA, minA, Int.reduceBEq, Int.reduceBNe, Int.reduceGT, Int.reduceGE, Int.reduceEq, Int.reduceNe, Int.reduceToNat, AOp.stops, ↓want_eq, ↓exec_lenX, ↓exec_storeX, ↓exec_storeN, storeN_one, ↓exec_bsX, ↓exec_sliceX, ↓exec_copyX, ↓exec_appNil, ↓exec_carryX, Nat.sub_zero, rep_len]; with_reducible first | exact EqP.at_ | exact EqP.cont | exact EqP.hcont | exact EqP.gate | exact EqP.hgate)) | (refine AW_ift ?_ ?_; focus (simp only [Sm]; done)) | (refine AW_iff ?_ ?_; focus (simp only [Sm]; done))))
      have ra : RowsAt H.length (32 * r) (H3 ++ [Blk.own [Cell.slc o 0 (32 * r) 1]]) x3 (rowsO ws (32 * r) i) := (h3.kept k3).kept (Kept.push _ _ _)
      obtain ⟨os, a1, a2, a3⟩ := ra
      refine AO_appendT (bytes := 24) (f := H.length) a1.t (cells_last rfl) rfl (by omega) (Nat.mod_one _) (Nat.le_refl _) (by simp; omega) (by rw [slcs_length, a2, rowsO_length]; simp; omega) rfl rfl ?_
      rintro q' n' H4 hq' h4 c4
      have ra : RowsAt H.length (32 * r) (H3 ++ [Blk.own [Cell.slc o 0 (32 * r) 1]]) x3 (rowsO ws (32 * r) i) := ⟨os, a1, a2, a3⟩
      (repeat (first | with_reducible (first | refine thenQ_n ?_ | refine blockQ_n ?_ | refine thenQ_e ?_ | refine thenQ_r ?_ | refine blockQ_r ?_ | refine blockQ_s ?_ | refine blockQ_o rfl ?_) | refine AW_skip ?_ | refine AW_seq ?_ | refine AW_ops ?_ | refine AW_blockS ?_ | refine AW_blockR ?_ | refine AW_blockD ?_ | refine AW_blockC ?_ | refine AO_nil ?_ | refine AW_draw ?_ | refine AW_draw3 ?_ | refine AW_blockD3 ?_ | (refine AW_drawA ?_; simp only [atBlk, Sm]) | refine AHd_nil ?_ | with_reducible (first | refine AP_at ?_ | refine AHP_at ?_) | (with_reducible (first | apply AO_any | apply AHd_any | apply AP_go | apply AHP_go); focus (simp only [Sm, wantedA, execA, stepA, List.getElem?_cons_zero, List.getElem?_cons_succ, if_true, if_false, binA, binInt, unA, eqA, Option.map, eq_self, reduceCtorEq, ite_true, ite_false, cellsAV, fitsAll, CK.fits, fillA, AV.cells, writeN, sliceCells, appendA, lenA, i64, loA, hiA, Nat.reduceAdd, Nat.reduceMul, Nat.reduceDiv, Nat.reduceSub, Nat.reduceLeDiff, Nat.reduceLT, Int.reduceLE, Int.reduceLT, foldA, maxA, minA, Int.reduceBEq, Int.reduceBNe, Int.reduceGT, Int.reduceGE, Int.reduceEq, Int.reduceNe, Int.reduceToNat, AOp.stops, ↓want_eq, ↓exec_lenX, ↓exec_storeX, ↓exec_storeN, storeN_one, ↓exec_bsX, ↓exec_sliceX, ↓exec_copyX, ↓exec_appNil, ↓exec_carryX, Nat.sub_zero, rep_len, i64_succ (show i < 9223372036854775807 by omega)]; with_reducible first | exact EqP.at_ | exact EqP.cont | exact EqP.hcont | exact EqP.gate | exact EqP.hgate)) | (refine AW_ift ?_ ?_; focus (simp only [Sm]; done)) | (refine AW_iff ?_ ?_; focus (simp only [Sm]; done))))
      refine ⟨hi2, ?_, .slc q' 0 n' 1, ?_, stale _ _ rfl⟩
      · exact (k2.trans (k3.mono (by omega))).trans ((Kept.push _ _ _).trans ⟨c4.1, fun b hb hb2 => c4.2 b hb2 fun hi => by have := a1.le hi; omega⟩)
      · rw [rowsO_succ]
        refine ra.push (by omega) (by omega) hrl (hown_app g3) c4 ?_
        intro os' h'
        have : slcs os' (32 * r) = slcs os (32 * r) := by
          rcases a1 with ⟨e, e1⟩ | ⟨s, m, rfl, e1, e2, e3⟩
          · subst e
            rcases h' with ⟨_, e2⟩ | ⟨_, _, e2, _⟩
            · rw [e1, e2]
            · cases e2
          · rcases h' with ⟨e4, _⟩ | ⟨_, _, e4, _, _, e5⟩
            · cases e4
            · injection e4 with e6; subst e6; rw [e3] at e5; exact (Option.some.inj e5).symm
        rw [this]; exact h4
    · obtain rfl : i = R := by have : ¬ (i : Int) < (R : Int) := of_decide_eq_false ht; omega
      exact AW_exit ⟨rfl, k2, x3, h3, stale _ _ rfl⟩
  rintro e fr H2 ⟨rfl, k2, x3, h3, st, rfl⟩
  (repeat (first | with_reducible (first | refine thenQ_n ?_ | refine blockQ_n ?_ | refine thenQ_e ?_ | refine thenQ_r ?_ | refine blockQ_r ?_ | refine blockQ_s ?_ | refine blockQ_o rfl ?_) | refine AW_skip ?_ | refine AW_seq ?_ | refine AW_ops ?_ | refine AW_blockS ?_ | refine AW_blockR ?_ | refine AW_blockD ?_ | refine AW_blockC ?_ | refine AO_nil ?_ | refine AW_draw ?_ | refine AW_draw3 ?_ | refine AW_blockD3 ?_ | (refine AW_drawA ?_; simp only [atBlk, Sm]) | refine AHd_nil ?_ | with_reducible (first | refine AP_at ?_ | refine AHP_at ?_) | (with_reducible (first | apply AO_any | apply AHd_any | apply AP_go | apply AHP_go); focus (simp only [Sm, wantedA, execA, stepA, List.getElem?_cons_zero, List.getElem?_cons_succ, if_true, if_false, binA, binInt, unA, eqA, Option.map, eq_self, reduceCtorEq, ite_true, ite_false, cellsAV, fitsAll, CK.fits, fillA, AV.cells, writeN, sliceCells, appendA, lenA, i64, loA, hiA, Nat.reduceAdd, Nat.reduceMul, Nat.reduceDiv, Nat.reduceSub, Nat.reduceLeDiff, Nat.reduceLT, Int.reduceLE, Int.reduceLT, foldA, maxA, minA, Int.reduceBEq, Int.reduceBNe, Int.reduceGT, Int.reduceGE, Int.reduceEq, Int.reduceNe, Int.reduceToNat, AOp.stops, ↓want_eq, ↓exec_lenX, ↓exec_storeX, ↓exec_storeN, storeN_one, ↓exec_bsX, ↓exec_sliceX, ↓exec_copyX, ↓exec_appNil, ↓exec_carryX, Nat.sub_zero, rep_len]; with_reducible first | exact EqP.at_ | exact EqP.cont | exact EqP.hcont | exact EqP.gate | exact EqP.hgate)) | (refine AW_ift ?_ ?_; focus (simp only [Sm]; done)) | (refine AW_iff ?_ ?_; focus (simp only [Sm]; done))))
  exact AW_ret ⟨_, rfl, ⟨_, rfl, h3⟩, k2⟩


def saI (x y : Cell) (n : Nat) (H0 : AHeap) (i : Nat) (fr : AFrame) (H : AHeap) : Prop := H0 = H ∧ (∃ s : Nat → AV, fr = [.c x, .c y, s 2, s 3, s 4, s 5, s 6, s 7, s 8, s 9, s 10, s 11, s 12, .c (.int .i64 (n : Int)), .c (.int .i64 (i : Int)), s 15, s 16, s 17, s 18, s 19, s 20, s 21, s 22, s 23, s 24, s 25, s 26, s 27, s 28, s 29, s 30, s 31, s 32, s 33, s 34, s 35, s 36, s 37, s 38, s 39, s 40, s 41, s 42, s 43, s 44, s 45, s 46, s 47, s 48, s 49, s 50, s 51, s 52])

def sbI24 (x y : Cell) (n W i : Nat) (H0 : AHeap) (j : Nat) (fr : AFrame) (H : AHeap) : Prop := H0 = H ∧ (∃ s : Nat → AV, fr = [.c x, .c y, s 2, s 3, s 4, .c (.int .i64 (i : Int)), s 6, s 7, s 8, s 9, s 10, s 11, s 12, .c (.int .i64 (n : Int)), .c (.int .i64 (i : Int)), s 15, s 16, s 17, s 18, s 19, s 20, s 21, s 22, s 23, s 24, s 25, s 26, s 27, s 28, s 29, s 30, s 31, .c (.int .i64 (W : Int)), .c (.int .i64 (j : Int)), s 34, s 35, s 36, s 37, s 38, s 39, s 40, s 41, s 42, s 43, s 44, s 45, s 46, s 47, s 48, s 49, s 50, s 51, s 52])
theorem AC_same24 (fl : Nat) (H : AHeap) (x y : Cell) (W : Nat) (rows : List (List Nat)) (hx : RdRows W H x rows) (hy : RdRows W H y rows) (hW : W ≤ 1000000) (hR : rows.length ≤ 1000000) :
    AC A fl F_pestlelaw24_same [.c x, .c y] H (fun v H' => v = .c (.bool true) ∧ H = H') := by
  obtain ⟨xs, x1, x2, x3⟩ := hx
  obtain ⟨ys, y1, y2, y3⟩ := hy
  obtain ⟨n, hn⟩ : ∃ n, rows.length = n := ⟨_, rfl⟩
  rw [hn] at x2 y2 x3 y3 hR
  have lx := x1.len1 _ x2
  have ly := y1.len1 _ y2
  refine AC_enter t_pestlelaw24_same ?_; simp only [c_pestlelaw24_same, enterA, List.replicate, List.length_cons, List.length_nil, Nat.reduceAdd, Nat.reduceSub, List.cons_append, List.nil_append]
  (repeat (first | with_reducible (first | refine thenQ_n ?_ | refine blockQ_n ?_ | refine thenQ_e ?_ | refine thenQ_r ?_ | refine blockQ_r ?_ | refine blockQ_s ?_ | refine blockQ_o rfl ?_) | refine AW_skip ?_ | refine AW_seq ?_ | refine AW_ops ?_ | refine AW_blockS ?_ | refine AW_blockR ?_ | refine AW_blockD ?_ | refine AW_blockC ?_ | refine AO_nil ?_ | refine AW_draw ?_ | refine AW_draw3 ?_ | refine AW_blockD3 ?_ | (refine AW_drawA ?_; simp only [atBlk, Sm]) | refine AHd_nil ?_ | with_reducible (first | refine AP_at ?_ | refine AHP_at ?_) | (with_reducible (first | apply AO_any | apply AHd_any | apply AP_go | apply AHP_go); focus (simp only [Sm, wantedA, execA, stepA, List.getElem?_cons_zero, List.getElem?_cons_succ, if_true, if_false, binA, binInt, unA, eqA, Option.map, eq_self, reduceCtorEq, ite_true, ite_false, cellsAV, fitsAll, CK.fits, fillA, AV.cells, writeN, sliceCells, appendA, lenA, i64, loA, hiA, Nat.reduceAdd, Nat.reduceMul, Nat.reduceDiv, Nat.reduceSub, Nat.reduceLeDiff, Nat.reduceLT, Int.reduceLE, Int.reduceLT, foldA, maxA, minA, Int.reduceBEq, Int.reduceBNe, Int.reduceGT, Int.reduceGE, Int.reduceEq, Int.reduceNe, Int.reduceToNat, AOp.stops, ↓want_eq, ↓exec_lenX, ↓exec_storeX, ↓exec_storeN, storeN_one, ↓exec_bsX, ↓exec_sliceX, ↓exec_copyX, ↓exec_appNil, ↓exec_carryX, Nat.sub_zero, rep_len, lx, ly, bne_self_eq_false]; with_reducible first | exact EqP.at_ | exact EqP.cont | exact EqP.hcont | exact EqP.gate | exact EqP.hgate)) | (refine AW_ift ?_ ?_; focus (simp only [Sm]; done)) | (refine AW_iff ?_ ?_; focus (simp only [Sm]; done))))
  refine AW_mid (fun e fr H' => e = .normal ∧ saI x y n H n fr H') ?_ ?_
  · refine AW_block (AW_up (saI x y n H) n ⟨rfl, stale _ _ rfl⟩ ?_)
    rintro i fr _ hi ⟨rfl, st, rfl⟩
    (repeat (first | with_reducible (first | refine thenQ_n ?_ | refine blockQ_n ?_ | refine thenQ_e ?_ | refine thenQ_r ?_ | refine blockQ_r ?_ | refine blockQ_s ?_ | refine blockQ_o rfl ?_) | refine AW_skip ?_ | refine AW_seq ?_ | refine AW_ops ?_ | refine AW_blockS ?_ | refine AW_blockR ?_ | refine AW_blockD ?_ | refine AW_blockC ?_ | refine AO_nil ?_ | refine AW_draw ?_ | refine AW_draw3 ?_ | refine AW_blockD3 ?_ | (refine AW_drawA ?_; simp only [atBlk, Sm]) | refine AHd_nil ?_ | with_reducible (first | refine AP_at ?_ | refine AHP_at ?_) | (with_reducible (first | apply AO_any | apply AHd_any | apply AP_go | apply AHP_go); focus (simp only [Sm, wantedA, execA, stepA, List.getElem?_cons_zero, List.getElem?_cons_succ, if_true, if_false, binA, binInt, unA, eqA, Option.map, eq_self, reduceCtorEq, ite_true, ite_false, cellsAV, fitsAll, CK.fits, fillA, AV.cells, writeN, sliceCells, appendA, lenA, i64, loA, hiA, Nat.reduceAdd, Nat.reduceMul, Nat.reduceDiv, Nat.reduceSub, Nat.reduceLeDiff, Nat.reduceLT, Int.reduceLE, Int.reduceLT, foldA, maxA, minA, Int.reduceBEq, Int.reduceBNe, Int.reduceGT, Int.reduceGE, Int.reduceEq, Int.reduceNe, Int.reduceToNat, AOp.stops, ↓want_eq, ↓exec_lenX, ↓exec_storeX, ↓exec_storeN, storeN_one, ↓exec_bsX, ↓exec_sliceX, ↓exec_copyX, ↓exec_appNil, ↓exec_carryX, Nat.sub_zero, rep_len]; with_reducible first | exact EqP.at_ | exact EqP.cont | exact EqP.hcont | exact EqP.gate | exact EqP.hgate)) | (refine AW_ift ?_ ?_; focus (simp only [Sm]; done)) | (refine AW_iff ?_ ?_; focus (simp only [Sm]; done))))
    refine AW_cond rfl ?_ ?_ <;> intro ht
    · have ht : (i : Int) < (n : Int) := of_decide_eq_true ht
      have hi2 : i < n := by omega
      obtain ⟨xi, x4, x5, x6⟩ := x3 i hi2
      obtain ⟨yi, y4, y5, y6⟩ := y3 i hi2
      have lxi := x5.len1 W (by rw [W32_length, x6])
      have lyi := y5.len1 W (by rw [W32_length, y6])
      obtain ⟨u, uo, uf, rfl, hu, gu⟩ := x1.get (i := i) (by omega)
      obtain ⟨w, wo, wf, rfl, hw, gw⟩ := y1.get (i := i) (by omega)
      rw [x4] at gu
      rw [y4] at gw
      have tx : (i : Int) < ((xs.length : Nat) : Int) := by omega
      have ty : (i : Int) < ((ys.length : Nat) : Int) := by omega
      (repeat (first | with_reducible (first | refine thenQ_n ?_ | refine blockQ_n ?_ | refine thenQ_e ?_ | refine thenQ_r ?_ | refine blockQ_r ?_ | refine blockQ_s ?_ | refine blockQ_o rfl ?_) | refine AW_skip ?_ | refine AW_seq ?_ | refine AW_ops ?_ | refine AW_blockS ?_ | refine AW_blockR ?_ | refine AW_blockD ?_ | refine AW_blockC ?_ | refine AO_nil ?_ | refine AW_draw ?_ | refine AW_draw3 ?_ | refine AW_blockD3 ?_ | (refine AW_drawA ?_; simp only [atBlk, Sm]) | refine AHd_nil ?_ | with_reducible (first | refine AP_at ?_ | refine AHP_at ?_) | (with_reducible (first | apply AO_any | apply AHd_any | apply AP_go | apply AHP_go); focus (simp only [Sm, wantedA, execA, stepA, List.getElem?_cons_zero, List.getElem?_cons_succ, if_true, if_false, binA, binInt, unA, eqA, Option.map, eq_self, reduceCtorEq, ite_true, ite_false, cellsAV, fitsAll, CK.fits, fillA, AV.cells, writeN, sliceCells, appendA, lenA, i64, loA, hiA, Nat.reduceAdd, Nat.reduceMul, Nat.reduceDiv, Nat.reduceSub, Nat.reduceLeDiff, Nat.reduceLT, Int.reduceLE, Int.reduceLT, foldA, maxA, minA, Int.reduceBEq, Int.reduceBNe, Int.reduceGT, Int.reduceGE, Int.reduceEq, Int.reduceNe, Int.reduceToNat, AOp.stops, ↓want_eq, ↓exec_lenX, ↓exec_storeX, ↓exec_storeN, storeN_one, ↓exec_bsX, ↓exec_sliceX, ↓exec_copyX, ↓exec_appNil, ↓exec_carryX, Nat.sub_zero, rep_len, ht, hu, hw, gu, gw, tx, ty, lxi, lyi, bne_self_eq_false]; with_reducible first | exact EqP.at_ | exact EqP.cont | exact EqP.hcont | exact EqP.gate | exact EqP.hgate)) | (refine AW_ift ?_ ?_; focus (simp only [Sm]; done)) | (refine AW_iff ?_ ?_; focus (simp only [Sm]; done))))
      refine AW_mid (fun e fr H' => e = .normal ∧ sbI24 (.slc u uo xs.length 1) (.slc w wo ys.length 1) n W i H W fr H') ?_ ?_
      · refine AW_block (AW_up (sbI24 (.slc u uo xs.length 1) (.slc w wo ys.length 1) n W i H) W ⟨rfl, stale _ _ rfl⟩ ?_)
        rintro j fr _ hj ⟨rfl, st, rfl⟩
        (repeat (first | with_reducible (first | refine thenQ_n ?_ | refine blockQ_n ?_ | refine thenQ_e ?_ | refine thenQ_r ?_ | refine blockQ_r ?_ | refine blockQ_s ?_ | refine blockQ_o rfl ?_) | refine AW_skip ?_ | refine AW_seq ?_ | refine AW_ops ?_ | refine AW_blockS ?_ | refine AW_blockR ?_ | refine AW_blockD ?_ | refine AW_blockC ?_ | refine AO_nil ?_ | refine AW_draw ?_ | refine AW_draw3 ?_ | refine AW_blockD3 ?_ | (refine AW_drawA ?_; simp only [atBlk, Sm]) | refine AHd_nil ?_ | with_reducible (first | refine AP_at ?_ | refine AHP_at ?_) | (with_reducible (first | apply AO_any | apply AHd_any | apply AP_go | apply AHP_go); focus (simp only [Sm, wantedA, execA, stepA, List.getElem?_cons_zero, List.getElem?_cons_succ, if_true, if_false, binA, binInt, unA, eqA, Option.map, eq_self, reduceCtorEq, ite_true, ite_false, cellsAV, fitsAll, CK.fits, fillA, AV.cells, writeN, sliceCells, appendA, lenA, i64, loA, hiA, Nat.reduceAdd, Nat.reduceMul, Nat.reduceDiv, Nat.reduceSub, Nat.reduceLeDiff, Nat.reduceLT, Int.reduceLE, Int.reduceLT, foldA, maxA, minA, Int.reduceBEq, Int.reduceBNe, Int.reduceGT, Int.reduceGE, Int.reduceEq, Int.reduceNe, Int.reduceToNat, AOp.stops, ↓want_eq, ↓exec_lenX, ↓exec_storeX, ↓exec_storeN, storeN_one, ↓exec_bsX, ↓exec_sliceX, ↓exec_copyX, ↓exec_appNil, ↓exec_carryX, Nat.sub_zero, rep_len]; with_reducible first | exact EqP.at_ | exact EqP.cont | exact EqP.hcont | exact EqP.gate | exact EqP.hgate)) | (refine AW_ift ?_ ?_; focus (simp only [Sm]; done)) | (refine AW_iff ?_ ?_; focus (simp only [Sm]; done))))
        refine AW_cond rfl ?_ ?_ <;> intro ht2
        · have ht2 : (j : Int) < (W : Int) := of_decide_eq_true ht2
          have hj2 : j < W := by omega
          obtain ⟨u', uo', uf', rfl, hu', gu'⟩ := x5.get (i := j) (by rw [W32_length]; omega)
          obtain ⟨w', wo', wf', rfl, hw', gw'⟩ := y5.get (i := j) (by rw [W32_length]; omega)
          rw [W32_get (by omega)] at gu' gw'
          have t3 : (j : Int) < (((W32 (rows.getD i [])).length : Nat) : Int) := by rw [W32_length]; omega
          (repeat (first | with_reducible (first | refine thenQ_n ?_ | refine blockQ_n ?_ | refine thenQ_e ?_ | refine thenQ_r ?_ | refine blockQ_r ?_ | refine blockQ_s ?_ | refine blockQ_o rfl ?_) | refine AW_skip ?_ | refine AW_seq ?_ | refine AW_ops ?_ | refine AW_blockS ?_ | refine AW_blockR ?_ | refine AW_blockD ?_ | refine AW_blockC ?_ | refine AO_nil ?_ | refine AW_draw ?_ | refine AW_draw3 ?_ | refine AW_blockD3 ?_ | (refine AW_drawA ?_; simp only [atBlk, Sm]) | refine AHd_nil ?_ | with_reducible (first | refine AP_at ?_ | refine AHP_at ?_) | (with_reducible (first | apply AO_any | apply AHd_any | apply AP_go | apply AHP_go); focus (simp only [Sm, wantedA, execA, stepA, List.getElem?_cons_zero, List.getElem?_cons_succ, if_true, if_false, binA, binInt, unA, eqA, Option.map, eq_self, reduceCtorEq, ite_true, ite_false, cellsAV, fitsAll, CK.fits, fillA, AV.cells, writeN, sliceCells, appendA, lenA, i64, loA, hiA, Nat.reduceAdd, Nat.reduceMul, Nat.reduceDiv, Nat.reduceSub, Nat.reduceLeDiff, Nat.reduceLT, Int.reduceLE, Int.reduceLT, foldA, maxA, minA, Int.reduceBEq, Int.reduceBNe, Int.reduceGT, Int.reduceGE, Int.reduceEq, Int.reduceNe, Int.reduceToNat, AOp.stops, ↓want_eq, ↓exec_lenX, ↓exec_storeX, ↓exec_storeN, storeN_one, ↓exec_bsX, ↓exec_sliceX, ↓exec_copyX, ↓exec_appNil, ↓exec_carryX, Nat.sub_zero, rep_len, ht2, hu, hw, gu, gw, tx, ty, hu', hw', gu', gw', t3, bne_self_eq_false, i64_succ (show j < 9223372036854775807 by omega)]; with_reducible first | exact EqP.at_ | exact EqP.cont | exact EqP.hcont | exact EqP.gate | exact EqP.hgate)) | (refine AW_ift ?_ ?_; focus (simp only [Sm]; done)) | (refine AW_iff ?_ ?_; focus (simp only [Sm]; done))))
          exact ⟨hj2, rfl, stale _ _ rfl⟩
        · obtain rfl : j = W := by have : ¬ (j : Int) < (W : Int) := of_decide_eq_false ht2; omega
          exact AW_exit ⟨rfl, rfl, stale _ _ rfl⟩
      rintro e fr _ ⟨rfl, rfl, st, rfl⟩
      (repeat (first | with_reducible (first | refine thenQ_n ?_ | refine blockQ_n ?_ | refine thenQ_e ?_ | refine thenQ_r ?_ | refine blockQ_r ?_ | refine blockQ_s ?_ | refine blockQ_o rfl ?_) | refine AW_skip ?_ | refine AW_seq ?_ | refine AW_ops ?_ | refine AW_blockS ?_ | refine AW_blockR ?_ | refine AW_blockD ?_ | refine AW_blockC ?_ | refine AO_nil ?_ | refine AW_draw ?_ | refine AW_draw3 ?_ | refine AW_blockD3 ?_ | (refine AW_drawA ?_; simp only [atBlk, Sm]) | refine AHd_nil ?_ | with_reducible (first | refine AP_at ?_ | refine AHP_at ?_) | (with_reducible (first | apply AO_any | apply AHd_any | apply AP_go | apply AHP_go); focus (simp only [Sm, wantedA, execA, stepA, List.getElem?_cons_zero, List.getElem?_cons_succ, if_true, if_false, binA, binInt, unA, eqA, Option.map, eq_self, reduceCtorEq, ite_true, ite_false, cellsAV, fitsAll, CK.fits, fillA, AV.cells, writeN, sliceCells, appendA, lenA, i64, loA, hiA, Nat.reduceAdd, Nat.reduceMul, Nat.reduceDiv, Nat.reduceSub, Nat.reduceLeDiff, Nat.reduceLT, Int.reduceLE, Int.reduceLT, foldA, maxA, minA, Int.reduceBEq, Int.reduceBNe, Int.reduceGT, Int.reduceGE, Int.reduceEq, Int.reduceNe, Int.reduceToNat, AOp.stops, ↓want_eq, ↓exec_lenX, ↓exec_storeX, ↓exec_storeN, storeN_one, ↓exec_bsX, ↓exec_sliceX, ↓exec_copyX, ↓exec_appNil, ↓exec_carryX, Nat.sub_zero, rep_len, i64_succ (show i < 9223372036854775807 by omega)]; with_reducible first | exact EqP.at_ | exact EqP.cont | exact EqP.hcont | exact EqP.gate | exact EqP.hgate)) | (refine AW_ift ?_ ?_; focus (simp only [Sm]; done)) | (refine AW_iff ?_ ?_; focus (simp only [Sm]; done))))
      exact ⟨hi2, rfl, stale _ _ rfl⟩
    · obtain rfl : i = n := by have : ¬ (i : Int) < (n : Int) := of_decide_eq_false ht; omega
      exact AW_exit ⟨rfl, rfl, stale _ _ rfl⟩
  rintro e fr _ ⟨rfl, rfl, st, rfl⟩
  (repeat (first | with_reducible (first | refine thenQ_n ?_ | refine blockQ_n ?_ | refine thenQ_e ?_ | refine thenQ_r ?_ | refine blockQ_r ?_ | refine blockQ_s ?_ | refine blockQ_o rfl ?_) | refine AW_skip ?_ | refine AW_seq ?_ | refine AW_ops ?_ | refine AW_blockS ?_ | refine AW_blockR ?_ | refine AW_blockD ?_ | refine AW_blockC ?_ | refine AO_nil ?_ | refine AW_draw ?_ | refine AW_draw3 ?_ | refine AW_blockD3 ?_ | (refine AW_drawA ?_; simp only [atBlk, Sm]) | refine AHd_nil ?_ | with_reducible (first | refine AP_at ?_ | refine AHP_at ?_) | (with_reducible (first | apply AO_any | apply AHd_any | apply AP_go | apply AHP_go); focus (simp only [Sm, wantedA, execA, stepA, List.getElem?_cons_zero, List.getElem?_cons_succ, if_true, if_false, binA, binInt, unA, eqA, Option.map, eq_self, reduceCtorEq, ite_true, ite_false, cellsAV, fitsAll, CK.fits, fillA, AV.cells, writeN, sliceCells, appendA, lenA, i64, loA, hiA, Nat.reduceAdd, Nat.reduceMul, Nat.reduceDiv, Nat.reduceSub, Nat.reduceLeDiff, Nat.reduceLT, Int.reduceLE, Int.reduceLT, foldA, maxA, minA, Int.reduceBEq, Int.reduceBNe, Int.reduceGT, Int.reduceGE, Int.reduceEq, Int.reduceNe, Int.reduceToNat, AOp.stops, ↓want_eq, ↓exec_lenX, ↓exec_storeX, ↓exec_storeN, storeN_one, ↓exec_bsX, ↓exec_sliceX, ↓exec_copyX, ↓exec_appNil, ↓exec_carryX, Nat.sub_zero, rep_len]; with_reducible first | exact EqP.at_ | exact EqP.cont | exact EqP.hcont | exact EqP.gate | exact EqP.hgate)) | (refine AW_ift ?_ ?_; focus (simp only [Sm]; done)) | (refine AW_iff ?_ ?_; focus (simp only [Sm]; done))))
  exact AW_ret ⟨_, rfl, rfl, rfl⟩

theorem u32_ex (z : Int) : ∃ v : Nat, IntKind.u32.wrap z = (v : Int) ∧ v < 4294967296 := by
  refine ⟨(z % 4294967296).toNat, ?_, by omega⟩
  show z % 4294967296 = _
  omega

def taI24 (y : Cell) (so p a q n r R : Nat) (H0 : AHeap) (i : Nat) (fr : AFrame) (H : AHeap) : Prop := Kept H0.length H0 H ∧ (∃ ws, StoreAt H so p a q n r R true ws) ∧ (∃ s : Nat → AV, fr = [s 0, .c (.int .i64 (r : Int)), .c y, s 3, s 4, s 5, s 6, s 7, s 8, s 9, s 10, s 11, .c (.ptr so 0), s 13, s 14, s 15, s 16, s 17, s 18, s 19, s 20, s 21, s 22, s 23, s 24, s 25, s 26, s 27, s 28, s 29, s 30, s 31, s 32, s 33, s 34, s 35, s 36, s 37, .c (.int .i64 (R : Int)), .c (.int .i64 (i : Int)), s 40, s 41, s 42, s 43, s 44, s 45, s 46, s 47, s 48, s 49, s 50, s 51, s 52, s 53, s 54, s 55, s 56, s 57, s 58, s 59, s 60, s 61, s 62, s 63, s 64, s 65, s 66, s 67, s 68, s 69, s 70, s 71, s 72, s 73, s 74, s 75, s 76])

def tbI24 (y : Cell) (so r R i b : Nat) (H0 : AHeap) (j : Nat) (fr : AFrame) (H : AHeap) : Prop := Chg (· = b) H0 H ∧ (∃ l, Row r l ∧ hown H b = some (W32 l)) ∧ (∃ s : Nat → AV, fr = [s 0, .c (.int .i64 (r : Int)), .c y, s 3, s 4, s 5, s 6, s 7, s 8, s 9, s 10, s 11, .c (.ptr so 0), s 13, .c (.int .i64 (i : Int)), .c (.slc b 0 (32 * r) 1), s 16, s 17, s 18, s 19, s 20, s 21, s 22, s 23, s 24, s 25, s 26, s 27, s 28, s 29, s 30, s 31, s 32, s 33, s 34, s 35, s 36, s 37, .c (.int .i64 (R : Int)), .c (.int .i64 (i : Int)), s 40, s 41, s 42, s 43, s 44, s 45, .c (.int .i64 ((32 * r : Nat) : Int)), .c (.int .i64 (j : Int)), s 48, s 49, s 50, s 51, s 52, s 53, s 54, s 55, s 56, s 57, s 58, s 59, s 60, s 61, s 62, s 63, s 64, s 65, s 66, s 67, s 68, s 69, s 70, s 71, s 72, s 73, s 74, s 75, s 76])
def NewStore (f : Nat) (H : AHeap) (so n r : Nat) : Prop := f ≤ so ∧ ∃ p a q ws, f ≤ p ∧ f ≤ a ∧ f ≤ q ∧ StoreAt H so p a q n r (n * 256 / (32 * r)) true ws
theorem AC_store24 (H : AHeap) (y : Cell) (n r : Nat) (ls : List Nat) (hy : Rd H y 1 (W32 ls)) (hn : n ≤ 12) (hr1 : 1 ≤ r) (hr2 : r ≤ 512) (hl : ls.length ≤ 600) (hw : ∀ k, ls.getD k 0 < 4294967296) :
    AC A H.length F_pestlelaw24_store [.c (.int .i64 (n : Int)), .c (.int .i64 (r : Int)), .c y] H (fun v H' => ∃ so, v = .tup [.c (.ptr so 0), .c (.int .i64 0)] ∧ NewStore H.length H' so n r) := by
  have yl : (W32 ls).length = ls.length := W32_length
  have e1 : IntKind.i64.wrap (32 * (r : Int)) = ((32 * r : Nat) : Int) := by rw [i64_of (by omega) (by omega)]; omega
  refine AC_enter t_pestlelaw24_store ?_; simp only [c_pestlelaw24_store, enterA, List.replicate, List.length_cons, List.length_nil, Nat.reduceAdd, Nat.reduceSub, List.cons_append, List.nil_append]
  (repeat (first | with_reducible (first | refine thenQ_n ?_ | refine blockQ_n ?_ | refine thenQ_e ?_ | refine thenQ_r ?_ | refine blockQ_r ?_ | refine blockQ_s ?_ | refine blockQ_o rfl ?_) | refine AW_skip ?_ | refine AW_seq ?_ | refine AW_ops ?_ | refine AW_blockS ?_ | refine AW_blockR ?_ | refine AW_blockD ?_ | refine AW_blockC ?_ | refine AO_nil ?_ | refine AW_draw ?_ | refine AW_draw3 ?_ | refine AW_blockD3 ?_ | (refine AW_drawA ?_; simp only [atBlk, Sm]) | refine AHd_nil ?_ | with_reducible (first | refine AP_at ?_ | refine AHP_at ?_) | (with_reducible (first | apply AO_any | apply AHd_any | apply AP_go | apply AHP_go); focus (simp only [Sm, wantedA, execA, stepA, List.getElem?_cons_zero, List.getElem?_cons_succ, if_true, if_false, binA, binInt, unA, eqA, Option.map, eq_self, reduceCtorEq, ite_true, ite_false, cellsAV, fitsAll, CK.fits, fillA, AV.cells, writeN, sliceCells, appendA, lenA, i64, loA, hiA, Nat.reduceAdd, Nat.reduceMul, Nat.reduceDiv, Nat.reduceSub, Nat.reduceLeDiff, Nat.reduceLT, Int.reduceLE, Int.reduceLT, foldA, maxA, minA, Int.reduceBEq, Int.reduceBNe, Int.reduceGT, Int.reduceGE, Int.reduceEq, Int.reduceNe, Int.reduceToNat, AOp.stops, ↓want_eq, ↓exec_lenX, ↓exec_storeX, ↓exec_storeN, storeN_one, ↓exec_bsX, ↓exec_sliceX, ↓exec_copyX, ↓exec_appNil, ↓exec_carryX, Nat.sub_zero, rep_len]; with_reducible first | exact EqP.at_ | exact EqP.cont | exact EqP.hcont | exact EqP.gate | exact EqP.hgate)) | (refine AW_ift ?_ ?_; focus (simp only [Sm]; done)) | (refine AW_iff ?_ ?_; focus (simp only [Sm]; done))))
  refine AO_call rfl (AC_arNew H.length H n (by omega)) ?_
  rintro _ _ ⟨rfl, rfl⟩
  (repeat (first | with_reducible (first | refine thenQ_n ?_ | refine blockQ_n ?_ | refine thenQ_e ?_ | refine thenQ_r ?_ | refine blockQ_r ?_ | refine blockQ_s ?_ | refine blockQ_o rfl ?_) | refine AW_skip ?_ | refine AW_seq ?_ | refine AW_ops ?_ | refine AW_blockS ?_ | refine AW_blockR ?_ | refine AW_blockD ?_ | refine AW_blockC ?_ | refine AO_nil ?_ | refine AW_draw ?_ | refine AW_draw3 ?_ | refine AW_blockD3 ?_ | (refine AW_drawA ?_; simp only [atBlk, Sm]) | refine AHd_nil ?_ | with_reducible (first | refine AP_at ?_ | refine AHP_at ?_) | (with_reducible (first | apply AO_any | apply AHd_any | apply AP_go | apply AHP_go); focus (simp only [Sm, wantedA, execA, stepA, List.getElem?_cons_zero, List.getElem?_cons_succ, if_true, if_false, binA, binInt, unA, eqA, Option.map, eq_self, reduceCtorEq, ite_true, ite_false, cellsAV, fitsAll, CK.fits, fillA, AV.cells, writeN, sliceCells, appendA, lenA, i64, loA, hiA, Nat.reduceAdd, Nat.reduceMul, Nat.reduceDiv, Nat.reduceSub, Nat.reduceLeDiff, Nat.reduceLT, Int.reduceLE, Int.reduceLT, foldA, maxA, minA, Int.reduceBEq, Int.reduceBNe, Int.reduceGT, Int.reduceGE, Int.reduceEq, Int.reduceNe, Int.reduceToNat, AOp.stops, ↓want_eq, ↓exec_lenX, ↓exec_storeX, ↓exec_storeN, storeN_one, ↓exec_bsX, ↓exec_sliceX, ↓exec_copyX, ↓exec_appNil, ↓exec_carryX, Nat.sub_zero, rep_len]; with_reducible first | exact EqP.at_ | exact EqP.cont | exact EqP.hcont | exact EqP.gate | exact EqP.hgate)) | (refine AW_ift ?_ ?_; focus (simp only [Sm]; done)) | (refine AW_iff ?_ ?_; focus (simp only [Sm]; done))))
  have oa : hown (H ++ [Blk.own (arC n 0 0 0)]) H.length = some (arC n 0 0 0) := hown_last
  have k1 := Kept.push H.length H [Blk.own (arC n 0 0 0)]
  have l1 : (H ++ [Blk.own (arC n 0 0 0)]).length = H.length + 1 := by simp
  generalize H ++ [Blk.own (arC n 0 0 0)] = H1 at *
  refine AO_call rfl (AC_arReserve H.length H1 H.length n 0 0 0 n oa (Nat.le_refl _) (by omega) (by omega) (by omega) (by omega) (by omega) (by omega)) ?_
  rintro _ H2 ⟨rfl, p2, oa2, c2, l2⟩
  have k2 : Kept H.length H H2 := k1.trans ⟨c2.1, fun b hb hb2 => c2.2 b hb2 (by omega)⟩
  (repeat (first | with_reducible (first | refine thenQ_n ?_ | refine blockQ_n ?_ | refine thenQ_e ?_ | refine thenQ_r ?_ | refine blockQ_r ?_ | refine blockQ_s ?_ | refine blockQ_o rfl ?_) | refine AW_skip ?_ | refine AW_seq ?_ | refine AW_ops ?_ | refine AW_blockS ?_ | refine AW_blockR ?_ | refine AW_blockD ?_ | refine AW_blockC ?_ | refine AO_nil ?_ | refine AW_draw ?_ | refine AW_draw3 ?_ | refine AW_blockD3 ?_ | (refine AW_drawA ?_; simp only [atBlk, Sm]) | refine AHd_nil ?_ | with_reducible (first | refine AP_at ?_ | refine AHP_at ?_) | (with_reducible (first | apply AO_any | apply AHd_any | apply AP_go | apply AHP_go); focus (simp only [Sm, wantedA, execA, stepA, List.getElem?_cons_zero, List.getElem?_cons_succ, if_true, if_false, binA, binInt, unA, eqA, Option.map, eq_self, reduceCtorEq, ite_true, ite_false, cellsAV, fitsAll, CK.fits, fillA, AV.cells, writeN, sliceCells, appendA, lenA, i64, loA, hiA, Nat.reduceAdd, Nat.reduceMul, Nat.reduceDiv, Nat.reduceSub, Nat.reduceLeDiff, Nat.reduceLT, Int.reduceLE, Int.reduceLT, foldA, maxA, minA, Int.reduceBEq, Int.reduceBNe, Int.reduceGT, Int.reduceGE, Int.reduceEq, Int.reduceNe, Int.reduceToNat, AOp.stops, ↓want_eq, ↓exec_lenX, ↓exec_storeX, ↓exec_storeN, storeN_one, ↓exec_bsX, ↓exec_sliceX, ↓exec_copyX, ↓exec_appNil, ↓exec_carryX, Nat.sub_zero, rep_len]; with_reducible first | exact EqP.at_ | exact EqP.cont | exact EqP.hcont | exact EqP.gate | exact EqP.hgate)) | (refine AW_ift ?_ ?_; focus (simp only [Sm]; done)) | (refine AW_iff ?_ ?_; focus (simp only [Sm]; done))))
  have hz : W64 (pk (List.replicate (n * 256) 0) n) = zB n := by
    have hg : ∀ k, (List.replicate (n * 256) 0).getD k 0 = 0 := fun k => by
      rw [List.getD_eq_getElem?_getD, List.getElem?_replicate]; split <;> rfl
    have : pk (List.replicate (n * 256) 0) n = List.replicate (n * 128) 0 := by
      apply List.ext_getElem (by rw [pk_length, List.length_replicate])
      intro i h1 h2
      simp only [pk, List.getElem_map, hg, List.getElem_replicate]
    rw [this, W64, zB, List.map_replicate]; rfl
  rw [← hz] at p2
  refine AO_call rfl ((AC_roNew H.length H2 (H1.length + 1) H.length H1.length n r true (List.replicate (n * 256) 0) p2 (by simp) (fun k => by rw [List.getD_eq_getElem?_getD, List.getElem?_replicate]; split <;> decide) hr1 hr2 (by omega) (by omega))) ?_
  rintro _ H3 ⟨rfl, h3, k3, l3⟩
  have k3' : Kept H.length H H3 := k2.trans (k3.mono (by omega))
  (repeat (first | with_reducible (first | refine thenQ_n ?_ | refine blockQ_n ?_ | refine thenQ_e ?_ | refine thenQ_r ?_ | refine blockQ_r ?_ | refine blockQ_s ?_ | refine blockQ_o rfl ?_) | refine AW_skip ?_ | refine AW_seq ?_ | refine AW_ops ?_ | refine AW_blockS ?_ | refine AW_blockR ?_ | refine AW_blockD ?_ | refine AW_blockC ?_ | refine AO_nil ?_ | refine AW_draw ?_ | refine AW_draw3 ?_ | refine AW_blockD3 ?_ | (refine AW_drawA ?_; simp only [atBlk, Sm]) | refine AHd_nil ?_ | with_reducible (first | refine AP_at ?_ | refine AHP_at ?_) | (with_reducible (first | apply AO_any | apply AHd_any | apply AP_go | apply AHP_go); focus (simp only [Sm, wantedA, execA, stepA, List.getElem?_cons_zero, List.getElem?_cons_succ, if_true, if_false, binA, binInt, unA, eqA, Option.map, eq_self, reduceCtorEq, ite_true, ite_false, cellsAV, fitsAll, CK.fits, fillA, AV.cells, writeN, sliceCells, appendA, lenA, i64, loA, hiA, Nat.reduceAdd, Nat.reduceMul, Nat.reduceDiv, Nat.reduceSub, Nat.reduceLeDiff, Nat.reduceLT, Int.reduceLE, Int.reduceLT, foldA, maxA, minA, Int.reduceBEq, Int.reduceBNe, Int.reduceGT, Int.reduceGE, Int.reduceEq, Int.reduceNe, Int.reduceToNat, AOp.stops, ↓want_eq, ↓exec_lenX, ↓exec_storeX, ↓exec_storeN, storeN_one, ↓exec_bsX, ↓exec_sliceX, ↓exec_copyX, ↓exec_appNil, ↓exec_carryX, Nat.sub_zero, rep_len]; with_reducible first | exact EqP.at_ | exact EqP.cont | exact EqP.hcont | exact EqP.gate | exact EqP.hgate)) | (refine AW_ift ?_ ?_; focus (simp only [Sm]; done)) | (refine AW_iff ?_ ?_; focus (simp only [Sm]; done))))
  refine AO_call rfl (AC_roRows H.length H3 h3) ?_
  rintro _ _ ⟨rfl, rfl⟩
  have hRb : n * 256 / (32 * r) ≤ 3072 := Nat.le_trans (Nat.div_le_self _ _) (by omega)
  have lo : H.length ≤ H2.length := by omega
  obtain ⟨ws3, h3⟩ : ∃ ws, StoreAt H3 H2.length (H1.length + 1) H.length H1.length n r (n * 256 / (32 * r)) true ws := ⟨_, h3⟩
  generalize hRd : n * 256 / (32 * r) = R at *
  (repeat (first | with_reducible (first | refine thenQ_n ?_ | refine blockQ_n ?_ | refine thenQ_e ?_ | refine thenQ_r ?_ | refine blockQ_r ?_ | refine blockQ_s ?_ | refine blockQ_o rfl ?_) | refine AW_skip ?_ | refine AW_seq ?_ | refine AW_ops ?_ | refine AW_blockS ?_ | refine AW_blockR ?_ | refine AW_blockD ?_ | refine AW_blockC ?_ | refine AO_nil ?_ | refine AW_draw ?_ | refine AW_draw3 ?_ | refine AW_blockD3 ?_ | (refine AW_drawA ?_; simp only [atBlk, Sm]) | refine AHd_nil ?_ | with_reducible (first | refine AP_at ?_ | refine AHP_at ?_) | (with_reducible (first | apply AO_any | apply AHd_any | apply AP_go | apply AHP_go); focus (simp only [Sm, wantedA, execA, stepA, List.getElem?_cons_zero, List.getElem?_cons_succ, if_true, if_false, binA, binInt, unA, eqA, Option.map, eq_self, reduceCtorEq, ite_true, ite_false, cellsAV, fitsAll, CK.fits, fillA, AV.cells, writeN, sliceCells, appendA, lenA, i64, loA, hiA, Nat.reduceAdd, Nat.reduceMul, Nat.reduceDiv, Nat.reduceSub, Nat.reduceLeDiff, Nat.reduceLT, Int.reduceLE, Int.reduceLT, foldA, maxA, minA, Int.reduceBEq, Int.reduceBNe, Int.reduceGT, Int.reduceGE, Int.reduceEq, Int.reduceNe, Int.reduceToNat, AOp.stops, ↓want_eq, ↓exec_lenX, ↓exec_storeX, ↓exec_storeN, storeN_one, ↓exec_bsX, ↓exec_sliceX, ↓exec_copyX, ↓exec_appNil, ↓exec_carryX, Nat.sub_zero, rep_len]; with_reducible first | exact EqP.at_ | exact EqP.cont | exact EqP.hcont | exact EqP.gate | exact EqP.hgate)) | (refine AW_ift ?_ ?_; focus (simp only [Sm]; done)) | (refine AW_iff ?_ ?_; focus (simp only [Sm]; done))))
  refine AW_mid (fun e fr H' => e = .normal ∧ taI24 y H2.length (H1.length + 1) H.length H1.length n r R H R fr H') ?_ ?_
  · refine AW_block (AW_up (taI24 y H2.length (H1.length + 1) H.length H1.length n r R H) R ⟨k3', ⟨ws3, h3⟩, stale _ _ rfl⟩ ?_)
    rintro i fr H4 hi ⟨k4, ⟨ws4, h4⟩, st, rfl⟩
    have l4 := k4.1
    (repeat (first | with_reducible (first | refine thenQ_n ?_ | refine blockQ_n ?_ | refine thenQ_e ?_ | refine thenQ_r ?_ | refine blockQ_r ?_ | refine blockQ_s ?_ | refine blockQ_o rfl ?_) | refine AW_skip ?_ | refine AW_seq ?_ | refine AW_ops ?_ | refine AW_blockS ?_ | refine AW_blockR ?_ | refine AW_blockD ?_ | refine AW_blockC ?_ | refine AO_nil ?_ | refine AW_draw ?_ | refine AW_draw3 ?_ | refine AW_blockD3 ?_ | (refine AW_drawA ?_; simp only [atBlk, Sm]) | refine AHd_nil ?_ | with_reducible (first | refine AP_at ?_ | refine AHP_at ?_) | (with_reducible (first | apply AO_any | apply AHd_any | apply AP_go | apply AHP_go); focus (simp only [Sm, wantedA, execA, stepA, List.getElem?_cons_zero, List.getElem?_cons_succ, if_true, if_false, binA, binInt, unA, eqA, Option.map, eq_self, reduceCtorEq, ite_true, ite_false, cellsAV, fitsAll, CK.fits, fillA, AV.cells, writeN, sliceCells, appendA, lenA, i64, loA, hiA, Nat.reduceAdd, Nat.reduceMul, Nat.reduceDiv, Nat.reduceSub, Nat.reduceLeDiff, Nat.reduceLT, Int.reduceLE, Int.reduceLT, foldA, maxA, minA, Int.reduceBEq, Int.reduceBNe, Int.reduceGT, Int.reduceGE, Int.reduceEq, Int.reduceNe, Int.reduceToNat, AOp.stops, ↓want_eq, ↓exec_lenX, ↓exec_storeX, ↓exec_storeN, storeN_one, ↓exec_bsX, ↓exec_sliceX, ↓exec_copyX, ↓exec_appNil, ↓exec_carryX, Nat.sub_zero, rep_len]; with_reducible first | exact EqP.at_ | exact EqP.cont | exact EqP.hcont | exact EqP.gate | exact EqP.hgate)) | (refine AW_ift ?_ ?_; focus (simp only [Sm]; done)) | (refine AW_iff ?_ ?_; focus (simp only [Sm]; done))))
    refine AW_cond rfl ?_ ?_ <;> intro ht
    · have ht : (i : Int) < (R : Int) := of_decide_eq_true ht
      have hi2 : i < R := by omega
      have b1 : (0 : Int) ≤ ((32 * r : Nat) : Int) := by omega
      have b2 : ((32 * r : Nat) : Int) * (4 : Nat) ≤ 140737488355328 := by omega
      have b2' : ((32 * r : Nat) : Int) * 4 ≤ 140737488355328 := by omega
      have hz := zeros32 (32 * r)
      have o5 : hown (H4 ++ [Blk.own (W32 (List.replicate (32 * r) 0))]) H4.length = some (W32 (List.replicate (32 * r) 0)) := hown_last
      have k5 := Kept.push H4.length H4 [Blk.own (W32 (List.replicate (32 * r) 0))]
      have l5 : (H4 ++ [Blk.own (W32 (List.replicate (32 * r) 0))]).length = H4.length + 1 := by simp
      have ly : lenX (H4 ++ [Blk.own (W32 (List.replicate (32 * r) 0))]) (.c (.slc H4.length 0 (32 * r) 1)) = some (.c (.int .i64 ((32 * r : Nat) : Int)), H4 ++ [Blk.own (W32 (List.replicate (32 * r) 0))]) := (Rd.all (hcells_own o5) (by rw [W32_length]; simp)).len (32 * r) (by rw [W32_length]; simp) (by decide)
      have hrow0 : Row r (List.replicate (32 * r) 0) := ⟨by simp, hr1, hr2, fun k => by rw [List.getD_eq_getElem?_getD, List.getElem?_replicate]; split <;> decide⟩
      (repeat (first | with_reducible (first | refine thenQ_n ?_ | refine blockQ_n ?_ | refine thenQ_e ?_ | refine thenQ_r ?_ | refine blockQ_r ?_ | refine blockQ_s ?_ | refine blockQ_o rfl ?_) | refine AW_skip ?_ | refine AW_seq ?_ | refine AW_ops ?_ | refine AW_blockS ?_ | refine AW_blockR ?_ | refine AW_blockD ?_ | refine AW_blockC ?_ | refine AO_nil ?_ | refine AW_draw ?_ | refine AW_draw3 ?_ | refine AW_blockD3 ?_ | (refine AW_drawA ?_; simp only [atBlk, Sm]) | refine AHd_nil ?_ | with_reducible (first | refine AP_at ?_ | refine AHP_at ?_) | (with_reducible (first | apply AO_any | apply AHd_any | apply AP_go | apply AHP_go); focus (simp only [Sm, wantedA, execA, stepA, List.getElem?_cons_zero, List.getElem?_cons_succ, if_true, if_false, binA, binInt, unA, eqA, Option.map, eq_self, reduceCtorEq, ite_true, ite_false, cellsAV, fitsAll, CK.fits, fillA, AV.cells, writeN, sliceCells, appendA, lenA, i64, loA, hiA, Nat.reduceAdd, Nat.reduceMul, Nat.reduceDiv, Nat.reduceSub, Nat.reduceLeDiff, Nat.reduceLT, Int.reduceLE, Int.reduceLT, foldA, maxA, minA, Int.reduceBEq, Int.reduceBNe, Int.reduceGT, Int.reduceGE, Int.reduceEq, Int.reduceNe, Int.reduceToNat, AOp.stops, ↓want_eq, ↓exec_lenX, ↓exec_storeX, ↓exec_storeN, storeN_one, ↓exec_bsX, ↓exec_sliceX, ↓exec_copyX, ↓exec_appNil, ↓exec_carryX, Nat.sub_zero, rep_len, ht, e1, b1, b2, b2', Int.le_refl, hz, Int.toNat_natCast, ly]; with_reducible first | exact EqP.at_ | exact EqP.cont | exact EqP.hcont | exact EqP.gate | exact EqP.hgate)) | (refine AW_ift ?_ ?_; focus (simp only [Sm]; done)) | (refine AW_iff ?_ ?_; focus (simp only [Sm]; done))))
      have hy5 := (hy.kept (k4.trans (k5.mono (by omega))))
      have h5 := h4.kept k5
      generalize H4 ++ [Blk.own (W32 (List.replicate (32 * r) 0))] = H5 at *
      have s4 := hown_lt h4.own; have q4 := hown_lt h4.pc.own; have z4 := hown_lt h4.pc.blk
      refine AW_mid (fun e fr H' => e = .normal ∧ tbI24 y H2.length r R i H4.length H5 (32 * r) fr H') ?_ ?_
      · refine AW_block (AW_up (tbI24 y H2.length r R i H4.length H5) (32 * r) ⟨Chg.refl _ _, ⟨_, hrow0, o5⟩, stale _ _ rfl⟩ ?_)
        rintro j fr H6 hj ⟨c6, ⟨l, rl, g6⟩, st, rfl⟩
        (repeat (first | with_reducible (first | refine thenQ_n ?_ | refine blockQ_n ?_ | refine thenQ_e ?_ | refine thenQ_r ?_ | refine blockQ_r ?_ | refine blockQ_s ?_ | refine blockQ_o rfl ?_) | refine AW_skip ?_ | refine AW_seq ?_ | refine AW_ops ?_ | refine AW_blockS ?_ | refine AW_blockR ?_ | refine AW_blockD ?_ | refine AW_blockC ?_ | refine AO_nil ?_ | refine AW_draw ?_ | refine AW_draw3 ?_ | refine AW_blockD3 ?_ | (refine AW_drawA ?_; simp only [atBlk, Sm]) | refine AHd_nil ?_ | with_reducible (first | refine AP_at ?_ | refine AHP_at ?_) | (with_reducible (first | apply AO_any | apply AHd_any | apply AP_go | apply AHP_go); focus (simp only [Sm, wantedA, execA, stepA, List.getElem?_cons_zero, List.getElem?_cons_succ, if_true, if_false, binA, binInt, unA, eqA, Option.map, eq_self, reduceCtorEq, ite_true, ite_false, cellsAV, fitsAll, CK.fits, fillA, AV.cells, writeN, sliceCells, appendA, lenA, i64, loA, hiA, Nat.reduceAdd, Nat.reduceMul, Nat.reduceDiv, Nat.reduceSub, Nat.reduceLeDiff, Nat.reduceLT, Int.reduceLE, Int.reduceLT, foldA, maxA, minA, Int.reduceBEq, Int.reduceBNe, Int.reduceGT, Int.reduceGE, Int.reduceEq, Int.reduceNe, Int.reduceToNat, AOp.stops, ↓want_eq, ↓exec_lenX, ↓exec_storeX, ↓exec_storeN, storeN_one, ↓exec_bsX, ↓exec_sliceX, ↓exec_copyX, ↓exec_appNil, ↓exec_carryX, Nat.sub_zero, rep_len]; with_reducible first | exact EqP.at_ | exact EqP.cont | exact EqP.hcont | exact EqP.gate | exact EqP.hgate)) | (refine AW_ift ?_ ?_; focus (simp only [Sm]; done)) | (refine AW_iff ?_ ?_; focus (simp only [Sm]; done))))
        refine AW_cond rfl ?_ ?_ <;> intro ht6
        · have ht6 : (j : Int) < ((32 * r : Nat) : Int) := of_decide_eq_true ht6
          have hj2 : j < 32 * r := by omega
          have hy6 : Rd H6 y 1 (W32 ls) := hy5.chg c6 (fun b hb e => by have := hy.lt hb; omega)
          rcases Nat.eq_zero_or_pos ls.length with h0 | h0
          · (repeat (first | with_reducible (first | refine thenQ_n ?_ | refine blockQ_n ?_ | refine thenQ_e ?_ | refine thenQ_r ?_ | refine blockQ_r ?_ | refine blockQ_s ?_ | refine blockQ_o rfl ?_) | refine AW_skip ?_ | refine AW_seq ?_ | refine AW_ops ?_ | refine AW_blockS ?_ | refine AW_blockR ?_ | refine AW_blockD ?_ | refine AW_blockC ?_ | refine AO_nil ?_ | refine AW_draw ?_ | refine AW_draw3 ?_ | refine AW_blockD3 ?_ | (refine AW_drawA ?_; simp only [atBlk, Sm]) | refine AHd_nil ?_ | with_reducible (first | refine AP_at ?_ | refine AHP_at ?_) | (with_reducible (first | apply AO_any | apply AHd_any | apply AP_go | apply AHP_go); focus (simp only [Sm, wantedA, execA, stepA, List.getElem?_cons_zero, List.getElem?_cons_succ, if_true, if_false, binA, binInt, unA, eqA, Option.map, eq_self, reduceCtorEq, ite_true, ite_false, cellsAV, fitsAll, CK.fits, fillA, AV.cells, writeN, sliceCells, appendA, lenA, i64, loA, hiA, Nat.reduceAdd, Nat.reduceMul, Nat.reduceDiv, Nat.reduceSub, Nat.reduceLeDiff, Nat.reduceLT, Int.reduceLE, Int.reduceLT, foldA, maxA, minA, Int.reduceBEq, Int.reduceBNe, Int.reduceGT, Int.reduceGE, Int.reduceEq, Int.reduceNe, Int.reduceToNat, AOp.stops, ↓want_eq, ↓exec_lenX, ↓exec_storeX, ↓exec_storeN, storeN_one, ↓exec_bsX, ↓exec_sliceX, ↓exec_copyX, ↓exec_appNil, ↓exec_carryX, Nat.sub_zero, rep_len, ht6, hy6.len1 _ yl, decide_eq_false (show ¬ ((ls.length : Nat) : Int) > 0 by omega), i64_succ (show j < 9223372036854775807 by omega)]; with_reducible first | exact EqP.at_ | exact EqP.cont | exact EqP.hcont | exact EqP.gate | exact EqP.hgate)) | (refine AW_ift ?_ ?_; focus (simp only [Sm]; done)) | (refine AW_iff ?_ ?_; focus (simp only [Sm]; done))))
            exact ⟨hj2, c6, ⟨l, rl, g6⟩, stale _ _ rfl⟩
          · have f1 : IntKind.i64.wrap ((i : Int) + (j : Int)) = ((i + j : Nat) : Int) := i64_add (by omega)
            have f2 : ¬ ((ls.length : Nat) : Int) = 0 := by omega
            have f3 : Int.tmod ((i + j : Nat) : Int) ((ls.length : Nat) : Int) = (((i + j) % ls.length : Nat) : Int) := tmod_nat
            have hlt := Nat.mod_lt (i + j) h0
            obtain ⟨u, uo, uf, rfl, hu, gu⟩ := hy6.get (i := (i + j) % ls.length) (by omega)
            rw [W32_get (by omega)] at gu
            have f4 : (((i + j) % ls.length : Nat) : Int) < (((W32 ls).length : Nat) : Int) := by rw [yl]; omega
            obtain ⟨v1, f5, f6⟩ := u32_ex (IntKind.i64.wrap ((j : Int) * (i : Int)))
            obtain ⟨v2, f7, f8⟩ := u32_ex (((ls.getD ((i + j) % ls.length) 0 : Nat) : Int) + (v1 : Int))
            obtain ⟨H7, s7, o7, c7, l7⟩ := storeX_ex (fl := H.length) (o := j) g6 (by omega) (by rw [W32_length, rl.len]; exact hj2) (.int .u32 (v2 : Int))
            have rl' : (W32 l).length = 32 * r := by rw [W32_length, rl.len]
            (repeat (first | with_reducible (first | refine thenQ_n ?_ | refine blockQ_n ?_ | refine thenQ_e ?_ | refine thenQ_r ?_ | refine blockQ_r ?_ | refine blockQ_s ?_ | refine blockQ_o rfl ?_) | refine AW_skip ?_ | refine AW_seq ?_ | refine AW_ops ?_ | refine AW_blockS ?_ | refine AW_blockR ?_ | refine AW_blockD ?_ | refine AW_blockC ?_ | refine AO_nil ?_ | refine AW_draw ?_ | refine AW_draw3 ?_ | refine AW_blockD3 ?_ | (refine AW_drawA ?_; simp only [atBlk, Sm]) | refine AHd_nil ?_ | with_reducible (first | refine AP_at ?_ | refine AHP_at ?_) | (with_reducible (first | apply AO_any | apply AHd_any | apply AP_go | apply AHP_go); focus (simp only [Sm, wantedA, execA, stepA, List.getElem?_cons_zero, List.getElem?_cons_succ, if_true, if_false, binA, binInt, unA, eqA, Option.map, eq_self, reduceCtorEq, ite_true, ite_false, cellsAV, fitsAll, CK.fits, fillA, AV.cells, writeN, sliceCells, appendA, lenA, i64, loA, hiA, Nat.reduceAdd, Nat.reduceMul, Nat.reduceDiv, Nat.reduceSub, Nat.reduceLeDiff, Nat.reduceLT, Int.reduceLE, Int.reduceLT, foldA, maxA, minA, Int.reduceBEq, Int.reduceBNe, Int.reduceGT, Int.reduceGE, Int.reduceEq, Int.reduceNe, Int.reduceToNat, AOp.stops, ↓want_eq, ↓exec_lenX, ↓exec_storeX, ↓exec_storeN, storeN_one, ↓exec_bsX, ↓exec_sliceX, ↓exec_copyX, ↓exec_appNil, ↓exec_carryX, Nat.sub_zero, rep_len, ht6, hy6.len1 _ yl, decide_eq_true (show ((ls.length : Nat) : Int) > 0 by omega), f1, f2, f3, f4, f5, f7, hu, gu, hcells_own g6, Nat.zero_add, s7, i64_succ (show j < 9223372036854775807 by omega)]; with_reducible first | exact EqP.at_ | exact EqP.cont | exact EqP.hcont | exact EqP.gate | exact EqP.hgate)) | (refine AW_ift ?_ ?_; focus (simp only [Sm]; done)) | (refine AW_iff ?_ ?_; focus (simp only [Sm]; done))))
            refine ⟨hj2, c6.trans c7 (fun _ _ h => h), ⟨l.set j v2, ⟨by rw [List.length_set]; exact rl.len, rl.pos, rl.le, fun k => ?_⟩, ?_⟩, stale _ _ rfl⟩
            · rw [getD_set_]; split; exact f8; exact rl.lt k
            · rw [W32_setL] at o7; exact o7
        · obtain rfl : j = 32 * r := by have : ¬ (j : Int) < ((32 * r : Nat) : Int) := of_decide_eq_false ht6; omega
          exact AW_exit ⟨rfl, c6, ⟨l, rl, g6⟩, stale _ _ rfl⟩
      rintro e fr H6 ⟨rfl, c6, ⟨l, rl, g6⟩, st, rfl⟩
      have h6 := h5.chg c6 (by omega) (by omega) (by omega)
      (repeat (first | with_reducible (first | refine thenQ_n ?_ | refine blockQ_n ?_ | refine thenQ_e ?_ | refine thenQ_r ?_ | refine blockQ_r ?_ | refine blockQ_s ?_ | refine blockQ_o rfl ?_) | refine AW_skip ?_ | refine AW_seq ?_ | refine AW_ops ?_ | refine AW_blockS ?_ | refine AW_blockR ?_ | refine AW_blockD ?_ | refine AW_blockC ?_ | refine AO_nil ?_ | refine AW_draw ?_ | refine AW_draw3 ?_ | refine AW_blockD3 ?_ | (refine AW_drawA ?_; simp only [atBlk, Sm]) | refine AHd_nil ?_ | with_reducible (first | refine AP_at ?_ | refine AHP_at ?_) | (with_reducible (first | apply AO_any | apply AHd_any | apply AP_go | apply AHP_go); focus (simp only [Sm, wantedA, execA, stepA, List.getElem?_cons_zero, List.getElem?_cons_succ, if_true, if_false, binA, binInt, unA, eqA, Option.map, eq_self, reduceCtorEq, ite_true, ite_false, cellsAV, fitsAll, CK.fits, fillA, AV.cells, writeN, sliceCells, appendA, lenA, i64, loA, hiA, Nat.reduceAdd, Nat.reduceMul, Nat.reduceDiv, Nat.reduceSub, Nat.reduceLeDiff, Nat.reduceLT, Int.reduceLE, Int.reduceLT, foldA, maxA, minA, Int.reduceBEq, Int.reduceBNe, Int.reduceGT, Int.reduceGE, Int.reduceEq, Int.reduceNe, Int.reduceToNat, AOp.stops, ↓want_eq, ↓exec_lenX, ↓exec_storeX, ↓exec_storeN, storeN_one, ↓exec_bsX, ↓exec_sliceX, ↓exec_copyX, ↓exec_appNil, ↓exec_carryX, Nat.sub_zero, rep_len]; with_reducible first | exact EqP.at_ | exact EqP.cont | exact EqP.hcont | exact EqP.gate | exact EqP.hgate)) | (refine AW_ift ?_ ?_; focus (simp only [Sm]; done)) | (refine AW_iff ?_ ?_; focus (simp only [Sm]; done))))
      refine AO_call rfl (AC_roPut H.length H6 i (.slc H4.length 0 (32 * r) 1) l h6 hi2 (Rd.all (hcells_own g6) (by rw [W32_length, rl.len])) (by rintro ⟨_, _, _, e⟩; injection e with e; omega) rl.len rl.lt (by omega)) ?_
      rintro _ H7 ⟨rfl, h7, c7, l7⟩
      (repeat (first | with_reducible (first | refine thenQ_n ?_ | refine blockQ_n ?_ | refine thenQ_e ?_ | refine thenQ_r ?_ | refine blockQ_r ?_ | refine blockQ_s ?_ | refine blockQ_o rfl ?_) | refine AW_skip ?_ | refine AW_seq ?_ | refine AW_ops ?_ | refine AW_blockS ?_ | refine AW_blockR ?_ | refine AW_blockD ?_ | refine AW_blockC ?_ | refine AO_nil ?_ | refine AW_draw ?_ | refine AW_draw3 ?_ | refine AW_blockD3 ?_ | (refine AW_drawA ?_; simp only [atBlk, Sm]) | refine AHd_nil ?_ | with_reducible (first | refine AP_at ?_ | refine AHP_at ?_) | (with_reducible (first | apply AO_any | apply AHd_any | apply AP_go | apply AHP_go); focus (simp only [Sm, wantedA, execA, stepA, List.getElem?_cons_zero, List.getElem?_cons_succ, if_true, if_false, binA, binInt, unA, eqA, Option.map, eq_self, reduceCtorEq, ite_true, ite_false, cellsAV, fitsAll, CK.fits, fillA, AV.cells, writeN, sliceCells, appendA, lenA, i64, loA, hiA, Nat.reduceAdd, Nat.reduceMul, Nat.reduceDiv, Nat.reduceSub, Nat.reduceLeDiff, Nat.reduceLT, Int.reduceLE, Int.reduceLT, foldA, maxA, minA, Int.reduceBEq, Int.reduceBNe, Int.reduceGT, Int.reduceGE, Int.reduceEq, Int.reduceNe, Int.reduceToNat, AOp.stops, ↓want_eq, ↓exec_lenX, ↓exec_storeX, ↓exec_storeN, storeN_one, ↓exec_bsX, ↓exec_sliceX, ↓exec_copyX, ↓exec_appNil, ↓exec_carryX, Nat.sub_zero, rep_len, i64_succ (show i < 9223372036854775807 by omega)]; with_reducible first | exact EqP.at_ | exact EqP.cont | exact EqP.hcont | exact EqP.gate | exact EqP.hgate)) | (refine AW_ift ?_ ?_; focus (simp only [Sm]; done)) | (refine AW_iff ?_ ?_; focus (simp only [Sm]; done))))
      refine ⟨hi2, ?_, ⟨_, h7⟩, stale _ _ rfl⟩
      exact ((k4.trans (k5.mono (by omega))).trans ⟨c6.1, fun b hb hb2 => c6.2 b hb2 (by omega)⟩).trans ⟨c7.1, fun b hb hb2 => c7.2 b hb2 (by omega)⟩
    · obtain rfl : i = R := by have : ¬ (i : Int) < (R : Int) := of_decide_eq_false ht; omega
      exact AW_exit ⟨rfl, k4, ⟨ws4, h4⟩, stale _ _ rfl⟩
  rintro e fr H4 ⟨rfl, k4, ⟨ws4, h4⟩, st, rfl⟩
  (repeat (first | with_reducible (first | refine thenQ_n ?_ | refine blockQ_n ?_ | refine thenQ_e ?_ | refine thenQ_r ?_ | refine blockQ_r ?_ | refine blockQ_s ?_ | refine blockQ_o rfl ?_) | refine AW_skip ?_ | refine AW_seq ?_ | refine AW_ops ?_ | refine AW_blockS ?_ | refine AW_blockR ?_ | refine AW_blockD ?_ | refine AW_blockC ?_ | refine AO_nil ?_ | refine AW_draw ?_ | refine AW_draw3 ?_ | refine AW_blockD3 ?_ | (refine AW_drawA ?_; simp only [atBlk, Sm]) | refine AHd_nil ?_ | with_reducible (first | refine AP_at ?_ | refine AHP_at ?_) | (with_reducible (first | apply AO_any | apply AHd_any | apply AP_go | apply AHP_go); focus (simp only [Sm, wantedA, execA, stepA, List.getElem?_cons_zero, List.getElem?_cons_succ, if_true, if_false, binA, binInt, unA, eqA, Option.map, eq_self, reduceCtorEq, ite_true, ite_false, cellsAV, fitsAll, CK.fits, fillA, AV.cells, writeN, sliceCells, appendA, lenA, i64, loA, hiA, Nat.reduceAdd, Nat.reduceMul, Nat.reduceDiv, Nat.reduceSub, Nat.reduceLeDiff, Nat.reduceLT, Int.reduceLE, Int.reduceLT, foldA, maxA, minA, Int.reduceBEq, Int.reduceBNe, Int.reduceGT, Int.reduceGE, Int.reduceEq, Int.reduceNe, Int.reduceToNat, AOp.stops, ↓want_eq, ↓exec_lenX, ↓exec_storeX, ↓exec_storeN, storeN_one, ↓exec_bsX, ↓exec_sliceX, ↓exec_copyX, ↓exec_appNil, ↓exec_carryX, Nat.sub_zero, rep_len]; with_reducible first | exact EqP.at_ | exact EqP.cont | exact EqP.hcont | exact EqP.gate | exact EqP.hgate)) | (refine AW_ift ?_ ?_; focus (simp only [Sm]; done)) | (refine AW_iff ?_ ?_; focus (simp only [Sm]; done))))
  subst hRd
  exact AW_ret ⟨_, rfl, _, rfl, lo, H1.length + 1, H.length, H1.length, ws4, by omega, by omega, by omega, h4⟩
theorem AC_awake24 (H : AHeap) : AC A H.length F_pestlelaw24_awake [] H (fun v _ => v = .c (.bool true)) := by
  have hy : Rd (H ++ [Blk.own (W32 [7])]) (.slc H.length 0 1 1) 1 (W32 [7]) := Rd.all (hcells_own hown_last) rfl
  refine AC_enter t_pestlelaw24_awake ?_; simp only [c_pestlelaw24_awake, enterA, List.replicate, List.length_cons, List.length_nil, Nat.reduceAdd, Nat.reduceSub, List.cons_append, List.nil_append]
  (repeat (first | with_reducible (first | refine thenQ_n ?_ | refine blockQ_n ?_ | refine thenQ_e ?_ | refine thenQ_r ?_ | refine blockQ_r ?_ | refine blockQ_s ?_ | refine blockQ_o rfl ?_) | refine AW_skip ?_ | refine AW_seq ?_ | refine AW_ops ?_ | refine AW_blockS ?_ | refine AW_blockR ?_ | refine AW_blockD ?_ | refine AW_blockC ?_ | refine AO_nil ?_ | refine AW_draw ?_ | refine AW_draw3 ?_ | refine AW_blockD3 ?_ | (refine AW_drawA ?_; simp only [atBlk, Sm]) | refine AHd_nil ?_ | with_reducible (first | refine AP_at ?_ | refine AHP_at ?_) | (with_reducible (first | apply AO_any | apply AHd_any | apply AP_go | apply AHP_go); focus (simp only [Sm, wantedA, execA, stepA, List.getElem?_cons_zero, List.getElem?_cons_succ, if_true, if_false, binA, binInt, unA, eqA, Option.map, eq_self, reduceCtorEq, ite_true, ite_false, cellsAV, fitsAll, CK.fits, fillA, AV.cells, writeN, sliceCells, appendA, lenA, i64, loA, hiA, Nat.reduceAdd, Nat.reduceMul, Nat.reduceDiv, Nat.reduceSub, Nat.reduceLeDiff, Nat.reduceLT, Int.reduceLE, Int.reduceLT, foldA, maxA, minA, Int.reduceBEq, Int.reduceBNe, Int.reduceGT, Int.reduceGE, Int.reduceEq, Int.reduceNe, Int.reduceToNat, AOp.stops, ↓want_eq, ↓exec_lenX, ↓exec_storeX, ↓exec_storeN, storeN_one, ↓exec_bsX, ↓exec_sliceX, ↓exec_copyX, ↓exec_appNil, ↓exec_carryX, Nat.sub_zero, rep_len]; with_reducible first | exact EqP.at_ | exact EqP.cont | exact EqP.hcont | exact EqP.gate | exact EqP.hgate)) | (refine AW_ift ?_ ?_; focus (simp only [Sm]; done)) | (refine AW_iff ?_ ?_; focus (simp only [Sm]; done))))
  refine AO_call rfl ((AC_store24 (H ++ [Blk.own (W32 [7])]) (.slc H.length 0 1 1) 1 1 [7] hy (by omega) (by omega) (by omega) (by decide) (fun k => by rcases k with _ | k <;> simp)).floor (by simp)) ?_
  rintro _ H2 ⟨so, rfl, hso, p, a, q, ws, hp, ha, hq, h2⟩
  have l1 : (H ++ [Blk.own (W32 [7])]).length = H.length + 1 := by simp
  (repeat (first | with_reducible (first | refine thenQ_n ?_ | refine blockQ_n ?_ | refine thenQ_e ?_ | refine thenQ_r ?_ | refine blockQ_r ?_ | refine blockQ_s ?_ | refine blockQ_o rfl ?_) | refine AW_skip ?_ | refine AW_seq ?_ | refine AW_ops ?_ | refine AW_blockS ?_ | refine AW_blockR ?_ | refine AW_blockD ?_ | refine AW_blockC ?_ | refine AO_nil ?_ | refine AW_draw ?_ | refine AW_draw3 ?_ | refine AW_blockD3 ?_ | (refine AW_drawA ?_; simp only [atBlk, Sm]) | refine AHd_nil ?_ | with_reducible (first | refine AP_at ?_ | refine AHP_at ?_) | (with_reducible (first | apply AO_any | apply AHd_any | apply AP_go | apply AHP_go); focus (simp only [Sm, wantedA, execA, stepA, List.getElem?_cons_zero, List.getElem?_cons_succ, if_true, if_false, binA, binInt, unA, eqA, Option.map, eq_self, reduceCtorEq, ite_true, ite_false, cellsAV, fitsAll, CK.fits, fillA, AV.cells, writeN, sliceCells, appendA, lenA, i64, loA, hiA, Nat.reduceAdd, Nat.reduceMul, Nat.reduceDiv, Nat.reduceSub, Nat.reduceLeDiff, Nat.reduceLT, Int.reduceLE, Int.reduceLT, foldA, maxA, minA, Int.reduceBEq, Int.reduceBNe, Int.reduceGT, Int.reduceGE, Int.reduceEq, Int.reduceNe, Int.reduceToNat, AOp.stops, ↓want_eq, ↓exec_lenX, ↓exec_storeX, ↓exec_storeN, storeN_one, ↓exec_bsX, ↓exec_sliceX, ↓exec_copyX, ↓exec_appNil, ↓exec_carryX, Nat.sub_zero, rep_len]; with_reducible first | exact EqP.at_ | exact EqP.cont | exact EqP.hcont | exact EqP.gate | exact EqP.hgate)) | (refine AW_ift ?_ ?_; focus (simp only [Sm]; done)) | (refine AW_iff ?_ ?_; focus (simp only [Sm]; done))))
  refine AO_call rfl (AC_roRows H.length H2 h2) ?_
  rintro _ _ ⟨rfl, rfl⟩
  (repeat (first | with_reducible (first | refine thenQ_n ?_ | refine blockQ_n ?_ | refine thenQ_e ?_ | refine thenQ_r ?_ | refine blockQ_r ?_ | refine blockQ_s ?_ | refine blockQ_o rfl ?_) | refine AW_skip ?_ | refine AW_seq ?_ | refine AW_ops ?_ | refine AW_blockS ?_ | refine AW_blockR ?_ | refine AW_blockD ?_ | refine AW_blockC ?_ | refine AO_nil ?_ | refine AW_draw ?_ | refine AW_draw3 ?_ | refine AW_blockD3 ?_ | (refine AW_drawA ?_; simp only [atBlk, Sm]) | refine AHd_nil ?_ | with_reducible (first | refine AP_at ?_ | refine AHP_at ?_) | (with_reducible (first | apply AO_any | apply AHd_any | apply AP_go | apply AHP_go); focus (simp only [Sm, wantedA, execA, stepA, List.getElem?_cons_zero, List.getElem?_cons_succ, if_true, if_false, binA, binInt, unA, eqA, Option.map, eq_self, reduceCtorEq, ite_true, ite_false, cellsAV, fitsAll, CK.fits, fillA, AV.cells, writeN, sliceCells, appendA, lenA, i64, loA, hiA, Nat.reduceAdd, Nat.reduceMul, Nat.reduceDiv, Nat.reduceSub, Nat.reduceLeDiff, Nat.reduceLT, Int.reduceLE, Int.reduceLT, foldA, maxA, minA, Int.reduceBEq, Int.reduceBNe, Int.reduceGT, Int.reduceGE, Int.reduceEq, Int.reduceNe, Int.reduceToNat, AOp.stops, ↓want_eq, ↓exec_lenX, ↓exec_storeX, ↓exec_storeN, storeN_one, ↓exec_bsX, ↓exec_sliceX, ↓exec_copyX, ↓exec_appNil, ↓exec_carryX, Nat.sub_zero, rep_len]; with_reducible first | exact EqP.at_ | exact EqP.cont | exact EqP.hcont | exact EqP.gate | exact EqP.hgate)) | (refine AW_ift ?_ ?_; focus (simp only [Sm]; done)) | (refine AW_iff ?_ ?_; focus (simp only [Sm]; done))))
  refine AO_call rfl (AC_roMix H.length H2 0 1 2 1 h2 (by omega) rfl (by omega) (by decide) (by decide) (by omega) (by decide)) ?_
  rintro _ H3 ⟨rfl, _⟩
  (repeat (first | with_reducible (first | refine thenQ_n ?_ | refine blockQ_n ?_ | refine thenQ_e ?_ | refine thenQ_r ?_ | refine blockQ_r ?_ | refine blockQ_s ?_ | refine blockQ_o rfl ?_) | refine AW_skip ?_ | refine AW_seq ?_ | refine AW_ops ?_ | refine AW_blockS ?_ | refine AW_blockR ?_ | refine AW_blockD ?_ | refine AW_blockC ?_ | refine AO_nil ?_ | refine AW_draw ?_ | refine AW_draw3 ?_ | refine AW_blockD3 ?_ | (refine AW_drawA ?_; simp only [atBlk, Sm]) | refine AHd_nil ?_ | with_reducible (first | refine AP_at ?_ | refine AHP_at ?_) | (with_reducible (first | apply AO_any | apply AHd_any | apply AP_go | apply AHP_go); focus (simp only [Sm, wantedA, execA, stepA, List.getElem?_cons_zero, List.getElem?_cons_succ, if_true, if_false, binA, binInt, unA, eqA, Option.map, eq_self, reduceCtorEq, ite_true, ite_false, cellsAV, fitsAll, CK.fits, fillA, AV.cells, writeN, sliceCells, appendA, lenA, i64, loA, hiA, Nat.reduceAdd, Nat.reduceMul, Nat.reduceDiv, Nat.reduceSub, Nat.reduceLeDiff, Nat.reduceLT, Int.reduceLE, Int.reduceLT, foldA, maxA, minA, Int.reduceBEq, Int.reduceBNe, Int.reduceGT, Int.reduceGE, Int.reduceEq, Int.reduceNe, Int.reduceToNat, AOp.stops, ↓want_eq, ↓exec_lenX, ↓exec_storeX, ↓exec_storeN, storeN_one, ↓exec_bsX, ↓exec_sliceX, ↓exec_copyX, ↓exec_appNil, ↓exec_carryX, Nat.sub_zero, rep_len]; with_reducible first | exact EqP.at_ | exact EqP.cont | exact EqP.hcont | exact EqP.gate | exact EqP.hgate)) | (refine AW_ift ?_ ?_; focus (simp only [Sm]; done)) | (refine AW_iff ?_ ?_; focus (simp only [Sm]; done))))
  exact AW_ret ⟨_, rfl, rfl⟩
end
end PK

/- Package pestleref24 as code of the abstract machine. -/
namespace PK
open Go PAbs

noncomputable def c_pestleref24_Why : AFn := AFn.mk 49 [.tmp 8]
  (.seq (.region
      [⟨some 8, .mv (.k (.c (.int .i64 0))), none⟩])
  (.seq (.seq (.region
        [⟨some 11, .mv (.t 1), none⟩,
          ⟨some 12, .bin .lss (.t 11) (.k (.c (.int .i64 0))), none⟩,
          ⟨some 13, .mv (.t 12), none⟩,
          ⟨some 14, .mv (.t 1), some (13, false)⟩,
          ⟨some 15, .mv (.t 0), some (13, false)⟩,
          ⟨some 16, .bin .geq (.t 14) (.t 15), some (13, false)⟩,
          ⟨some 17, .pick (.t 13) (.k (.c (.bool true))) (.t 16), none⟩])
    (.cond (.t 17)
      (.seq (.region
          [⟨some 8, .mv (.k (.c (.int .i64 11))), none⟩])
      (.ret))
      (.skip)))
  (.seq (.region
      [⟨some 19, .mv (.t 2), none⟩,
        ⟨some 20, .call F_pestleref02_Power [.t 19], none⟩,
        ⟨some 18, .mv (.t 20), none⟩,
        ⟨some 21, .extract (.t 18) 0, none⟩,
        ⟨some 22, .extract (.t 18) 1, none⟩,
        ⟨some 9, .mv (.t 21), none⟩,
        ⟨some 10, .mv (.t 22), none⟩])
  (.seq (.seq (.region
        [⟨some 23, .mv (.t 10), none⟩,
          ⟨some 24, .bin .neq (.t 23) (.k (.c (.int .i64 0))), none⟩])
    (.cond (.t 24)
      (.seq (.region
          [⟨some 8, .mv (.k (.c (.int .i64 2))), none⟩])
      (.ret))
      (.skip)))
  (.seq (.seq (.region
        [⟨some 25, .mv (.t 3), none⟩,
          ⟨some 26, .bin .lss (.t 25) (.k (.c (.int .i64 0))), none⟩,
          ⟨some 27, .mv (.t 26), none⟩,
          ⟨some 28, .mv (.t 3), some (27, false)⟩,
          ⟨some 29, .mv (.t 0), some (27, false)⟩,
          ⟨some 30, .bin .gtr (.t 28) (.t 29), some (27, false)⟩,
          ⟨some 31, .pick (.t 27) (.k (.c (.bool true))) (.t 30), none⟩,
          ⟨some 32, .mv (.t 31), none⟩,
          ⟨some 33, .mv (.t 9), some (32, false)⟩,
          ⟨some 34, .mv (.t 0), some (32, false)⟩,
          ⟨some 35, .mv (.t 3), some (32, false)⟩,
          ⟨some 36, .bin .sub (.t 34) (.t 35), some (32, false)⟩,
          ⟨some 37, .bin .gtr (.t 33) (.t 36), some (32, false)⟩,
          ⟨some 38, .pick (.t 32) (.k (.c (.bool true))) (.t 37), none⟩])
    (.cond (.t 38)
      (.seq (.region
          [⟨some 8, .mv (.k (.c (.int .i64 11))), none⟩])
      (.ret))
      (.skip)))
  (.seq (.seq (.region
        [⟨some 39, .mv (.t 1), none⟩,
          ⟨some 40, .mv (.t 3), none⟩,
          ⟨some 41, .bin .geq (.t 39) (.t 40), none⟩,
          ⟨some 42, .mv (.t 41), none⟩,
          ⟨some 43, .mv (.t 1), some (42, true)⟩,
          ⟨some 44, .mv (.t 3), some (42, true)⟩,
          ⟨some 45, .mv (.t 9), some (42, true)⟩,
          ⟨some 46, .bin .add (.t 44) (.t 45), some (42, true)⟩,
          ⟨some 47, .bin .lss (.t 43) (.t 46), some (42, true)⟩,
          ⟨some 48, .pick (.t 42) (.t 47) (.k (.c (.bool false))), none⟩])
    (.cond (.t 48)
      (.seq (.region
          [⟨some 8, .mv (.k (.c (.int .i64 1))), none⟩])
      (.ret))
      (.skip)))
  (.seq (.region
      [⟨some 8, .mv (.k (.c (.int .i64 0))), none⟩])
  (.ret))))))))
theorem t_pestleref24_Why : A F_pestleref24_Why = some c_pestleref24_Why := by kernel_rfl

noncomputable def c_pestleref24_Mix : AFn := AFn.mk 84 [.tmp 10]
  (.seq (.region
      [⟨some 10, .mv (.k (.c (.snil))), none⟩])
  (.seq (.region
      [⟨some 17, .mv (.t 0), none⟩,
        ⟨some 18, .call F_pestleref24_Copy [.t 17], none⟩,
        ⟨some 11, .mv (.t 18), none⟩])
  (.seq (.region
      [⟨some 19, .buildSlice ([]) 1 0 [], none⟩,
        ⟨some 20, .mv (.t 11), none⟩,
        ⟨some 21, .mv (.t 2), none⟩,
        ⟨some 22, .idxSlc 1 (.t 20) (.t 21), none⟩,
        ⟨some 23, .load1 (.t 22), none⟩,
        ⟨some 24, .append ([.int .u32 0]) 4 (.t 19) (.t 23), none⟩,
        ⟨some 12, .mv (.t 24), none⟩])
  (.seq (.seq (.region
        [⟨some 13, .mv (.k (.c (.int .i64 0))), none⟩])
    (.block 0
      (.loop
        (.seq (.seq (.region
              [⟨some 25, .mv (.t 13), none⟩,
                ⟨some 26, .mv (.t 3), none⟩,
                ⟨some 27, .bin .lss (.t 25) (.t 26), none⟩])
          (.cond (.t 27)
            (.skip)
            (.exit 0)))
        (.seq (.block 1
            (.seq (.region
                [⟨some 30, .mv (.t 11), none⟩,
                  ⟨some 31, .mv (.t 4), none⟩,
                  ⟨some 32, .mv (.t 13), none⟩,
                  ⟨some 33, .bin .add (.t 31) (.t 32), none⟩,
                  ⟨some 34, .buildSlice ([]) 1 0 [], none⟩,
                  ⟨some 35, .mv (.t 12), none⟩,
                  ⟨some 36, .append ([.int .u32 0]) 4 (.t 34) (.t 35), none⟩,
                  ⟨some 37, .idxSlc 1 (.t 30) (.t 33), none⟩,
                  ⟨none, .store 1 (.t 37) (.t 36), none⟩])
            (.region
              [⟨some 38, .mv (.t 1), none⟩,
                ⟨some 39, .mv (.t 12), none⟩,
                ⟨some 40, .call F_pestleref23_Mix [.t 38, .t 39], none⟩,
                ⟨some 12, .mv (.t 40), none⟩])))
        (.region
          [⟨some 28, .mv (.t 13), none⟩,
            ⟨some 29, .bin .add (.t 28) (.k (.c (.int .i64 1))), none⟩,
            ⟨some 13, .mv (.t 29), none⟩]))))))
  (.seq (.seq (.region
        [⟨some 14, .mv (.k (.c (.int .i64 0))), none⟩])
    (.block 2
      (.loop
        (.seq (.seq (.region
              [⟨some 41, .mv (.t 14), none⟩,
                ⟨some 42, .mv (.t 3), none⟩,
                ⟨some 43, .bin .lss (.t 41) (.t 42), none⟩])
          (.cond (.t 43)
            (.skip)
            (.exit 2)))
        (.seq (.block 3
            (.seq (.region
                [⟨some 46, .mv (.t 1), none⟩,
                  ⟨some 47, .mv (.t 12), none⟩,
                  ⟨some 48, .call F_pestleref23_Integer [.t 46, .t 47], none⟩,
                  ⟨some 49, .mv (.t 3), none⟩,
                  ⟨some 50, .convInt .u64 (.t 49), none⟩,
                  ⟨some 51, .bin .rem (.t 48) (.t 50), none⟩,
                  ⟨some 52, .convInt .i64 (.t 51), none⟩,
                  ⟨some 15, .mv (.t 52), none⟩])
            (.seq (.seq (.region
                  [⟨some 16, .mv (.k (.c (.int .i64 0))), none⟩])
              (.block 4
                (.loop
                  (.seq (.seq (.region
                        [⟨some 53, .mv (.t 16), none⟩,
                          ⟨some 54, .mv (.t 12), none⟩,
                          ⟨some 55, .len false (.t 54), none⟩,
                          ⟨some 56, .bin .lss (.t 53) (.t 55), none⟩])
                    (.cond (.t 56)
                      (.skip)
                      (.exit 4)))
                  (.seq (.block 5
                      (.draw
                        [⟨some 59, .mv (.t 12), none⟩,
                          ⟨some 60, .mv (.t 16), none⟩,
                          ⟨some 61, .mv (.t 12), none⟩,
                          ⟨some 62, .mv (.t 16), none⟩,
                          ⟨some 63, .idxSlc 1 (.t 61) (.t 62), none⟩,
                          ⟨some 64, .load1 (.t 63), none⟩,
                          ⟨some 65, .mv (.t 11), none⟩,
                          ⟨some 66, .mv (.t 4), none⟩,
                          ⟨some 67, .mv (.t 15), none⟩,
                          ⟨some 68, .bin .add (.t 66) (.t 67), none⟩,
                          ⟨some 69, .idxSlc 1 (.t 65) (.t 68), none⟩,
                          ⟨some 70, .load1 (.t 69), none⟩,
                          ⟨some 71, .mv (.t 16), none⟩,
                          ⟨some 72, .idxSlc 1 (.t 70) (.t 71), none⟩,
                          ⟨some 73, .load1 (.t 72), none⟩,
                          ⟨some 74, .bin .xor (.t 64) (.t 73), none⟩]
                        [⟨some 75, .idxSlc 1 (.t 59) (.t 60), none⟩,
                          ⟨none, .store 1 (.t 75) (.t 74), none⟩]))
                  (.region
                    [⟨some 57, .mv (.t 16), none⟩,
                      ⟨some 58, .bin .add (.t 57) (.k (.c (.int .i64 1))), none⟩,
                      ⟨some 16, .mv (.t 58), none⟩]))))))
            (.region
              [⟨some 76, .mv (.t 1), none⟩,
                ⟨some 77, .mv (.t 12), none⟩,
                ⟨some 78, .call F_pestleref23_Mix [.t 76, .t 77], none⟩,
                ⟨some 12, .mv (.t 78), none⟩]))))
        (.region
          [⟨some 44, .mv (.t 14), none⟩,
            ⟨some 45, .bin .add (.t 44) (.k (.c (.int .i64 1))), none⟩,
            ⟨some 14, .mv (.t 45), none⟩]))))))
  (.seq (.region
      [⟨some 79, .mv (.t 11), none⟩,
        ⟨some 80, .mv (.t 2), none⟩,
        ⟨some 81, .mv (.t 12), none⟩,
        ⟨some 82, .idxSlc 1 (.t 79) (.t 80), none⟩,
        ⟨none, .store 1 (.t 82) (.t 81), none⟩])
  (.seq (.region
      [⟨some 83, .mv (.t 11), none⟩,
        ⟨some 10, .mv (.t 83), none⟩])
  (.ret))))))))
theorem t_pestleref24_Mix : A F_pestleref24_Mix = some c_pestleref24_Mix := by kernel_rfl

noncomputable def c_pestleref24_Copy : AFn := AFn.mk 21 [.tmp 2]
  (.seq (.region
      [⟨some 2, .mv (.k (.c (.snil))), none⟩])
  (.seq (.region
      [⟨some 3, .mv (.k (.c (.snil))), none⟩])
  (.seq (.seq (.region
        [⟨some 4, .mv (.k (.c (.int .i64 0))), none⟩])
    (.block 0
      (.loop
        (.seq (.seq (.region
              [⟨some 5, .mv (.t 4), none⟩,
                ⟨some 6, .mv (.t 0), none⟩,
                ⟨some 7, .len false (.t 6), none⟩,
                ⟨some 8, .bin .lss (.t 5) (.t 7), none⟩])
          (.cond (.t 8)
            (.skip)
            (.exit 0)))
        (.seq (.block 1
            (.region
              [⟨some 11, .mv (.t 3), none⟩,
                ⟨some 12, .buildSlice ([]) 1 0 [], none⟩,
                ⟨some 13, .mv (.t 0), none⟩,
                ⟨some 14, .mv (.t 4), none⟩,
                ⟨some 15, .idxSlc 1 (.t 13) (.t 14), none⟩,
                ⟨some 16, .load1 (.t 15), none⟩,
                ⟨some 17, .append ([.int .u32 0]) 4 (.t 12) (.t 16), none⟩,
                ⟨some 18, .buildSlice ([.snil]) 1 1 [(0, 1, .t 17)], none⟩,
                ⟨some 19, .append ([.snil]) 24 (.t 11) (.t 18), none⟩,
                ⟨some 3, .mv (.t 19), none⟩]))
        (.region
          [⟨some 9, .mv (.t 4), none⟩,
            ⟨some 10, .bin .add (.t 9) (.k (.c (.int .i64 1))), none⟩,
            ⟨some 4, .mv (.t 10), none⟩]))))))
  (.seq (.region
      [⟨some 20, .mv (.t 3), none⟩,
        ⟨some 2, .mv (.t 20), none⟩])
  (.ret)))))
theorem t_pestleref24_Copy : A F_pestleref24_Copy = some c_pestleref24_Copy := by kernel_rfl
end PK

/- Package pestleref02 as code of the abstract machine. -/
namespace PK
open Go PAbs

noncomputable def c_pestleref02_Power : AFn := AFn.mk 18 [.tmp 2, .tmp 3]
  (.seq (.region
      [⟨some 2, .mv (.k (.c (.int .i64 0))), none⟩,
        ⟨some 3, .mv (.k (.c (.int .i64 0))), none⟩])
  (.seq (.seq (.region
        [⟨some 6, .mv (.t 0), none⟩,
          ⟨some 7, .bin .lss (.t 6) (.k (.c (.int .i64 0))), none⟩])
    (.cond (.t 7)
      (.seq (.region
          [⟨some 2, .mv (.k (.c (.int .i64 0))), none⟩,
            ⟨some 3, .mv (.k (.c (.int .i64 1))), none⟩])
      (.ret))
      (.skip)))
  (.seq (.seq (.region
        [⟨some 8, .mv (.t 0), none⟩,
          ⟨some 9, .bin .gtr (.t 8) (.k (.c (.int .i64 62))), none⟩])
    (.cond (.t 9)
      (.seq (.region
          [⟨some 2, .mv (.k (.c (.int .i64 0))), none⟩,
            ⟨some 3, .mv (.k (.c (.int .i64 10))), none⟩])
      (.ret))
      (.skip)))
  (.seq (.region
      [⟨some 4, .mv (.k (.c (.int .i64 1))), none⟩])
  (.seq (.seq (.region
        [⟨some 5, .mv (.k (.c (.int .i64 0))), none⟩])
    (.block 0
      (.loop
        (.seq (.seq (.region
              [⟨some 10, .mv (.t 5), none⟩,
                ⟨some 11, .mv (.t 0), none⟩,
                ⟨some 12, .bin .lss (.t 10) (.t 11), none⟩])
          (.cond (.t 12)
            (.skip)
            (.exit 0)))
        (.seq (.block 1
            (.region
              [⟨some 15, .mv (.t 4), none⟩,
                ⟨some 16, .bin .mul (.t 15) (.k (.c (.int .i64 2))), none⟩,
                ⟨some 4, .mv (.t 16), none⟩]))
        (.region
          [⟨some 13, .mv (.t 5), none⟩,
            ⟨some 14, .bin .add (.t 13) (.k (.c (.int .i64 1))), none⟩,
            ⟨some 5, .mv (.t 14), none⟩]))))))
  (.seq (.region
      [⟨some 17, .mv (.t 4), none⟩,
        ⟨some 2, .mv (.t 17), none⟩,
        ⟨some 3, .mv (.k (.c (.int .i64 0))), none⟩])
  (.ret)))))))
theorem t_pestleref02_Power : A F_pestleref02_Power = some c_pestleref02_Power := by kernel_rfl
end PK
