/- Texts of this claim, put together: L24c KPestlelaw24 L24d KPestleref24 KPestleref02 L24f KScrypt KPestleref25 L25a KSha L05a L05b L05c KFeed L04a. -/
import Derived.Test.YtkmclhpnakphfaaG8
import Derived.Test.YtkmclhpnakphfaaG10
import Derived.Test.YtkmclhpnakphfaaG9
/- Package romix: Mix. -/
namespace PK
open Go PAbs
set_option linter.unusedSimpArgs false
set_option linter.unusedVariables false
set_option maxRecDepth 100000
set_option maxHeartbeats 4000000

def rowsO (ws : List Nat) (W R : Nat) : List (List Nat) := (List.range R).map (rowO ws W)
theorem rowsO_length {ws : List Nat} {W R : Nat} : (rowsO ws W R).length = R := by simp [rowsO]
theorem rowsO_get {ws : List Nat} {W R k : Nat} (h : k < R) : (rowsO ws W R)[k]? = some (rowO ws W k) := by rw [rowsO, List.getElem?_map, List.getElem?_range h]; rfl
theorem rowsO_getD {ws : List Nat} {W R k : Nat} (h : k < R) : (rowsO ws W R).getD k [] = rowO ws W k := by rw [List.getD_eq_getElem?_getD, rowsO_get h]; rfl
theorem rowsO_put {ws l : List Nat} {W R k : Nat} (hR : R * W ≤ ws.length) (hk : k < R) (hl : l.length = W) : rowsO (putO ws W k l) W R = (rowsO ws W R).set k l := by
  have hb : ∀ j, j < R → j * W + W ≤ ws.length := fun j hj => by have : (j + 1) * W ≤ R * W := Nat.mul_le_mul_right _ hj; rw [Nat.add_mul] at this; omega
  apply List.ext_getElem?
  intro j
  rw [List.getElem?_set, rowsO_length]
  rcases Nat.lt_or_ge j R with hj | hj
  · rw [rowsO_get hj, rowsO_get hj, row_put (hb k hk) (hb j hj) hl]
    by_cases e : k = j
    · subst e; rw [if_pos rfl, if_pos rfl, if_pos hj]
    · rw [if_neg e, if_neg (fun h => e h.symm)]
  · rw [List.getElem?_eq_none (by rw [rowsO_length]; exact hj), List.getElem?_eq_none (by rw [rowsO_length]; exact hj)]
    rw [if_neg (by omega)]

def xorW (x v : List Nat) (k : Nat) : List Nat := upd (fun c => x.getD c 0 ^^^ v.getD c 0) x k
def fillR (r first : Nat) (rows : List (List Nat)) (x : List Nat) : Nat → List (List Nat) × List Nat
  | 0 => (rows, x)
  | i + 1 => ((fillR r first rows x i).1.set (first + i) (fillR r first rows x i).2, mixW r (fillR r first rows x i).2)
def turnR (r first m : Nat) (rows : List (List Nat)) (x : List Nat) : Nat → List Nat
  | 0 => x
  | i + 1 => mixW r (xorW (turnR r first m rows x i) (rows.getD (first + intV r (turnR r first m rows x i) % m) []) (32 * r))
def mixR (r k first m : Nat) (rows : List (List Nat)) : List (List Nat) :=
  (fillR r first rows (rows.getD k []) m).1.set k (turnR r first m (fillR r first rows (rows.getD k []) m).1 (fillR r first rows (rows.getD k []) m).2 m)
def AllR (r : Nat) (rows : List (List Nat)) : Prop := ∀ j, j < rows.length → Row r (rows.getD j [])
theorem AllR.set {r : Nat} {rows : List (List Nat)} (h : AllR r rows) (k : Nat) {l : List Nat} (hl : Row r l) : AllR r (rows.set k l) := by
  intro j hj
  rw [List.length_set] at hj
  rw [List.getD_eq_getElem?_getD, List.getElem?_set]
  by_cases e : k = j
  · subst e; rw [if_pos rfl, if_pos hj]; exact hl
  · rw [if_neg e, ← List.getD_eq_getElem?_getD]; exact h j hj
theorem fillR_ok {r first : Nat} {rows : List (List Nat)} {x : List Nat} (h : AllR r rows) (hx : Row r x) : ∀ i, (fillR r first rows x i).1.length = rows.length ∧ AllR r (fillR r first rows x i).1 ∧ Row r (fillR r first rows x i).2
  | 0 => ⟨rfl, h, hx⟩
  | i + 1 => by
    obtain ⟨h1, h2, h3⟩ := fillR_ok (first := first) h hx i
    exact ⟨by simp only [fillR, List.length_set]; exact h1, h2.set _ h3, h3.mix⟩
theorem xorW_row {r : Nat} {x v : List Nat} (hx : Row r x) (hv : Row r v) (k : Nat) : Row r (xorW x v k) := by
  refine ⟨by rw [xorW, upd_length]; exact hx.len, hx.pos, hx.le, fun j => ?_⟩
  rcases Nat.lt_or_ge j x.length with h | h
  · rw [List.getD_eq_getElem?_getD, xorW, upd_get k j h]
    split
    · exact Nat.xor_lt_two_pow (n := 32) (hx.lt j) (hv.lt j)
    · rw [← List.getD_eq_getElem?_getD]; exact hx.lt j
  · rw [List.getD_eq_getElem?_getD, List.getElem?_eq_none (by rw [xorW, upd_length]; exact h)]; decide
theorem turnR_ok {r first m : Nat} {rows : List (List Nat)} {x : List Nat} (h : AllR r rows) (hx : Row r x) (hm : 1 ≤ m) (hf : first + m ≤ rows.length) : ∀ i, Row r (turnR r first m rows x i)
  | 0 => hx
  | i + 1 => by
    have h1 := turnR_ok h hx hm hf i
    have := Nat.mod_lt (intV r (turnR r first m rows x i)) hm
    exact (xorW_row h1 (h _ (by omega)) _).mix

theorem StoreAt.room {H : AHeap} {s p a q n r R : Nat} {live : Bool} {ws : List Nat} (h : StoreAt H s p a q n r R live ws) : R * (32 * r) ≤ ws.length := by
  rw [h.R2, h.len]; exact Nat.div_mul_le_self _ _
theorem StoreAt.row {H : AHeap} {s p a q n r R : Nat} {live : Bool} {ws : List Nat} (h : StoreAt H s p a q n r R live ws) {k : Nat} (hk : k < R) : Row r (rowO ws (32 * r) k) := by
  have hrw := h.rows hk
  have hl := h.len
  refine ⟨rowO_length (by omega), h.r1, h.r2, fun j => ?_⟩
  rcases Nat.lt_or_ge j (32 * r) with hj | hj
  · rw [rowO_get hj]; exact h.lt _
  · rw [List.getD_eq_getElem?_getD, List.getElem?_eq_none (by rw [rowO_length (by omega)]; exact hj)]; decide
theorem StoreAt.all {H : AHeap} {s p a q n r R : Nat} {live : Bool} {ws : List Nat} (h : StoreAt H s p a q n r R live ws) : AllR r (rowsO ws (32 * r) R) := by
  intro j hj
  rw [rowsO_length] at hj
  rw [rowsO_getD hj]; exact h.row hj
theorem own_slc {f : Nat} {H : AHeap} {x : Cell} {l : List Nat} {W : Nat} (h : Own f H x 1 (W32 l)) (hl : l.length = W) (h0 : 0 < W) : ∃ o, x = .slc o 0 W 1 ∧ f ≤ o ∧ hown H o = some (W32 l) := by
  rcases h with ⟨_, h2⟩ | ⟨o, m, rfl, h2, h3, h4⟩
  · have : (W32 l).length = 0 := by rw [h2]; rfl
    rw [W32_length] at this; omega
  · rw [W32_length] at h2
    obtain rfl : m = W := by omega
    exact ⟨o, rfl, h3, h4⟩

def powO (z : Int) : Int × Int := if z < 0 then (0, 1) else if z > 62 then (0, 10) else ((2 ^ z.toNat : Nat), 0)
theorem AC_Power (fl : Nat) (H : AHeap) (z : Int) : AC A fl F_size_Power [.c (.int .i64 z)] H (fun v H' => v = .tup [.c (.int .i64 (powO z).1), .c (.int .i64 (powO z).2)] ∧ H = H') := by
  refine AC_enter t_size_Power ?_; simp only [c_size_Power, enterA, List.replicate, List.length_cons, List.length_nil, Nat.reduceAdd, Nat.reduceSub, List.cons_append, List.nil_append]
  by_cases h1 : z < 0
  · rw [powO, if_pos h1]
    (repeat (first | refine GOS ?_ | (with_reducible (first | apply AO_any | apply AHd_any | apply AP_go | apply AHP_go); focus (simp only [Sm, wantedA, execA, stepA, List.getElem?_cons_zero, List.getElem?_cons_succ, if_true, if_false, binA, binInt, unA, eqA, Option.map, eq_self, reduceCtorEq, ite_true, ite_false, cellsAV, fitsAll, CK.fits, fillA, AV.cells, writeN, sliceCells, appendA, lenA, i64, loA, hiA, Nat.reduceAdd, Nat.reduceMul, Nat.reduceDiv, Nat.reduceSub, Nat.reduceLeDiff, Nat.reduceLT, Int.reduceLE, Int.reduceLT, foldA, maxA, minA, Int.reduceBEq, Int.reduceBNe, Int.reduceGT, Int.reduceGE, Int.reduceEq, Int.reduceNe, Int.reduceToNat, AOp.stops, ↓want_eq, ↓exec_lenX, ↓exec_storeX, ↓exec_storeN, storeN_one, ↓exec_bsX, ↓exec_sliceX, ↓exec_copyX, ↓exec_appNil, ↓exec_carryX, Nat.sub_zero, rep_len, decide_eq_true h1]; with_reducible first | exact EqP.at_ | exact EqP.cont | exact EqP.hcont | exact EqP.gate | exact EqP.hgate))))
    exact AW_ret ⟨_, rfl, rfl, rfl⟩
  by_cases h2 : z > 62
  · rw [powO, if_neg h1, if_pos h2]
    (repeat (first | refine GOS ?_ | (with_reducible (first | apply AO_any | apply AHd_any | apply AP_go | apply AHP_go); focus (simp only [Sm, wantedA, execA, stepA, List.getElem?_cons_zero, List.getElem?_cons_succ, if_true, if_false, binA, binInt, unA, eqA, Option.map, eq_self, reduceCtorEq, ite_true, ite_false, cellsAV, fitsAll, CK.fits, fillA, AV.cells, writeN, sliceCells, appendA, lenA, i64, loA, hiA, Nat.reduceAdd, Nat.reduceMul, Nat.reduceDiv, Nat.reduceSub, Nat.reduceLeDiff, Nat.reduceLT, Int.reduceLE, Int.reduceLT, foldA, maxA, minA, Int.reduceBEq, Int.reduceBNe, Int.reduceGT, Int.reduceGE, Int.reduceEq, Int.reduceNe, Int.reduceToNat, AOp.stops, ↓want_eq, ↓exec_lenX, ↓exec_storeX, ↓exec_storeN, storeN_one, ↓exec_bsX, ↓exec_sliceX, ↓exec_copyX, ↓exec_appNil, ↓exec_carryX, Nat.sub_zero, rep_len, decide_eq_false h1, decide_eq_true h2]; with_reducible first | exact EqP.at_ | exact EqP.cont | exact EqP.hcont | exact EqP.gate | exact EqP.hgate))))
    exact AW_ret ⟨_, rfl, rfl, rfl⟩
  rw [powO, if_neg h1, if_neg h2]
  obtain ⟨i, rfl⟩ := Int.eq_ofNat_of_zero_le (show 0 ≤ z by omega)
  have hi : i ≤ 62 := by omega
  have p1 : 2 ^ i ≤ 2 ^ 62 := Nat.pow_le_pow_right (by omega) hi
  have p0 : 0 < 2 ^ i := Nat.two_pow_pos _
  have w2 : shlA .i64 1 (i : Int) = ((2 ^ i : Nat) : Int) := by
    simp only [shlA, Int.toNat_natCast, Int.one_mul]
    rw [Nat.min_eq_left (by show i ≤ 64; omega), show ((2 : Int) ^ i) = ((2 ^ i : Nat) : Int) by simp, i64_of (by omega) (by omega)]
  have w6 : ¬ ((i : Int) < 0) := by omega
  (repeat (first | refine GOS ?_ | (with_reducible (first | apply AO_any | apply AHd_any | apply AP_go | apply AHP_go); focus (simp only [Sm, wantedA, execA, stepA, List.getElem?_cons_zero, List.getElem?_cons_succ, if_true, if_false, binA, binInt, unA, eqA, Option.map, eq_self, reduceCtorEq, ite_true, ite_false, cellsAV, fitsAll, CK.fits, fillA, AV.cells, writeN, sliceCells, appendA, lenA, i64, loA, hiA, Nat.reduceAdd, Nat.reduceMul, Nat.reduceDiv, Nat.reduceSub, Nat.reduceLeDiff, Nat.reduceLT, Int.reduceLE, Int.reduceLT, foldA, maxA, minA, Int.reduceBEq, Int.reduceBNe, Int.reduceGT, Int.reduceGE, Int.reduceEq, Int.reduceNe, Int.reduceToNat, AOp.stops, ↓want_eq, ↓exec_lenX, ↓exec_storeX, ↓exec_storeN, storeN_one, ↓exec_bsX, ↓exec_sliceX, ↓exec_copyX, ↓exec_appNil, ↓exec_carryX, Nat.sub_zero, rep_len, decide_eq_false h1, decide_eq_false h2, w2, w6, Int.toNat_natCast]; with_reducible first | exact EqP.at_ | exact EqP.cont | exact EqP.hcont | exact EqP.gate | exact EqP.hgate))))
  exact AW_ret ⟨_, rfl, rfl, rfl⟩
section
variable {so p a q n r R : Nat}
def maI24 (so p a q n r R k first m : Nat) (rows : List (List Nat)) (x0 : List Nat) (H0 : AHeap) (i : Nat) (fr : AFrame) (H : AHeap) : Prop :=
  Chg (· = q) H0 H ∧ ∃ ws o, StoreAt H so p a q n r R true ws ∧ rowsO ws (32 * r) R = (fillR r first rows x0 i).1 ∧ H0.length ≤ o ∧ hown H o = some (W32 (fillR r first rows x0 i).2) ∧ (∃ s : Nat → AV, fr = [.c (.ptr so 0), .c (.int .i64 (k : Int)), s 2, .c (.int .i64 (first : Int)), s 4, s 5, s 6, s 7, s 8, s 9, .c (.int .i64 (m : Int)), s 11, .c (.int .i64 (r : Int)), .c (.slc o 0 (32 * r) 1), s 14, s 15, s 16, s 17, s 18, s 19, s 20, s 21, s 22, s 23, s 24, s 25, s 26, s 27, s 28, s 29, s 30, s 31, s 32, s 33, s 34, s 35, s 36, s 37, s 38, s 39, s 40, s 41, s 42, s 43, s 44, s 45, s 46, s 47, s 48, s 49, s 50, s 51, s 52, s 53, s 54, s 55, s 56, s 57, s 58, s 59, s 60, s 61, s 62, s 63, s 64, s 65, s 66, s 67, s 68, s 69, s 70, s 71, s 72, s 73, s 74, s 75, s 76, s 77, .c (.int .i64 (m : Int)), .c (.int .i64 (i : Int)), s 80, s 81, s 82, s 83, s 84, s 85, s 86, s 87, s 88, s 89, s 90, s 91, s 92, s 93, s 94, s 95, s 96, s 97, s 98, s 99, s 100, s 101, s 102, s 103, s 104, s 105, s 106, s 107, s 108, s 109, s 110, s 111, s 112, s 113, s 114, s 115, s 116, s 117, s 118, s 119, s 120, s 121, s 122, s 123, s 124, s 125, s 126, s 127, s 128, s 129, s 130, s 131, s 132, s 133, s 134, s 135, s 136, s 137, s 138, s 139, s 140, s 141, s 142])

def mbI24 (so p a q n r R k first m : Nat) (rows : List (List Nat)) (x1 : List Nat) (ws : List Nat) (H0 : AHeap) (i : Nat) (fr : AFrame) (H : AHeap) : Prop :=
  Chg (· = q) H0 H ∧ ∃ o, StoreAt H so p a q n r R true ws ∧ H0.length ≤ o ∧ hown H o = some (W32 (turnR r first m rows x1 i)) ∧ (∃ s : Nat → AV, fr = [.c (.ptr so 0), .c (.int .i64 (k : Int)), s 2, .c (.int .i64 (first : Int)), s 4, s 5, s 6, s 7, s 8, s 9, .c (.int .i64 (m : Int)), s 11, .c (.int .i64 (r : Int)), .c (.slc o 0 (32 * r) 1), s 14, s 15, s 16, s 17, s 18, s 19, s 20, s 21, s 22, s 23, s 24, s 25, s 26, s 27, s 28, s 29, s 30, s 31, s 32, s 33, s 34, s 35, s 36, s 37, s 38, s 39, s 40, s 41, s 42, s 43, s 44, s 45, s 46, s 47, s 48, s 49, s 50, s 51, s 52, s 53, s 54, s 55, s 56, s 57, s 58, s 59, s 60, s 61, s 62, s 63, s 64, s 65, s 66, s 67, s 68, s 69, s 70, s 71, s 72, s 73, s 74, s 75, s 76, s 77, s 78, s 79, s 80, s 81, s 82, s 83, s 84, s 85, s 86, s 87, s 88, s 89, s 90, s 91, s 92, s 93, s 94, .c (.int .i64 (m : Int)), .c (.int .i64 (i : Int)), s 97, s 98, s 99, s 100, s 101, s 102, s 103, s 104, s 105, s 106, s 107, s 108, s 109, s 110, s 111, s 112, s 113, s 114, s 115, s 116, s 117, s 118, s 119, s 120, s 121, s 122, s 123, s 124, s 125, s 126, s 127, s 128, s 129, s 130, s 131, s 132, s 133, s 134, s 135, s 136, s 137, s 138, s 139, s 140, s 141, s 142])

def mcI24 (so r k first m i o v : Nat) (x y : List Nat) (H0 : AHeap) (j : Nat) (fr : AFrame) (H : AHeap) : Prop := Chg (· = o) H0 H ∧ hown H o = some (W32 (xorW x y j)) ∧ (∃ s : Nat → AV, fr = [.c (.ptr so 0), .c (.int .i64 (k : Int)), s 2, .c (.int .i64 (first : Int)), s 4, s 5, s 6, s 7, s 8, s 9, .c (.int .i64 (m : Int)), s 11, .c (.int .i64 (r : Int)), .c (.slc o 0 (32 * r) 1), s 14, s 15, s 16, s 17, .c (.slc v 0 (32 * r) 1), s 19, s 20, s 21, s 22, s 23, s 24, s 25, s 26, s 27, s 28, s 29, s 30, s 31, s 32, s 33, s 34, s 35, s 36, s 37, s 38, s 39, s 40, s 41, s 42, s 43, s 44, s 45, s 46, s 47, s 48, s 49, s 50, s 51, s 52, s 53, s 54, s 55, s 56, s 57, s 58, s 59, s 60, s 61, s 62, s 63, s 64, s 65, s 66, s 67, s 68, s 69, s 70, s 71, s 72, s 73, s 74, s 75, s 76, s 77, s 78, s 79, s 80, s 81, s 82, s 83, s 84, s 85, s 86, s 87, s 88, s 89, s 90, s 91, s 92, s 93, s 94, .c (.int .i64 (m : Int)), .c (.int .i64 (i : Int)), s 97, s 98, s 99, s 100, s 101, s 102, s 103, s 104, s 105, s 106, s 107, s 108, s 109, s 110, s 111, s 112, s 113, s 114, s 115, s 116, .c (.int .i64 ((32 * r : Nat) : Int)), .c (.int .i64 (j : Int)), s 119, s 120, s 121, s 122, s 123, s 124, s 125, s 126, s 127, s 128, s 129, s 130, s 131, s 132, s 133, s 134, s 135, s 136, s 137, s 138, s 139, s 140, s 141, s 142])
theorem AC_roMix (fl : Nat) (H : AHeap) {ws : List Nat} (k first m : Nat) (log : Int) (h : StoreAt H so p a q n r R true ws) (hf : fl ≤ q) (hlog : powO log = ((m : Int), 0)) (hm : 1 ≤ m) (hfm : first + m ≤ R) (hk : k < R) (hne : ¬ (first ≤ k ∧ k < first + m)) (hR : R ≤ 1000000) :
    AC A fl F_romix_Store_Mix [.c (.ptr so 0), .c (.int .i64 (k : Int)), .c (.int .i64 log), .c (.int .i64 (first : Int))] H
      (fun v H' => v = .c (.int .i64 0) ∧ Chg (· = q) H H' ∧ ∃ ws', StoreAt H' so p a q n r R true ws' ∧ rowsO ws' (32 * r) R = mixR r k first m (rowsO ws (32 * r) R)) := by
  have hc := hcells_own h.own
  have hr1 := h.r1; have hr2 := h.r2
  have sl := hown_lt h.own; have pl := hown_lt h.pc.own; have ql := hown_lt h.pc.blk
  have hh : hasO R true (k : Int) = 0 := by simp only [hasO]; rw [if_neg (by omega)]; rfl
  have e1 : IntKind.i64.wrap ((R : Int) - (first : Int)) = (R : Int) - (first : Int) := i64_of (by omega) (by omega)
  have e2 : IntKind.i64.wrap ((k : Int) - (first : Int)) = (k : Int) - (first : Int) := i64_of (by omega) (by omega)
  have z32 : ¬ ((32 : Int) = 0) := by omega
  have e3 : Int.tdiv ((32 * r : Nat) : Int) 32 = (r : Int) := (tdiv_nat (a := 32 * r) (b := 32)).trans (by rw [Nat.mul_div_cancel_left _ (by omega)])
  have e4 : IntKind.i64.wrap (r : Int) = (r : Int) := i64_of (by omega) (by omega)
  have hall := h.all
  have hx0 := h.row hk
  have hlen0 : (rowsO ws (32 * r) R).length = R := rowsO_length
  have hx0' : (rowsO ws (32 * r) R).getD k [] = rowO ws (32 * r) k := rowsO_getD hk
  refine AC_enter t_romix_Store_Mix ?_; simp only [c_romix_Store_Mix, enterA, List.replicate, List.length_cons, List.length_nil, Nat.reduceAdd, Nat.reduceSub, List.cons_append, List.nil_append]
  refine GO ?_
  refine AO_call rfl (AC_roHas fl H k h) ?_
  rintro _ _ ⟨rfl, rfl⟩
  rw [hh]
  refine GO ?_
  refine AO_call rfl (AC_Power fl H log) ?_
  rintro _ _ ⟨rfl, rfl⟩
  rw [hlog]
  rcases Decidable.em ((k : Int) ≥ (first : Int)) with hkf | hkf
  case' inl =>
    (repeat (first | refine GOS ?_ | (with_reducible (first | apply AO_any | apply AHd_any | apply AP_go | apply AHP_go); focus (simp only [Sm, wantedA, execA, stepA, List.getElem?_cons_zero, List.getElem?_cons_succ, if_true, if_false, binA, binInt, unA, eqA, Option.map, eq_self, reduceCtorEq, ite_true, ite_false, cellsAV, fitsAll, CK.fits, fillA, AV.cells, writeN, sliceCells, appendA, lenA, i64, loA, hiA, Nat.reduceAdd, Nat.reduceMul, Nat.reduceDiv, Nat.reduceSub, Nat.reduceLeDiff, Nat.reduceLT, Int.reduceLE, Int.reduceLT, foldA, maxA, minA, Int.reduceBEq, Int.reduceBNe, Int.reduceGT, Int.reduceGE, Int.reduceEq, Int.reduceNe, Int.reduceToNat, AOp.stops, ↓want_eq, ↓exec_lenX, ↓exec_storeX, ↓exec_storeN, storeN_one, ↓exec_bsX, ↓exec_sliceX, ↓exec_copyX, ↓exec_appNil, ↓exec_carryX, Nat.sub_zero, rep_len, hc, decide_eq_false (show ¬ (first : Int) < 0 by omega), decide_eq_false (show ¬ (first : Int) > (R : Int) by omega), e1, decide_eq_false (show ¬ (m : Int) > (R : Int) - (first : Int) by omega), decide_eq_true hkf, e2, decide_eq_false (show ¬ (k : Int) - (first : Int) < (m : Int) by omega), z32, e3, e4]; with_reducible first | exact EqP.at_ | exact EqP.cont | exact EqP.hcont | exact EqP.gate | exact EqP.hgate))))
  case' inr =>
    (repeat (first | refine GOS ?_ | (with_reducible (first | apply AO_any | apply AHd_any | apply AP_go | apply AHP_go); focus (simp only [Sm, wantedA, execA, stepA, List.getElem?_cons_zero, List.getElem?_cons_succ, if_true, if_false, binA, binInt, unA, eqA, Option.map, eq_self, reduceCtorEq, ite_true, ite_false, cellsAV, fitsAll, CK.fits, fillA, AV.cells, writeN, sliceCells, appendA, lenA, i64, loA, hiA, Nat.reduceAdd, Nat.reduceMul, Nat.reduceDiv, Nat.reduceSub, Nat.reduceLeDiff, Nat.reduceLT, Int.reduceLE, Int.reduceLT, foldA, maxA, minA, Int.reduceBEq, Int.reduceBNe, Int.reduceGT, Int.reduceGE, Int.reduceEq, Int.reduceNe, Int.reduceToNat, AOp.stops, ↓want_eq, ↓exec_lenX, ↓exec_storeX, ↓exec_storeN, storeN_one, ↓exec_bsX, ↓exec_sliceX, ↓exec_copyX, ↓exec_appNil, ↓exec_carryX, Nat.sub_zero, rep_len, hc, decide_eq_false (show ¬ (first : Int) < 0 by omega), decide_eq_false (show ¬ (first : Int) > (R : Int) by omega), e1, decide_eq_false (show ¬ (m : Int) > (R : Int) - (first : Int) by omega), decide_eq_false hkf, z32, e3, e4]; with_reducible first | exact EqP.at_ | exact EqP.cont | exact EqP.hcont | exact EqP.gate | exact EqP.hgate))))
  all_goals
    refine AO_call rfl ((AC_roRow H k h hk).floor (by omega)) ?_
    rintro _ H1 ⟨⟨x, rfl, hx⟩, k1⟩
    obtain ⟨o1, rfl, ho1, g1⟩ := own_slc hx hx0.len (by omega)
    have h1 := h.kept k1
    refine GO ?_
    refine AW_mid (fun e fr H' => e = .normal ∧ maI24 so p a q n r R k first m (rowsO ws (32 * r) R) (rowO ws (32 * r) k) H m fr H') ?_ ?_
    · refine AW_block (AW_up (maI24 so p a q n r R k first m (rowsO ws (32 * r) R) (rowO ws (32 * r) k) H) m ⟨(Chg.of_kept k1).mono (fun _ _ h => h.elim), ws, o1, h1, rfl, ho1, g1, stale _ _ rfl⟩ ?_)
      rintro i fr H2 hi ⟨c2, ws2, o2, h2, hr2', ho2, g2, st, rfl⟩
      have l2 := c2.1
      refine GO ?_
      refine AW_cond rfl ?_ ?_ <;> intro ht
      · have ht : (i : Int) < (m : Int) := of_decide_eq_true ht
        have hi2 : i < m := by omega
        obtain ⟨fl1, fl2, fl3⟩ := fillR_ok (first := first) hall hx0 i
        have e5 : IntKind.i64.wrap ((first : Int) + (i : Int)) = ((first + i : Nat) : Int) := i64_add (by omega)
        (repeat (first | refine GOS ?_ | (with_reducible (first | apply AO_any | apply AHd_any | apply AP_go | apply AHP_go); focus (simp only [Sm, wantedA, execA, stepA, List.getElem?_cons_zero, List.getElem?_cons_succ, if_true, if_false, binA, binInt, unA, eqA, Option.map, eq_self, reduceCtorEq, ite_true, ite_false, cellsAV, fitsAll, CK.fits, fillA, AV.cells, writeN, sliceCells, appendA, lenA, i64, loA, hiA, Nat.reduceAdd, Nat.reduceMul, Nat.reduceDiv, Nat.reduceSub, Nat.reduceLeDiff, Nat.reduceLT, Int.reduceLE, Int.reduceLT, foldA, maxA, minA, Int.reduceBEq, Int.reduceBNe, Int.reduceGT, Int.reduceGE, Int.reduceEq, Int.reduceNe, Int.reduceToNat, AOp.stops, ↓want_eq, ↓exec_lenX, ↓exec_storeX, ↓exec_storeN, storeN_one, ↓exec_bsX, ↓exec_sliceX, ↓exec_copyX, ↓exec_appNil, ↓exec_carryX, Nat.sub_zero, rep_len, ht, e5]; with_reducible first | exact EqP.at_ | exact EqP.cont | exact EqP.hcont | exact EqP.gate | exact EqP.hgate))))
        refine AO_call rfl (AC_roPut fl H2 (first + i) (.slc o2 0 (32 * r) 1) _ h2 (by omega) (Rd.all (hcells_own g2) (by rw [W32_length, fl3.len])) (by rintro ⟨_, _, _, e⟩; injection e with e; omega) fl3.len fl3.lt hf) ?_
        rintro _ H3 ⟨rfl, h3, c3, l3⟩
        have g3 := c3.hown (show ¬ o2 = q by omega) g2
        refine GO ?_
        refine AO_call rfl ((AC_shMix H3 (.slc o2 0 (32 * r) 1) _ r (Rd.all (hcells_own g3) (by rw [W32_length, fl3.len])) fl3).kept (by omega)) ?_
        rintro _ H4 ⟨⟨o4, rfl, ho4, g4⟩, k4⟩
        (repeat (first | refine GOS ?_ | (with_reducible (first | apply AO_any | apply AHd_any | apply AP_go | apply AHP_go); focus (simp only [Sm, wantedA, execA, stepA, List.getElem?_cons_zero, List.getElem?_cons_succ, if_true, if_false, binA, binInt, unA, eqA, Option.map, eq_self, reduceCtorEq, ite_true, ite_false, cellsAV, fitsAll, CK.fits, fillA, AV.cells, writeN, sliceCells, appendA, lenA, i64, loA, hiA, Nat.reduceAdd, Nat.reduceMul, Nat.reduceDiv, Nat.reduceSub, Nat.reduceLeDiff, Nat.reduceLT, Int.reduceLE, Int.reduceLT, foldA, maxA, minA, Int.reduceBEq, Int.reduceBNe, Int.reduceGT, Int.reduceGE, Int.reduceEq, Int.reduceNe, Int.reduceToNat, AOp.stops, ↓want_eq, ↓exec_lenX, ↓exec_storeX, ↓exec_storeN, storeN_one, ↓exec_bsX, ↓exec_sliceX, ↓exec_copyX, ↓exec_appNil, ↓exec_carryX, Nat.sub_zero, rep_len, i64_succ (show i < 9223372036854775807 by omega)]; with_reducible first | exact EqP.at_ | exact EqP.cont | exact EqP.hcont | exact EqP.gate | exact EqP.hgate))))
        refine ⟨hi2, (c2.trans c3 (fun _ _ h => h)).trans (Chg.of_kept k4) (fun _ _ h => h.elim), _, o4, h3.kept k4, ?_, by omega, g4, stale _ _ rfl⟩
        rw [rowsO_put h2.room (by omega) fl3.len, hr2']; rfl
      · obtain rfl : i = m := by have : ¬ (i : Int) < (m : Int) := of_decide_eq_false ht; omega
        exact AW_exit ⟨rfl, c2, ws2, o2, h2, hr2', ho2, g2, stale _ _ rfl⟩
    rintro e fr H2 ⟨rfl, c2, ws2, o2, h2, hr2', ho2, g2, st, rfl⟩
    obtain ⟨fl1, fl2, fl3⟩ := fillR_ok (first := first) hall hx0 m
    have hm0 : mixR r k first m (rowsO ws (32 * r) R) = (fillR r first (rowsO ws (32 * r) R) (rowO ws (32 * r) k) m).1.set k (turnR r first m (fillR r first (rowsO ws (32 * r) R) (rowO ws (32 * r) k) m).1 (fillR r first (rowsO ws (32 * r) R) (rowO ws (32 * r) k) m).2 m) := by rw [mixR, hx0']
    rw [hlen0] at fl1
    generalize fillR r first (rowsO ws (32 * r) R) (rowO ws (32 * r) k) m = F at *
    obtain ⟨rows, x1⟩ := F
    simp only at fl1 fl2 fl3 hr2' g2 hm0
    rw [hm0]
    clear hm0
    refine GO ?_
    refine AW_mid (fun e fr H' => e = .normal ∧ mbI24 so p a q n r R k first m rows x1 ws2 H m fr H') ?_ ?_
    · refine AW_block (AW_up (mbI24 so p a q n r R k first m rows x1 ws2 H) m ⟨c2, o2, h2, ho2, g2, stale _ _ rfl⟩ ?_)
      rintro i fr H3 hi ⟨c3, o3, h3, ho3, g3, st, rfl⟩
      have l3 := c3.1
      have o3l := hown_lt g3
      have ht3 := turnR_ok (first := first) (m := m) fl2 fl3 hm (by rw [fl1]; omega) i
      refine GO ?_
      refine AW_cond rfl ?_ ?_ <;> intro ht
      · have ht : (i : Int) < (m : Int) := of_decide_eq_true ht
        have hi2 : i < m := by omega
        have hst : turnR r first m rows x1 (i + 1) = mixW r (xorW (turnR r first m rows x1 i) (rows.getD (first + intV r (turnR r first m rows x1 i) % m) []) (32 * r)) := rfl
        generalize turnR r first m rows x1 i = T at *
        (repeat (first | refine GOS ?_ | (with_reducible (first | apply AO_any | apply AHd_any | apply AP_go | apply AHP_go); focus (simp only [Sm, wantedA, execA, stepA, List.getElem?_cons_zero, List.getElem?_cons_succ, if_true, if_false, binA, binInt, unA, eqA, Option.map, eq_self, reduceCtorEq, ite_true, ite_false, cellsAV, fitsAll, CK.fits, fillA, AV.cells, writeN, sliceCells, appendA, lenA, i64, loA, hiA, Nat.reduceAdd, Nat.reduceMul, Nat.reduceDiv, Nat.reduceSub, Nat.reduceLeDiff, Nat.reduceLT, Int.reduceLE, Int.reduceLT, foldA, maxA, minA, Int.reduceBEq, Int.reduceBNe, Int.reduceGT, Int.reduceGE, Int.reduceEq, Int.reduceNe, Int.reduceToNat, AOp.stops, ↓want_eq, ↓exec_lenX, ↓exec_storeX, ↓exec_storeN, storeN_one, ↓exec_bsX, ↓exec_sliceX, ↓exec_copyX, ↓exec_appNil, ↓exec_carryX, Nat.sub_zero, rep_len, ht]; with_reducible first | exact EqP.at_ | exact EqP.cont | exact EqP.hcont | exact EqP.gate | exact EqP.hgate))))
        refine AO_call rfl ((AC_shInteger H3 (.slc o3 0 (32 * r) 1) T r (Rd.all (hcells_own g3) (by rw [W32_length, ht3.len])) ht3).floor (by omega)) ?_
        rintro _ _ ⟨rfl, rfl⟩
        have w1 : IntKind.u64.wrap (m : Int) = (m : Int) := by rw [wrap_u64]; omega
        have zm : ¬ ((m : Int) = 0) := by omega
        have w2 : Int.tmod ((intV r T : Nat) : Int) (m : Int) = ((intV r T % m : Nat) : Int) := tmod_nat
        have hlt := Nat.mod_lt (intV r T) hm
        have w3 : IntKind.i64.wrap ((intV r T % m : Nat) : Int) = ((intV r T % m : Nat) : Int) := i64_of (by omega) (by omega)
        have w4 : IntKind.i64.wrap ((first : Int) + ((intV r T % m : Nat) : Int)) = ((first + intV r T % m : Nat) : Int) := i64_add (by omega)
        (repeat (first | refine GOS ?_ | (with_reducible (first | apply AO_any | apply AHd_any | apply AP_go | apply AHP_go); focus (simp only [Sm, wantedA, execA, stepA, List.getElem?_cons_zero, List.getElem?_cons_succ, if_true, if_false, binA, binInt, unA, eqA, Option.map, eq_self, reduceCtorEq, ite_true, ite_false, cellsAV, fitsAll, CK.fits, fillA, AV.cells, writeN, sliceCells, appendA, lenA, i64, loA, hiA, Nat.reduceAdd, Nat.reduceMul, Nat.reduceDiv, Nat.reduceSub, Nat.reduceLeDiff, Nat.reduceLT, Int.reduceLE, Int.reduceLT, foldA, maxA, minA, Int.reduceBEq, Int.reduceBNe, Int.reduceGT, Int.reduceGE, Int.reduceEq, Int.reduceNe, Int.reduceToNat, AOp.stops, ↓want_eq, ↓exec_lenX, ↓exec_storeX, ↓exec_storeN, storeN_one, ↓exec_bsX, ↓exec_sliceX, ↓exec_copyX, ↓exec_appNil, ↓exec_carryX, Nat.sub_zero, rep_len, w1, zm, w2, w3, w4]; with_reducible first | exact EqP.at_ | exact EqP.cont | exact EqP.hcont | exact EqP.gate | exact EqP.hgate))))
        have hd : first + intV r T % m < R := by omega
        generalize first + intV r T % m = d at *
        refine AO_call rfl ((AC_roRow H3 d h3 hd).floor (by omega)) ?_
        rintro _ H4 ⟨⟨x, rfl, hx⟩, k4⟩
        have y := h3.row hd
        have hY : rows.getD d [] = rowO ws2 (32 * r) d := by rw [← hr2', rowsO_getD hd]
        rw [hY] at hst
        generalize rowO ws2 (32 * r) d = Y at *
        obtain ⟨v, rfl, hv, gv⟩ := own_slc hx y.len (by omega)
        have g4 : hown H4 o3 = some (W32 T) := by rw [k4.hown o3l o3l]; exact g3
        have l4 := k4.1
        have ly : lenX H4 (.c (.slc o3 0 (32 * r) 1)) = some (.c (.int .i64 ((32 * r : Nat) : Int)), H4) := (Rd.all (hcells_own g4) (by rw [W32_length, ht3.len])).len (32 * r) (by rw [W32_length, ht3.len]; omega) (by decide)
        (repeat (first | refine GOS ?_ | (with_reducible (first | apply AO_any | apply AHd_any | apply AP_go | apply AHP_go); focus (simp only [Sm, wantedA, execA, stepA, List.getElem?_cons_zero, List.getElem?_cons_succ, if_true, if_false, binA, binInt, unA, eqA, Option.map, eq_self, reduceCtorEq, ite_true, ite_false, cellsAV, fitsAll, CK.fits, fillA, AV.cells, writeN, sliceCells, appendA, lenA, i64, loA, hiA, Nat.reduceAdd, Nat.reduceMul, Nat.reduceDiv, Nat.reduceSub, Nat.reduceLeDiff, Nat.reduceLT, Int.reduceLE, Int.reduceLT, foldA, maxA, minA, Int.reduceBEq, Int.reduceBNe, Int.reduceGT, Int.reduceGE, Int.reduceEq, Int.reduceNe, Int.reduceToNat, AOp.stops, ↓want_eq, ↓exec_lenX, ↓exec_storeX, ↓exec_storeN, storeN_one, ↓exec_bsX, ↓exec_sliceX, ↓exec_copyX, ↓exec_appNil, ↓exec_carryX, Nat.sub_zero, rep_len, ly]; with_reducible first | exact EqP.at_ | exact EqP.cont | exact EqP.hcont | exact EqP.gate | exact EqP.hgate))))
        refine AW_mid (fun e fr H' => e = .normal ∧ mcI24 so r k first m i o3 v T Y H4 (32 * r) fr H') ?_ ?_
        · refine AW_block (AW_up (mcI24 so r k first m i o3 v T Y H4) (32 * r) ⟨Chg.refl _ _, g4, stale _ _ rfl⟩ ?_)
          rintro j fr H5 hj ⟨c5, g5, st, rfl⟩
          refine GO ?_
          refine AW_cond rfl ?_ ?_ <;> intro ht5
          · have ht5 : (j : Int) < ((32 * r : Nat) : Int) := of_decide_eq_true ht5
            have hj2 : j < 32 * r := by omega
            have hX := xorW_row ht3 y j
            have gv5 := c5.hcells (show ¬ v = o3 by omega) (hcells_own gv)
            have gy := W32_get (xs := Y) (i := j) (by rw [y.len]; omega)
            have gx : (W32 (xorW T Y j))[j]? = some (.int .u32 ((T.getD j 0 : Nat) : Int)) := by
              rw [W32_get (by rw [hX.len]; omega)]
              congr 3
              have := upd_self (f := fun c => T.getD c 0 ^^^ Y.getD c 0) (l := T) j (by rw [ht3.len]; omega)
              simp only [xorW, List.getD_eq_getElem?_getD] at this ⊢
              rw [this]
            have ex := xor32 (ht3.lt j) (y.lt j)
            have xl : (W32 (xorW T Y j)).length = 32 * r := by rw [W32_length, hX.len]
            (repeat (first | refine GOS ?_ | (with_reducible (first | apply AO_any | apply AHd_any | apply AP_go | apply AHP_go); focus (simp only [Sm, wantedA, execA, stepA, List.getElem?_cons_zero, List.getElem?_cons_succ, if_true, if_false, binA, binInt, unA, eqA, Option.map, eq_self, reduceCtorEq, ite_true, ite_false, cellsAV, fitsAll, CK.fits, fillA, AV.cells, writeN, sliceCells, appendA, lenA, i64, loA, hiA, Nat.reduceAdd, Nat.reduceMul, Nat.reduceDiv, Nat.reduceSub, Nat.reduceLeDiff, Nat.reduceLT, Int.reduceLE, Int.reduceLT, foldA, maxA, minA, Int.reduceBEq, Int.reduceBNe, Int.reduceGT, Int.reduceGE, Int.reduceEq, Int.reduceNe, Int.reduceToNat, AOp.stops, ↓want_eq, ↓exec_lenX, ↓exec_storeX, ↓exec_storeN, storeN_one, ↓exec_bsX, ↓exec_sliceX, ↓exec_copyX, ↓exec_appNil, ↓exec_carryX, Nat.sub_zero, rep_len, hcells_own g5, gv5, ht5, gx, gy, ex, storeX_own g5 (show fl ≤ o3 by omega) (by rw [xl]; exact hj2 : j < _), Nat.zero_add, i64_succ (show j < 9223372036854775807 by omega)]; with_reducible first | exact EqP.at_ | exact EqP.cont | exact EqP.hcont | exact EqP.gate | exact EqP.hgate))))
            refine ⟨hj2, c5.trans (Chg.set (S := (· = o3)) rfl) (fun _ _ h => h), ?_, stale _ _ rfl⟩
            rw [hown_set (hown_lt g5), W32_setL]; rfl
          · obtain rfl : j = 32 * r := by have : ¬ (j : Int) < ((32 * r : Nat) : Int) := of_decide_eq_false ht5; omega
            exact AW_exit ⟨rfl, c5, g5, stale _ _ rfl⟩
        rintro e fr H5 ⟨rfl, c5, g5, st, rfl⟩
        have l5 := c5.1
        have hX := xorW_row ht3 y (32 * r)
        refine GO ?_
        refine AO_call rfl ((AC_shMix H5 (.slc o3 0 (32 * r) 1) _ r (Rd.all (hcells_own g5) (by rw [W32_length, hX.len])) hX).kept (by omega)) ?_
        rintro _ H6 ⟨⟨o6, rfl, ho6, g6⟩, k6⟩
        (repeat (first | refine GOS ?_ | (with_reducible (first | apply AO_any | apply AHd_any | apply AP_go | apply AHP_go); focus (simp only [Sm, wantedA, execA, stepA, List.getElem?_cons_zero, List.getElem?_cons_succ, if_true, if_false, binA, binInt, unA, eqA, Option.map, eq_self, reduceCtorEq, ite_true, ite_false, cellsAV, fitsAll, CK.fits, fillA, AV.cells, writeN, sliceCells, appendA, lenA, i64, loA, hiA, Nat.reduceAdd, Nat.reduceMul, Nat.reduceDiv, Nat.reduceSub, Nat.reduceLeDiff, Nat.reduceLT, Int.reduceLE, Int.reduceLT, foldA, maxA, minA, Int.reduceBEq, Int.reduceBNe, Int.reduceGT, Int.reduceGE, Int.reduceEq, Int.reduceNe, Int.reduceToNat, AOp.stops, ↓want_eq, ↓exec_lenX, ↓exec_storeX, ↓exec_storeN, storeN_one, ↓exec_bsX, ↓exec_sliceX, ↓exec_copyX, ↓exec_appNil, ↓exec_carryX, Nat.sub_zero, rep_len, i64_succ (show i < 9223372036854775807 by omega)]; with_reducible first | exact EqP.at_ | exact EqP.cont | exact EqP.hcont | exact EqP.gate | exact EqP.hgate))))
        have sl3 := hown_lt h3.own; have pl3 := hown_lt h3.pc.own; have ql3 := hown_lt h3.pc.blk
        refine ⟨hi2, ((c3.trans (Chg.of_kept k4) (fun _ _ h => h.elim)).trans c5 (fun b hb e => by omega)).trans (Chg.of_kept k6) (fun _ _ h => h.elim), o6, (((h3.kept k4).chg c5 (by omega) (by omega) (by omega)).kept k6), by omega, by rw [hst]; exact g6, stale _ _ rfl⟩
      · obtain rfl : i = m := by have : ¬ (i : Int) < (m : Int) := of_decide_eq_false ht; omega
        exact AW_exit ⟨rfl, c3, o3, h3, ho3, g3, stale _ _ rfl⟩
    rintro e fr H3 ⟨rfl, c3, o3, h3, ho3, g3, st, rfl⟩
    have ht3 := turnR_ok (first := first) (m := m) fl2 fl3 hm (by rw [fl1]; omega) m
    generalize turnR r first m rows x1 m = T at *
    refine GO ?_
    refine AO_call rfl (AC_roPut fl H3 k (.slc o3 0 (32 * r) 1) T h3 hk (Rd.all (hcells_own g3) (by rw [W32_length, ht3.len])) (by rintro ⟨_, _, _, e⟩; injection e with e; omega) ht3.len ht3.lt hf) ?_
    rintro _ H4 ⟨rfl, h4, c4, l4⟩
    refine GO ?_
    refine AW_ret ⟨_, rfl, rfl, c3.trans c4 (fun _ _ h => h), _, h4, ?_⟩
    rw [rowsO_put h3.room hk ht3.len, hr2']
end
end PK

/- Package pestlelaw24 as code of the abstract machine. -/
namespace PK
open Go PAbs

end PK

/- The helpers of the laws on romix: store, all, same, awake. -/
namespace PK
open Go PAbs
set_option linter.unusedSimpArgs false
set_option linter.unusedVariables false
set_option maxRecDepth 100000
set_option maxHeartbeats 4000000

def RdRows (W : Nat) (H : AHeap) (y : Cell) (rows : List (List Nat)) : Prop :=
  ∃ xs, Rd H y 1 xs ∧ xs.length = rows.length ∧ ∀ j, j < rows.length → ∃ x, xs[j]? = some x ∧ Rd H x 1 (W32 (rows.getD j [])) ∧ (rows.getD j []).length = W
def slcs (os : List Nat) (W : Nat) : List Cell := os.map fun o => .slc o 0 W 1
theorem slcs_length {os : List Nat} {W : Nat} : (slcs os W).length = os.length := by simp [slcs]
theorem slcs_get {os : List Nat} {W j : Nat} (h : j < os.length) : (slcs os W)[j]? = some (.slc (os.getD j 0) 0 W 1) := by
  rw [slcs, List.getElem?_map, List.getD_eq_getElem?_getD, List.getElem?_eq_getElem h]; rfl
def RowsAt (f W : Nat) (H : AHeap) (y : Cell) (rows : List (List Nat)) : Prop :=
  ∃ os, Own f H y 1 (slcs os W) ∧ os.length = rows.length ∧ ∀ j, j < rows.length → f ≤ os.getD j 0 ∧ hown H (os.getD j 0) = some (W32 (rows.getD j [])) ∧ (rows.getD j []).length = W
theorem RowsAt.rd {f W : Nat} {H : AHeap} {y : Cell} {rows : List (List Nat)} (h : RowsAt f W H y rows) : RdRows W H y rows := by
  obtain ⟨os, h1, h2, h3⟩ := h
  refine ⟨_, h1.rd, by rw [slcs_length, h2], fun j hj => ?_⟩
  obtain ⟨_, h4, h5⟩ := h3 j hj
  exact ⟨_, slcs_get (by omega), Rd.all (hcells_own h4) (by rw [W32_length, h5]), h5⟩
theorem RdRows.chg {S : Nat → Prop} {W f : Nat} {H H' : AHeap} {y : Cell} {rows : List (List Nat)} (h : RdRows W H y rows) (hc : Chg S H H') (hs : ∀ b, b < H.length → ¬ S b) : RdRows W H' y rows := by
  obtain ⟨xs, h1, h2, h3⟩ := h
  refine ⟨xs, h1.chg hc (fun b hb => hs b (h1.lt hb)), h2, fun j hj => ?_⟩
  obtain ⟨x, h4, h5, h6⟩ := h3 j hj
  exact ⟨x, h4, h5.chg hc (fun b hb => hs b (h5.lt hb)), h6⟩
theorem RowsAt.chg {S : Nat → Prop} {f W : Nat} {H H' : AHeap} {y : Cell} {rows : List (List Nat)} (h : RowsAt f W H y rows) (hc : Chg S H H') (hs : ∀ b, f ≤ b → b < H.length → ¬ S b) : RowsAt f W H' y rows := by
  obtain ⟨os, h1, h2, h3⟩ := h
  refine ⟨os, h1.chg hc (fun b hb => hs b (h1.le hb) (h1.lt' hb)), h2, fun j hj => ?_⟩
  obtain ⟨h4, h5, h6⟩ := h3 j hj
  exact ⟨h4, hc.hown (hs _ h4 (hown_lt h5)) h5, h6⟩
theorem RowsAt.kept {f W : Nat} {H H' : AHeap} {y : Cell} {rows : List (List Nat)} (h : RowsAt f W H y rows) (k : Kept H.length H H') : RowsAt f W H' y rows := h.chg (Chg.of_kept k) (fun _ _ _ h => h)
theorem RowsAt.floor {f g W : Nat} {H : AHeap} {y : Cell} {rows : List (List Nat)} (h : RowsAt f W H y rows) (hg : g ≤ f) : RowsAt g W H y rows := by
  obtain ⟨os, h1, h2, h3⟩ := h
  exact ⟨os, h1.mono hg, h2, fun j hj => ⟨Nat.le_trans hg (h3 j hj).1, (h3 j hj).2⟩⟩
theorem RowsAt.nil {f W : Nat} {H : AHeap} : RowsAt f W H .snil [] := ⟨[], Own.nil, rfl, fun j hj => absurd hj (Nat.not_lt_zero _)⟩
theorem W32_slcs {l os : List Nat} {W : Nat} (h : W32 l = slcs os W) (h0 : 0 < l.length) : False := by
  cases l with
  | nil => simp at h0
  | cons x l => cases os with
    | nil => simp [W32, slcs] at h
    | cons o os => simp [W32, slcs] at h
theorem RowsAt.push {f W o : Nat} {H H' : AHeap} {y y' : Cell} {rows : List (List Nat)} {l : List Nat} (h : RowsAt f W H y rows) (hW : 0 < W) (ho : f ≤ o) (hl : l.length = W) (hol : hown H o = some (W32 l)) (hc : Chg (inX y) H H')
    (hx : ∀ os, Own f H y 1 (slcs os W) → Own f H' y' 1 (slcs os W ++ [.slc o 0 W 1])) : RowsAt f W H' y' (rows ++ [l]) := by
  obtain ⟨os, h1, h2, h3⟩ := h
  have nx : ∀ b l', hown H b = some (W32 l') → l'.length = W → ¬ inX y b := by
    rintro b l' hb hl' ⟨u, n, z, rfl⟩
    rcases h1 with ⟨h, _⟩ | ⟨s, m, e, _, _, h4⟩
    · cases h
    · injection e with e1; subst e1
      rw [h4] at hb
      exact W32_slcs (Option.some.inj hb).symm (by omega)
  refine ⟨os ++ [o], ?_, by simp [h2], fun j hj => ?_⟩
  · have := hx os h1
    simpa [slcs] using this
  · rw [List.length_append, List.length_singleton] at hj
    by_cases e : j < rows.length
    · obtain ⟨h4, h5, h6⟩ := h3 j e
      have e1 : (os ++ [o]).getD j 0 = os.getD j 0 := by rw [List.getD_eq_getElem?_getD, List.getElem?_append_left (by omega), List.getD_eq_getElem?_getD]
      have e2 : (rows ++ [l]).getD j [] = rows.getD j [] := by rw [List.getD_eq_getElem?_getD, List.getElem?_append_left (by omega), List.getD_eq_getElem?_getD]
      rw [e1, e2]
      exact ⟨h4, hc.hown (nx _ _ h5 h6) h5, h6⟩
    · obtain rfl : j = rows.length := by omega
      have e1 : (os ++ [o]).getD rows.length 0 = o := by rw [List.getD_eq_getElem?_getD, List.getElem?_append_right (by omega), h2]; simp
      have e2 : (rows ++ [l]).getD rows.length [] = l := by rw [List.getD_eq_getElem?_getD, List.getElem?_append_right (by omega)]; simp
      rw [e1, e2]
      exact ⟨ho, hc.hown (nx _ _ hol hl) hol, hl⟩
section
variable {so p a q n r R : Nat}

end
end PK

/- Package pestleref24 as code of the abstract machine. -/
namespace PK
open Go PAbs

end PK

/- Package pestleref02 as code of the abstract machine. -/
namespace PK
open Go PAbs

end PK

/- The document's mixing of rows, and its reasons. -/
namespace PK
open Go PAbs
set_option linter.unusedSimpArgs false
set_option linter.unusedVariables false
set_option maxRecDepth 100000
set_option maxHeartbeats 4000000


def RowsIn (f g W : Nat) (H : AHeap) (y : Cell) (rows : List (List Nat)) : Prop :=
  ∃ os, Own f H y 1 (slcs os W) ∧ (∀ b, inX y b → b < g) ∧ os.length = rows.length ∧ ∀ j, j < rows.length → f ≤ os.getD j 0 ∧ os.getD j 0 < g ∧ hown H (os.getD j 0) = some (W32 (rows.getD j [])) ∧ (rows.getD j []).length = W
theorem RowsIn.at_ {f g W : Nat} {H : AHeap} {y : Cell} {rows : List (List Nat)} (h : RowsIn f g W H y rows) : RowsAt f W H y rows := by
  obtain ⟨os, h1, _, h2, h3⟩ := h
  exact ⟨os, h1, h2, fun j hj => ⟨(h3 j hj).1, (h3 j hj).2.2⟩⟩
theorem RowsIn.chg {S : Nat → Prop} {f g W : Nat} {H H' : AHeap} {y : Cell} {rows : List (List Nat)} (h : RowsIn f g W H y rows) (hc : Chg S H H') (hs : ∀ b, f ≤ b → b < g → ¬ S b) : RowsIn f g W H' y rows := by
  obtain ⟨os, h1, h2, h3, h4⟩ := h
  refine ⟨os, h1.chg hc (fun b hb => hs b (h1.le hb) (h2 b hb)), h2, h3, fun j hj => ?_⟩
  obtain ⟨h5, h6, h7, h8⟩ := h4 j hj
  exact ⟨h5, h6, hc.hown (hs _ h5 h6) h7, h8⟩
theorem RowsIn.kept {f g W : Nat} {H H' : AHeap} {y : Cell} {rows : List (List Nat)} (h : RowsIn f g W H y rows) (k : Kept H.length H H') : RowsIn f g W H' y rows := h.chg (Chg.of_kept k) (fun _ _ _ h => h)
theorem RowsAt.store {fl f W o d b : Nat} {H : AHeap} {os : List Nat} {rows : List (List Nat)} {l : List Nat} (hW : 0 < W) (hfl : fl ≤ f) (hb : f ≤ b) (h1 : hown H b = some (slcs os W)) (h2 : os.length = rows.length) (h3 : ∀ j, j < rows.length → f ≤ os.getD j 0 ∧ hown H (os.getD j 0) = some (W32 (rows.getD j [])) ∧ (rows.getD j []).length = W)
    (hd : d < rows.length) (ho : f ≤ o) (hol : hown H o = some (W32 l)) (hl : l.length = W) :
    ∃ H', storeX fl H (.c (.ptr b d)) (.c (.slc o 0 W 1)) = some (aundef, H') ∧ RowsAt f W H' (.slc b 0 rows.length 1) (rows.set d l) ∧ Chg (· = b) H H' ∧ H'.length = H.length := by
  obtain ⟨H', s1, s2, s3, s4⟩ := storeX_ex (fl := fl) (o := d) h1 (by omega) (by rw [slcs_length]; omega) (.slc o 0 W 1)
  have nx : ∀ u l', hown H u = some (W32 l') → l'.length = W → ¬ u = b := by
    rintro u l' hu hl' rfl
    rw [h1] at hu
    exact W32_slcs (Option.some.inj hu).symm (by omega)
  have e0 : (slcs os W).set d (.slc o 0 W 1) = slcs (os.set d o) W := by simp [slcs, List.map_set]
  refine ⟨H', s1, ⟨os.set d o, .inr ⟨b, rows.length, rfl, by rw [slcs_length, List.length_set]; omega, hb, by rw [← e0]; exact s2⟩, by simp [h2], fun j hj => ?_⟩, s3, s4⟩
  rw [List.length_set] at hj
  by_cases e : d = j
  · subst e
    have e1 : (os.set d o).getD d 0 = o := by rw [List.getD_eq_getElem?_getD, List.getElem?_set, if_pos rfl, if_pos (by omega)]; rfl
    have e2 : (rows.set d l).getD d [] = l := by rw [List.getD_eq_getElem?_getD, List.getElem?_set, if_pos rfl, if_pos (by omega)]; rfl
    rw [e1, e2]
    exact ⟨ho, s3.hown (nx _ _ hol hl) hol, hl⟩
  · obtain ⟨h4, h5, h6⟩ := h3 j hj
    have e1 : (os.set d o).getD j 0 = os.getD j 0 := by rw [List.getD_eq_getElem?_getD, List.getElem?_set, if_neg e, ← List.getD_eq_getElem?_getD]
    have e2 : (rows.set d l).getD j [] = rows.getD j [] := by rw [List.getD_eq_getElem?_getD, List.getElem?_set, if_neg e, ← List.getD_eq_getElem?_getD]
    rw [e1, e2]
    exact ⟨h4, s3.hown (nx _ _ h5 h6) h5, h6⟩
end PK

/- Package scrypt as code of the abstract machine. -/
namespace PK
open Go PAbs

noncomputable def c_scrypt_Check : AFn := AFn.mk 39 [.tmp 8]
  (.seq (.region
      [⟨some 8, .mv (.k (.c (.int .i64 0))), none⟩])
  (.seq (.region
      [⟨some 10, .mv (.t 1), none⟩,
        ⟨some 11, .call F_size_Within [.t 10, .k (.c (.int .i64 1)), .k (.c (.int .i64 512))], none⟩,
        ⟨some 12, .mv (.t 11), none⟩,
        ⟨some 13, .mv (.t 2), some (12, true)⟩,
        ⟨some 14, .call F_size_Within [.t 13, .k (.c (.int .i64 1)), .k (.c (.int .i64 512))], some (12, true)⟩,
        ⟨some 15, .pick (.t 12) (.t 14) (.k (.c (.bool false))), none⟩,
        ⟨some 16, .mv (.t 15), none⟩,
        ⟨some 17, .mv (.t 1), some (16, true)⟩,
        ⟨some 18, .mv (.t 2), some (16, true)⟩,
        ⟨some 19, .bin .mul (.t 17) (.t 18), some (16, true)⟩,
        ⟨some 20, .bin .leq (.t 19) (.k (.c (.int .i64 512))), some (16, true)⟩,
        ⟨some 21, .pick (.t 16) (.t 20) (.k (.c (.bool false))), none⟩,
        ⟨some 9, .mv (.t 21), none⟩])
  (.seq (.region
      [⟨some 22, .mv (.t 9), none⟩,
        ⟨some 23, .mv (.t 22), none⟩,
        ⟨some 24, .mv (.t 0), some (23, true)⟩,
        ⟨some 25, .call F_size_Within [.t 24, .k (.c (.int .i64 1)), .k (.c (.int .i64 32))], some (23, true)⟩,
        ⟨some 26, .pick (.t 23) (.t 25) (.k (.c (.bool false))), none⟩,
        ⟨some 27, .mv (.t 26), none⟩,
        ⟨some 28, .mv (.t 0), some (27, true)⟩,
        ⟨some 29, .mv (.t 1), some (27, true)⟩,
        ⟨some 30, .bin .mul (.k (.c (.int .i64 16))) (.t 29), some (27, true)⟩,
        ⟨some 31, .bin .lss (.t 28) (.t 30), some (27, true)⟩,
        ⟨some 32, .pick (.t 27) (.t 31) (.k (.c (.bool false))), none⟩,
        ⟨some 33, .mv (.t 32), none⟩,
        ⟨some 34, .mv (.t 3), some (33, true)⟩,
        ⟨some 35, .call F_size_Within [.t 34, .k (.c (.int .i64 1)), .k (.c (.int .i64 1024))], some (33, true)⟩,
        ⟨some 36, .pick (.t 33) (.t 35) (.k (.c (.bool false))), none⟩,
        ⟨some 9, .mv (.t 36), none⟩])
  (.seq (.seq (.region
        [⟨some 37, .mv (.t 9), none⟩,
          ⟨some 38, .un .not (.t 37), none⟩])
    (.cond (.t 38)
      (.seq (.region
          [⟨some 8, .mv (.k (.c (.int .i64 2))), none⟩])
      (.ret))
      (.skip)))
  (.seq (.region
      [⟨some 8, .mv (.k (.c (.int .i64 0))), none⟩])
  (.ret))))))
theorem t_scrypt_Check : A F_scrypt_Check = some c_scrypt_Check := by kernel_rfl

noncomputable def c_scrypt_Need : AFn := AFn.mk 48 [.tmp 6, .tmp 7]
  (.seq (.region
      [⟨some 6, .mv (.k (.c (.int .i64 0))), none⟩,
        ⟨some 7, .mv (.k (.c (.int .i64 0))), none⟩])
  (.seq (.seq (.region
        [⟨some 15, .mv (.t 0), none⟩,
          ⟨some 16, .mv (.t 1), none⟩,
          ⟨some 17, .mv (.t 2), none⟩,
          ⟨some 18, .call F_scrypt_Check [.t 15, .t 16, .t 17, .k (.c (.int .i64 1))], none⟩,
          ⟨some 8, .mv (.t 18), none⟩])
    (.seq (.region
        [⟨some 19, .mv (.t 8), none⟩,
          ⟨some 20, .bin .neq (.t 19) (.k (.c (.int .i64 0))), none⟩])
    (.cond (.t 20)
      (.seq (.region
          [⟨some 21, .mv (.t 8), none⟩,
            ⟨some 6, .mv (.k (.c (.int .i64 0))), none⟩,
            ⟨some 7, .mv (.t 21), none⟩])
      (.ret))
      (.skip))))
  (.seq (.region
      [⟨some 23, .mv (.t 0), none⟩,
        ⟨some 24, .call F_size_Power [.t 23], none⟩,
        ⟨some 22, .mv (.t 24), none⟩,
        ⟨some 25, .extract (.t 22) 0, none⟩,
        ⟨some 26, .extract (.t 22) 1, none⟩,
        ⟨some 9, .mv (.t 25), none⟩,
        ⟨some 10, .mv (.t 26), none⟩])
  (.seq (.region
      [⟨some 28, .mv (.t 9), none⟩,
        ⟨some 29, .mv (.t 2), none⟩,
        ⟨some 30, .buildSlice ([.int .i64 0, .int .i64 0, .int .i64 0]) 1 3 [(0, 1, .t 28), (1, 1, .t 29), (2, 1, .k (.c (.int .i64 2)))], none⟩,
        ⟨some 31, .call F_size_Add [.t 30], none⟩,
        ⟨some 27, .mv (.t 31), none⟩,
        ⟨some 32, .extract (.t 27) 0, none⟩,
        ⟨some 33, .extract (.t 27) 1, none⟩,
        ⟨some 11, .mv (.t 32), none⟩,
        ⟨some 12, .mv (.t 33), none⟩])
  (.seq (.region
      [⟨some 35, .mv (.t 1), none⟩,
        ⟨some 36, .mv (.t 11), none⟩,
        ⟨some 37, .buildSlice ([.int .i64 0, .int .i64 0, .int .i64 0]) 1 3 [(0, 1, .k (.c (.int .i64 128))), (1, 1, .t 35), (2, 1, .t 36)], none⟩,
        ⟨some 38, .call F_size_Mul [.t 37], none⟩,
        ⟨some 34, .mv (.t 38), none⟩,
        ⟨some 39, .extract (.t 34) 0, none⟩,
        ⟨some 40, .extract (.t 34) 1, none⟩,
        ⟨some 13, .mv (.t 39), none⟩,
        ⟨some 14, .mv (.t 40), none⟩])
  (.seq (.seq (.region
        [⟨some 41, .mv (.t 14), none⟩,
          ⟨some 42, .bin .neq (.t 41) (.k (.c (.int .i64 0))), none⟩])
    (.cond (.t 42)
      (.seq (.region
          [⟨some 43, .mv (.t 14), none⟩,
            ⟨some 6, .mv (.k (.c (.int .i64 0))), none⟩,
            ⟨some 7, .mv (.t 43), none⟩])
      (.ret))
      (.skip)))
  (.seq (.region
      [⟨some 44, .mv (.t 13), none⟩,
        ⟨some 45, .call F_size_Blocks [.t 44], none⟩,
        ⟨some 46, .extract (.t 45) 0, none⟩,
        ⟨some 47, .extract (.t 45) 1, none⟩,
        ⟨some 6, .mv (.t 46), none⟩,
        ⟨some 7, .mv (.t 47), none⟩])
  (.ret))))))))
theorem t_scrypt_Need : A F_scrypt_Need = some c_scrypt_Need := by kernel_rfl

noncomputable def c_scrypt_Key : AFn := AFn.mk 93 [.tmp 14, .tmp 15]
  (.seq (.region
      [⟨some 14, .mv (.k (.c (.str []))), none⟩,
        ⟨some 15, .mv (.k (.c (.int .i64 0))), none⟩])
  (.seq (.seq (.region
        [⟨some 25, .mv (.t 3), none⟩,
          ⟨some 26, .mv (.t 4), none⟩,
          ⟨some 27, .mv (.t 5), none⟩,
          ⟨some 28, .mv (.t 6), none⟩,
          ⟨some 29, .call F_scrypt_Check [.t 25, .t 26, .t 27, .t 28], none⟩,
          ⟨some 16, .mv (.t 29), none⟩])
    (.seq (.region
        [⟨some 30, .mv (.t 16), none⟩,
          ⟨some 31, .bin .neq (.t 30) (.k (.c (.int .i64 0))), none⟩])
    (.cond (.t 31)
      (.seq (.region
          [⟨some 32, .mv (.t 16), none⟩,
            ⟨some 14, .mv (.k (.c (.str []))), none⟩,
            ⟨some 15, .mv (.t 32), none⟩])
      (.ret))
      (.skip))))
  (.seq (.region
      [⟨some 34, .mv (.t 3), none⟩,
        ⟨some 35, .mv (.t 4), none⟩,
        ⟨some 36, .mv (.t 5), none⟩,
        ⟨some 37, .call F_scrypt_Need [.t 34, .t 35, .t 36], none⟩,
        ⟨some 33, .mv (.t 37), none⟩,
        ⟨some 38, .extract (.t 33) 0, none⟩,
        ⟨some 39, .extract (.t 33) 1, none⟩,
        ⟨some 17, .mv (.t 38), none⟩,
        ⟨some 18, .mv (.t 39), none⟩])
  (.seq (.seq (.region
        [⟨some 40, .mv (.t 18), none⟩,
          ⟨some 41, .bin .neq (.t 40) (.k (.c (.int .i64 0))), none⟩])
    (.cond (.t 41)
      (.seq (.region
          [⟨some 42, .mv (.t 18), none⟩,
            ⟨some 14, .mv (.k (.c (.str []))), none⟩,
            ⟨some 15, .mv (.t 42), none⟩])
      (.ret))
      (.skip)))
  (.seq (.region
      [⟨some 44, .mv (.t 0), none⟩,
        ⟨some 45, .mv (.t 17), none⟩,
        ⟨some 46, .call F_arena_Arena_Reserve [.t 44, .t 45], none⟩,
        ⟨some 43, .mv (.t 46), none⟩,
        ⟨some 47, .extract (.t 43) 0, none⟩,
        ⟨some 48, .extract (.t 43) 1, none⟩,
        ⟨some 19, .mv (.t 47), none⟩,
        ⟨some 18, .mv (.t 48), none⟩])
  (.seq (.seq (.region
        [⟨some 49, .mv (.t 18), none⟩,
          ⟨some 50, .bin .neq (.t 49) (.k (.c (.int .i64 0))), none⟩])
    (.cond (.t 50)
      (.seq (.region
          [⟨some 51, .mv (.t 18), none⟩,
            ⟨some 14, .mv (.k (.c (.str []))), none⟩,
            ⟨some 15, .mv (.t 51), none⟩])
      (.ret))
      (.skip)))
  (.defers
    [⟨some 52, .mv (.t 0), none⟩,
      ⟨some 53, .mv (.t 19), none⟩]
    F_arena_Arena_Release [.t 52, .t 53]
  (.seq (.region
      [⟨some 55, .mv (.t 19), none⟩,
        ⟨some 56, .mv (.t 4), none⟩,
        ⟨some 57, .call F_romix_New [.t 55, .t 56], none⟩,
        ⟨some 54, .mv (.t 57), none⟩,
        ⟨some 58, .extract (.t 54) 0, none⟩,
        ⟨some 59, .extract (.t 54) 1, none⟩,
        ⟨some 20, .mv (.t 58), none⟩,
        ⟨some 21, .mv (.t 59), none⟩])
  (.seq (.region
      [⟨some 61, .mv (.t 1), none⟩,
        ⟨some 62, .mv (.t 2), none⟩,
        ⟨some 63, .mv (.t 4), none⟩,
        ⟨some 64, .bin .mul (.k (.c (.int .i64 128))) (.t 63), none⟩,
        ⟨some 65, .mv (.t 5), none⟩,
        ⟨some 66, .bin .mul (.t 64) (.t 65), none⟩,
        ⟨some 67, .call F_pbkdf_Key [.t 61, .t 62, .k (.c (.int .i64 1)), .t 66], none⟩,
        ⟨some 60, .mv (.t 67), none⟩,
        ⟨some 68, .extract (.t 60) 0, none⟩,
        ⟨some 69, .extract (.t 60) 1, none⟩,
        ⟨some 22, .mv (.t 68), none⟩,
        ⟨some 23, .mv (.t 69), none⟩])
  (.seq (.region
      [⟨some 70, .mv (.t 20), none⟩,
        ⟨some 71, .mv (.t 22), none⟩,
        ⟨some 72, .mv (.t 4), none⟩,
        ⟨some 73, .mv (.t 5), none⟩,
        ⟨some 74, .call F_scrypt_rows [.t 70, .t 71, .t 72, .t 73], none⟩])
  (.seq (.seq (.region
        [⟨some 75, .mv (.t 5), none⟩,
          ⟨some 76, .mv (.k (.c (.int .i64 0))), none⟩])
    (.block 0
      (.loop
        (.seq (.region
            [⟨some 77, .bin .lss (.t 76) (.t 75), none⟩])
        (.seq (.cond (.t 77)
            (.skip)
            (.exit 0))
        (.seq (.block 1
            (.seq (.region
                [⟨some 78, .mv (.t 76), none⟩,
                  ⟨some 24, .mv (.t 78), none⟩])
            (.region
              [⟨some 79, .mv (.t 20), none⟩,
                ⟨some 80, .mv (.t 24), none⟩,
                ⟨some 81, .mv (.t 3), none⟩,
                ⟨some 82, .mv (.t 5), none⟩,
                ⟨some 83, .call F_romix_Store_Mix [.t 79, .t 80, .t 81, .t 82], none⟩])))
        (.region
          [⟨some 84, .bin .add (.t 76) (.k (.c (.int .i64 1))), none⟩,
            ⟨some 76, .mv (.t 84), none⟩])))))))
  (.seq (.region
      [⟨some 85, .mv (.t 1), none⟩,
        ⟨some 86, .mv (.t 20), none⟩,
        ⟨some 87, .mv (.t 5), none⟩,
        ⟨some 88, .call F_scrypt_text [.t 86, .t 87], none⟩,
        ⟨some 89, .mv (.t 6), none⟩,
        ⟨some 90, .call F_pbkdf_Key [.t 85, .t 88, .k (.c (.int .i64 1)), .t 89], none⟩,
        ⟨some 91, .extract (.t 90) 0, none⟩,
        ⟨some 92, .extract (.t 90) 1, none⟩,
        ⟨some 14, .mv (.t 91), none⟩,
        ⟨some 15, .mv (.t 92), none⟩])
  (.ret)))))))))))))
theorem t_scrypt_Key : A F_scrypt_Key = some c_scrypt_Key := by kernel_rfl

noncomputable def c_scrypt_rows : AFn := AFn.mk 36 []
  (.seq (.region
      [⟨some 11, .mv (.t 3), none⟩,
        ⟨some 12, .mv (.k (.c (.int .i64 0))), none⟩])
  (.block 0
    (.loop
      (.seq (.region
          [⟨some 13, .bin .lss (.t 12) (.t 11), none⟩])
      (.seq (.cond (.t 13)
          (.skip)
          (.exit 0))
      (.seq (.block 1
          (.seq (.region
              [⟨some 14, .mv (.t 12), none⟩,
                ⟨some 8, .mv (.t 14), none⟩])
          (.seq (.region
              [⟨some 16, .mv (.t 1), none⟩,
                ⟨some 17, .mv (.t 2), none⟩,
                ⟨some 18, .bin .mul (.k (.c (.int .i64 128))) (.t 17), none⟩,
                ⟨some 19, .mv (.t 8), none⟩,
                ⟨some 20, .bin .mul (.t 18) (.t 19), none⟩,
                ⟨some 21, .mv (.t 2), none⟩,
                ⟨some 22, .bin .mul (.k (.c (.int .i64 128))) (.t 21), none⟩,
                ⟨some 23, .mv (.t 8), none⟩,
                ⟨some 24, .bin .add (.t 23) (.k (.c (.int .i64 1))), none⟩,
                ⟨some 25, .bin .mul (.t 22) (.t 24), none⟩,
                ⟨some 26, .sliceStr (.t 16) (some (.t 20)) (some (.t 25)), none⟩,
                ⟨some 27, .strBytes (.t 26), none⟩,
                ⟨some 28, .call F_words_Take32 [.t 27], none⟩,
                ⟨some 15, .mv (.t 28), none⟩,
                ⟨some 29, .extract (.t 15) 0, none⟩,
                ⟨some 30, .extract (.t 15) 1, none⟩,
                ⟨some 9, .mv (.t 29), none⟩,
                ⟨some 10, .mv (.t 30), none⟩])
          (.region
            [⟨some 31, .mv (.t 0), none⟩,
              ⟨some 32, .mv (.t 8), none⟩,
              ⟨some 33, .mv (.t 9), none⟩,
              ⟨some 34, .call F_romix_Store_Put [.t 31, .t 32, .t 33], none⟩]))))
      (.region
        [⟨some 35, .bin .add (.t 12) (.k (.c (.int .i64 1))), none⟩,
          ⟨some 12, .mv (.t 35), none⟩])))))))
theorem t_scrypt_rows : A F_scrypt_rows = some c_scrypt_rows := by kernel_rfl

noncomputable def c_scrypt_text : AFn := AFn.mk 26 [.tmp 4]
  (.seq (.region
      [⟨some 4, .mv (.k (.c (.str []))), none⟩])
  (.seq (.region
      [⟨some 5, .mv (.k (.c (.snil))), none⟩])
  (.seq (.seq (.region
        [⟨some 9, .mv (.t 1), none⟩,
          ⟨some 10, .mv (.k (.c (.int .i64 0))), none⟩])
    (.block 0
      (.loop
        (.seq (.region
            [⟨some 11, .bin .lss (.t 10) (.t 9), none⟩])
        (.seq (.cond (.t 11)
            (.skip)
            (.exit 0))
        (.seq (.block 1
            (.seq (.region
                [⟨some 12, .mv (.t 10), none⟩,
                  ⟨some 6, .mv (.t 12), none⟩])
            (.seq (.region
                [⟨some 14, .mv (.t 0), none⟩,
                  ⟨some 15, .mv (.t 6), none⟩,
                  ⟨some 16, .call F_romix_Store_Row [.t 14, .t 15], none⟩,
                  ⟨some 13, .mv (.t 16), none⟩,
                  ⟨some 17, .extract (.t 13) 0, none⟩,
                  ⟨some 18, .extract (.t 13) 1, none⟩,
                  ⟨some 7, .mv (.t 17), none⟩,
                  ⟨some 8, .mv (.t 18), none⟩])
            (.region
              [⟨some 19, .mv (.t 5), none⟩,
                ⟨some 20, .mv (.t 7), none⟩,
                ⟨some 21, .call F_words_Little32 [.t 20], none⟩,
                ⟨some 22, .append ([.int .u8 0]) 1 (.t 19) (.t 21), none⟩,
                ⟨some 5, .mv (.t 22), none⟩]))))
        (.region
          [⟨some 23, .bin .add (.t 10) (.k (.c (.int .i64 1))), none⟩,
            ⟨some 10, .mv (.t 23), none⟩])))))))
  (.seq (.region
      [⟨some 24, .mv (.t 5), none⟩,
        ⟨some 25, .bytesStr (.t 24), none⟩,
        ⟨some 4, .mv (.t 25), none⟩])
  (.ret)))))
theorem t_scrypt_text : A F_scrypt_text = some c_scrypt_text := by kernel_rfl
end PK

/- Package pestleref25 as code of the abstract machine. -/
namespace PK
open Go PAbs

end PK

/- Packages size and scrypt: Add, Mul, Blocks; Check, Need; the document's. -/
namespace PK
open Go PAbs
set_option linter.unusedSimpArgs false
set_option linter.unusedVariables false
set_option maxRecDepth 100000
set_option maxHeartbeats 4000000

def I6 (ns : List Nat) : List Cell := ns.map fun n => .int .i64 ((n : Nat) : Int)
theorem I6_length {ns : List Nat} : (I6 ns).length = ns.length := by simp [I6]
theorem I6_get {ns : List Nat} {i : Nat} (h : i < ns.length) : (I6 ns)[i]? = some (.int .i64 ((ns.getD i 0 : Nat) : Int)) := by
  rw [I6, List.getElem?_map, List.getD_eq_getElem?_getD, List.getElem?_eq_getElem h]; rfl
def psum (ns : List Nat) : Nat → Nat
  | 0 => 0
  | i + 1 => psum ns i + ns.getD i 0
def pprod (ns : List Nat) : Nat → Nat
  | 0 => 1
  | i + 1 => pprod ns i * ns.getD i 0

def adI (y : Cell) (n : Nat) (H0 : AHeap) (i : Nat) (fr : AFrame) (H : AHeap) : Prop := H0 = H ∧ (∃ s : Nat → AV, fr = [.c y, s 1, s 2, s 3, .c (.int .i64 0), s 5, s 6, s 7, s 8, .c y, .c (.int .i64 (n : Int)), .c (.int .i64 (i : Int)), s 12, s 13, s 14, s 15, s 16, s 17, s 18, s 19, s 20, s 21, s 22, s 23, s 24, s 25, s 26, s 27, s 28, s 29, s 30, s 31, s 32, s 33])

def aeI (y : Cell) (ns : List Nat) (n : Nat) (H0 : AHeap) (i : Nat) (fr : AFrame) (H : AHeap) : Prop := H0 = H ∧ (∃ s : Nat → AV, fr = [s 0, s 1, s 2, s 3, .c (.int .i64 ((psum ns i : Nat) : Int)), s 5, s 6, s 7, s 8, s 9, s 10, s 11, s 12, s 13, s 14, s 15, s 16, s 17, s 18, .c y, .c (.int .i64 (n : Int)), .c (.int .i64 (i : Int)), s 22, s 23, s 24, s 25, s 26, s 27, s 28, s 29, s 30, s 31, s 32, s 33])
theorem AC_Add (fl : Nat) (H : AHeap) (y : Cell) (ns : List Nat) (n : Nat) (hn : ns.length = n) (hl : n ≤ 1000) (hy : Rd H y 1 (I6 ns)) (hs : ∀ i, i ≤ n → psum ns i ≤ 4611686018427387904) :
    AC A fl F_size_Add [.c y] H (fun v H' => v = .tup [.c (.int .i64 ((psum ns n : Nat) : Int)), .c (.int .i64 0)] ∧ H = H') := by
  have yl : (I6 ns).length = n := by rw [I6_length, hn]
  have ly := hy.len1 _ yl
  have hx : ∀ i, i < n → ns.getD i 0 ≤ 4611686018427387904 := fun i hi => by have := hs (i + 1) hi; simp only [psum] at this; omega
  refine AC_enter t_size_Add ?_; simp only [c_size_Add, enterA, List.replicate, List.length_cons, List.length_nil, Nat.reduceAdd, Nat.reduceSub, List.cons_append, List.nil_append]
  (repeat (first | refine GOS ?_ | (with_reducible (first | apply AO_any | apply AHd_any | apply AP_go | apply AHP_go); focus (simp only [Sm, wantedA, execA, stepA, List.getElem?_cons_zero, List.getElem?_cons_succ, if_true, if_false, binA, binInt, unA, eqA, Option.map, eq_self, reduceCtorEq, ite_true, ite_false, cellsAV, fitsAll, CK.fits, fillA, AV.cells, writeN, sliceCells, appendA, lenA, i64, loA, hiA, Nat.reduceAdd, Nat.reduceMul, Nat.reduceDiv, Nat.reduceSub, Nat.reduceLeDiff, Nat.reduceLT, Int.reduceLE, Int.reduceLT, foldA, maxA, minA, Int.reduceBEq, Int.reduceBNe, Int.reduceGT, Int.reduceGE, Int.reduceEq, Int.reduceNe, Int.reduceToNat, AOp.stops, ↓want_eq, ↓exec_lenX, ↓exec_storeX, ↓exec_storeN, storeN_one, ↓exec_bsX, ↓exec_sliceX, ↓exec_copyX, ↓exec_appNil, ↓exec_carryX, Nat.sub_zero, rep_len, ly]; with_reducible first | exact EqP.at_ | exact EqP.cont | exact EqP.hcont | exact EqP.gate | exact EqP.hgate))))
  refine AW_mid (fun e fr H' => e = .normal ∧ adI y n H n fr H') ?_ ?_
  · refine AW_block (AW_up (adI y n H) n ⟨rfl, stale _ _ rfl⟩ ?_)
    rintro i fr _ hi ⟨rfl, st, rfl⟩
    refine GO ?_
    refine AW_cond rfl ?_ ?_ <;> intro ht
    · have ht : (i : Int) < (n : Int) := of_decide_eq_true ht
      have hi2 : i < n := by omega
      obtain ⟨u, uo, uf, rfl, hu, gu⟩ := hy.get (i := i) (by omega)
      rw [I6_get (by omega)] at gu
      have tx : (i : Int) < (((I6 ns).length : Nat) : Int) := by omega
      (repeat (first | refine GOS ?_ | (with_reducible (first | apply AO_any | apply AHd_any | apply AP_go | apply AHP_go); focus (simp only [Sm, wantedA, execA, stepA, List.getElem?_cons_zero, List.getElem?_cons_succ, if_true, if_false, binA, binInt, unA, eqA, Option.map, eq_self, reduceCtorEq, ite_true, ite_false, cellsAV, fitsAll, CK.fits, fillA, AV.cells, writeN, sliceCells, appendA, lenA, i64, loA, hiA, Nat.reduceAdd, Nat.reduceMul, Nat.reduceDiv, Nat.reduceSub, Nat.reduceLeDiff, Nat.reduceLT, Int.reduceLE, Int.reduceLT, foldA, maxA, minA, Int.reduceBEq, Int.reduceBNe, Int.reduceGT, Int.reduceGE, Int.reduceEq, Int.reduceNe, Int.reduceToNat, AOp.stops, ↓want_eq, ↓exec_lenX, ↓exec_storeX, ↓exec_storeN, storeN_one, ↓exec_bsX, ↓exec_sliceX, ↓exec_copyX, ↓exec_appNil, ↓exec_carryX, Nat.sub_zero, rep_len, ht, hu, gu, tx]; with_reducible first | exact EqP.at_ | exact EqP.cont | exact EqP.hcont | exact EqP.gate | exact EqP.hgate))))
      refine AO_call rfl (AC_held fl H ((ns.getD i 0 : Nat) : Int)) ?_
      rintro _ _ ⟨rfl, rfl⟩
      have := hx i hi2
      rw [decide_eq_true (show 0 ≤ ((ns.getD i 0 : Nat) : Int) ∧ ((ns.getD i 0 : Nat) : Int) ≤ 4611686018427387904 from ⟨by omega, by omega⟩)]
      (repeat (first | refine GOS ?_ | (with_reducible (first | apply AO_any | apply AHd_any | apply AP_go | apply AHP_go); focus (simp only [Sm, wantedA, execA, stepA, List.getElem?_cons_zero, List.getElem?_cons_succ, if_true, if_false, binA, binInt, unA, eqA, Option.map, eq_self, reduceCtorEq, ite_true, ite_false, cellsAV, fitsAll, CK.fits, fillA, AV.cells, writeN, sliceCells, appendA, lenA, i64, loA, hiA, Nat.reduceAdd, Nat.reduceMul, Nat.reduceDiv, Nat.reduceSub, Nat.reduceLeDiff, Nat.reduceLT, Int.reduceLE, Int.reduceLT, foldA, maxA, minA, Int.reduceBEq, Int.reduceBNe, Int.reduceGT, Int.reduceGE, Int.reduceEq, Int.reduceNe, Int.reduceToNat, AOp.stops, ↓want_eq, ↓exec_lenX, ↓exec_storeX, ↓exec_storeN, storeN_one, ↓exec_bsX, ↓exec_sliceX, ↓exec_copyX, ↓exec_appNil, ↓exec_carryX, Nat.sub_zero, rep_len, i64_succ (show i < 9223372036854775807 by omega)]; with_reducible first | exact EqP.at_ | exact EqP.cont | exact EqP.hcont | exact EqP.gate | exact EqP.hgate))))
      exact ⟨hi2, rfl, stale _ _ rfl⟩
    · obtain rfl : i = n := by have : ¬ (i : Int) < (n : Int) := of_decide_eq_false ht; omega
      exact AW_exit ⟨rfl, rfl, stale _ _ rfl⟩
  rintro e fr _ ⟨rfl, rfl, st, rfl⟩
  (repeat (first | refine GOS ?_ | (with_reducible (first | apply AO_any | apply AHd_any | apply AP_go | apply AHP_go); focus (simp only [Sm, wantedA, execA, stepA, List.getElem?_cons_zero, List.getElem?_cons_succ, if_true, if_false, binA, binInt, unA, eqA, Option.map, eq_self, reduceCtorEq, ite_true, ite_false, cellsAV, fitsAll, CK.fits, fillA, AV.cells, writeN, sliceCells, appendA, lenA, i64, loA, hiA, Nat.reduceAdd, Nat.reduceMul, Nat.reduceDiv, Nat.reduceSub, Nat.reduceLeDiff, Nat.reduceLT, Int.reduceLE, Int.reduceLT, foldA, maxA, minA, Int.reduceBEq, Int.reduceBNe, Int.reduceGT, Int.reduceGE, Int.reduceEq, Int.reduceNe, Int.reduceToNat, AOp.stops, ↓want_eq, ↓exec_lenX, ↓exec_storeX, ↓exec_storeN, storeN_one, ↓exec_bsX, ↓exec_sliceX, ↓exec_copyX, ↓exec_appNil, ↓exec_carryX, Nat.sub_zero, rep_len, ly]; with_reducible first | exact EqP.at_ | exact EqP.cont | exact EqP.hcont | exact EqP.gate | exact EqP.hgate))))
  refine AW_mid (fun e fr H' => e = .normal ∧ aeI y ns n H n fr H') ?_ ?_
  · refine AW_block (AW_up (aeI y ns n H) n ⟨rfl, stale _ _ rfl⟩ ?_)
    rintro i fr _ hi ⟨rfl, st, rfl⟩
    refine GO ?_
    refine AW_cond rfl ?_ ?_ <;> intro ht
    · have ht : (i : Int) < (n : Int) := of_decide_eq_true ht
      have hi2 : i < n := by omega
      obtain ⟨u, uo, uf, rfl, hu, gu⟩ := hy.get (i := i) (by omega)
      rw [I6_get (by omega)] at gu
      have tx : (i : Int) < (((I6 ns).length : Nat) : Int) := by omega
      have s1 := hs (i + 1) hi2
      have s2 : psum ns (i + 1) = psum ns i + ns.getD i 0 := rfl
      have e1 : IntKind.i64.wrap (4611686018427387904 - ((psum ns i : Nat) : Int)) = ((4611686018427387904 - psum ns i : Nat) : Int) := by rw [i64_of (by omega) (by omega)]; omega
      have e2 : IntKind.i64.wrap (((psum ns i : Nat) : Int) + ((ns.getD i 0 : Nat) : Int)) = ((psum ns (i + 1) : Nat) : Int) := by rw [i64_add (by omega), s2]
      (repeat (first | refine GOS ?_ | (with_reducible (first | apply AO_any | apply AHd_any | apply AP_go | apply AHP_go); focus (simp only [Sm, wantedA, execA, stepA, List.getElem?_cons_zero, List.getElem?_cons_succ, if_true, if_false, binA, binInt, unA, eqA, Option.map, eq_self, reduceCtorEq, ite_true, ite_false, cellsAV, fitsAll, CK.fits, fillA, AV.cells, writeN, sliceCells, appendA, lenA, i64, loA, hiA, Nat.reduceAdd, Nat.reduceMul, Nat.reduceDiv, Nat.reduceSub, Nat.reduceLeDiff, Nat.reduceLT, Int.reduceLE, Int.reduceLT, foldA, maxA, minA, Int.reduceBEq, Int.reduceBNe, Int.reduceGT, Int.reduceGE, Int.reduceEq, Int.reduceNe, Int.reduceToNat, AOp.stops, ↓want_eq, ↓exec_lenX, ↓exec_storeX, ↓exec_storeN, storeN_one, ↓exec_bsX, ↓exec_sliceX, ↓exec_copyX, ↓exec_appNil, ↓exec_carryX, Nat.sub_zero, rep_len, ht, hu, gu, tx, e1, decide_eq_false (show ¬ ((ns.getD i 0 : Nat) : Int) > ((4611686018427387904 - psum ns i : Nat) : Int) by omega), e2, i64_succ (show i < 9223372036854775807 by omega)]; with_reducible first | exact EqP.at_ | exact EqP.cont | exact EqP.hcont | exact EqP.gate | exact EqP.hgate))))
      exact ⟨hi2, rfl, stale _ _ rfl⟩
    · obtain rfl : i = n := by have : ¬ (i : Int) < (n : Int) := of_decide_eq_false ht; omega
      exact AW_exit ⟨rfl, rfl, stale _ _ rfl⟩
  rintro e fr _ ⟨rfl, rfl, st, rfl⟩
  refine GO ?_
  exact AW_ret ⟨_, rfl, rfl, rfl⟩

def muI (y : Cell) (n : Nat) (H0 : AHeap) (i : Nat) (fr : AFrame) (H : AHeap) : Prop := H0 = H ∧ (∃ s : Nat → AV, fr = [.c y, s 1, s 2, s 3, .c (.int .i64 1), .c (.bool false), s 6, s 7, s 8, s 9, s 10, s 11, .c y, .c (.int .i64 (n : Int)), .c (.int .i64 (i : Int)), s 15, s 16, s 17, s 18, s 19, s 20, s 21, s 22, s 23, s 24, s 25, s 26, s 27, s 28, s 29, s 30, s 31, s 32, s 33, s 34, s 35, s 36, s 37, s 38, s 39, s 40, s 41, s 42, s 43, s 44, s 45, s 46, s 47, s 48, s 49, s 50, s 51])

def mvI (y : Cell) (ns : List Nat) (n : Nat) (H0 : AHeap) (i : Nat) (fr : AFrame) (H : AHeap) : Prop := H0 = H ∧ (∃ s : Nat → AV, fr = [s 0, s 1, s 2, s 3, .c (.int .i64 ((pprod ns i : Nat) : Int)), s 5, s 6, s 7, s 8, s 9, s 10, s 11, s 12, s 13, s 14, s 15, s 16, s 17, s 18, s 19, s 20, s 21, s 22, s 23, s 24, s 25, s 26, s 27, .c y, .c (.int .i64 (n : Int)), .c (.int .i64 (i : Int)), s 31, s 32, s 33, s 34, s 35, s 36, s 37, s 38, s 39, s 40, s 41, s 42, s 43, s 44, s 45, s 46, s 47, s 48, s 49, s 50, s 51])
theorem AC_Mul (H : AHeap) (y : Cell) (ns : List Nat) (n : Nat) (hn : ns.length = n) (hl : n ≤ 1000) (hy : Rd H y 1 (I6 ns)) (hs : ∀ i, i ≤ n → pprod ns i ≤ 4611686018427387904) (hx : ∀ i, i < n → 1 ≤ ns.getD i 0 ∧ ns.getD i 0 ≤ 4611686018427387904) :
    AC A H.length F_size_Mul [.c y] H (fun v H' => v = .tup [.c (.int .i64 ((pprod ns n : Nat) : Int)), .c (.int .i64 0)] ∧ H = H') := by
  have yl : (I6 ns).length = n := by rw [I6_length, hn]
  have ly := hy.len1 _ yl
  refine AC_enter t_size_Mul ?_; simp only [c_size_Mul, enterA, List.replicate, List.length_cons, List.length_nil, Nat.reduceAdd, Nat.reduceSub, List.cons_append, List.nil_append]
  (repeat (first | refine GOS ?_ | (with_reducible (first | apply AO_any | apply AHd_any | apply AP_go | apply AHP_go); focus (simp only [Sm, wantedA, execA, stepA, List.getElem?_cons_zero, List.getElem?_cons_succ, if_true, if_false, binA, binInt, unA, eqA, Option.map, eq_self, reduceCtorEq, ite_true, ite_false, cellsAV, fitsAll, CK.fits, fillA, AV.cells, writeN, sliceCells, appendA, lenA, i64, loA, hiA, Nat.reduceAdd, Nat.reduceMul, Nat.reduceDiv, Nat.reduceSub, Nat.reduceLeDiff, Nat.reduceLT, Int.reduceLE, Int.reduceLT, foldA, maxA, minA, Int.reduceBEq, Int.reduceBNe, Int.reduceGT, Int.reduceGE, Int.reduceEq, Int.reduceNe, Int.reduceToNat, AOp.stops, ↓want_eq, ↓exec_lenX, ↓exec_storeX, ↓exec_storeN, storeN_one, ↓exec_bsX, ↓exec_sliceX, ↓exec_copyX, ↓exec_appNil, ↓exec_carryX, Nat.sub_zero, rep_len, ly]; with_reducible first | exact EqP.at_ | exact EqP.cont | exact EqP.hcont | exact EqP.gate | exact EqP.hgate))))
  refine AW_mid (fun e fr H' => e = .normal ∧ muI y n H n fr H') ?_ ?_
  · refine AW_block (AW_up (muI y n H) n ⟨rfl, stale _ _ rfl⟩ ?_)
    rintro i fr _ hi ⟨rfl, st, rfl⟩
    refine GO ?_
    refine AW_cond rfl ?_ ?_ <;> intro ht
    · have ht : (i : Int) < (n : Int) := of_decide_eq_true ht
      have hi2 : i < n := by omega
      obtain ⟨u, uo, uf, rfl, hu, gu⟩ := hy.get (i := i) (by omega)
      rw [I6_get (by omega)] at gu
      have tx : (i : Int) < (((I6 ns).length : Nat) : Int) := by omega
      (repeat (first | refine GOS ?_ | (with_reducible (first | apply AO_any | apply AHd_any | apply AP_go | apply AHP_go); focus (simp only [Sm, wantedA, execA, stepA, List.getElem?_cons_zero, List.getElem?_cons_succ, if_true, if_false, binA, binInt, unA, eqA, Option.map, eq_self, reduceCtorEq, ite_true, ite_false, cellsAV, fitsAll, CK.fits, fillA, AV.cells, writeN, sliceCells, appendA, lenA, i64, loA, hiA, Nat.reduceAdd, Nat.reduceMul, Nat.reduceDiv, Nat.reduceSub, Nat.reduceLeDiff, Nat.reduceLT, Int.reduceLE, Int.reduceLT, foldA, maxA, minA, Int.reduceBEq, Int.reduceBNe, Int.reduceGT, Int.reduceGE, Int.reduceEq, Int.reduceNe, Int.reduceToNat, AOp.stops, ↓want_eq, ↓exec_lenX, ↓exec_storeX, ↓exec_storeN, storeN_one, ↓exec_bsX, ↓exec_sliceX, ↓exec_copyX, ↓exec_appNil, ↓exec_carryX, Nat.sub_zero, rep_len, ht, hu, gu, tx]; with_reducible first | exact EqP.at_ | exact EqP.cont | exact EqP.hcont | exact EqP.gate | exact EqP.hgate))))
      refine AO_call rfl (AC_held H.length H ((ns.getD i 0 : Nat) : Int)) ?_
      rintro _ _ ⟨rfl, rfl⟩
      have := hx i hi2
      rw [decide_eq_true (show 0 ≤ ((ns.getD i 0 : Nat) : Int) ∧ ((ns.getD i 0 : Nat) : Int) ≤ 4611686018427387904 from ⟨by omega, by omega⟩)]
      have z : (((ns.getD i 0 : Nat) : Int) == 0) = false := beq_eq_false_iff_ne.mpr (by omega)
      (repeat (first | refine GOS ?_ | (with_reducible (first | apply AO_any | apply AHd_any | apply AP_go | apply AHP_go); focus (simp only [Sm, wantedA, execA, stepA, List.getElem?_cons_zero, List.getElem?_cons_succ, if_true, if_false, binA, binInt, unA, eqA, Option.map, eq_self, reduceCtorEq, ite_true, ite_false, cellsAV, fitsAll, CK.fits, fillA, AV.cells, writeN, sliceCells, appendA, lenA, i64, loA, hiA, Nat.reduceAdd, Nat.reduceMul, Nat.reduceDiv, Nat.reduceSub, Nat.reduceLeDiff, Nat.reduceLT, Int.reduceLE, Int.reduceLT, foldA, maxA, minA, Int.reduceBEq, Int.reduceBNe, Int.reduceGT, Int.reduceGE, Int.reduceEq, Int.reduceNe, Int.reduceToNat, AOp.stops, ↓want_eq, ↓exec_lenX, ↓exec_storeX, ↓exec_storeN, storeN_one, ↓exec_bsX, ↓exec_sliceX, ↓exec_copyX, ↓exec_appNil, ↓exec_carryX, Nat.sub_zero, rep_len, z, decide_eq_false (show ¬ ((ns.getD i 0 : Nat) : Int) = 0 by omega), i64_succ (show i < 9223372036854775807 by omega)]; with_reducible first | exact EqP.at_ | exact EqP.cont | exact EqP.hcont | exact EqP.gate | exact EqP.hgate))))
      exact ⟨hi2, rfl, stale _ _ rfl⟩
    · obtain rfl : i = n := by have : ¬ (i : Int) < (n : Int) := of_decide_eq_false ht; omega
      exact AW_exit ⟨rfl, rfl, stale _ _ rfl⟩
  rintro e fr _ ⟨rfl, rfl, st, rfl⟩
  (repeat (first | refine GOS ?_ | (with_reducible (first | apply AO_any | apply AHd_any | apply AP_go | apply AHP_go); focus (simp only [Sm, wantedA, execA, stepA, List.getElem?_cons_zero, List.getElem?_cons_succ, if_true, if_false, binA, binInt, unA, eqA, Option.map, eq_self, reduceCtorEq, ite_true, ite_false, cellsAV, fitsAll, CK.fits, fillA, AV.cells, writeN, sliceCells, appendA, lenA, i64, loA, hiA, Nat.reduceAdd, Nat.reduceMul, Nat.reduceDiv, Nat.reduceSub, Nat.reduceLeDiff, Nat.reduceLT, Int.reduceLE, Int.reduceLT, foldA, maxA, minA, Int.reduceBEq, Int.reduceBNe, Int.reduceGT, Int.reduceGE, Int.reduceEq, Int.reduceNe, Int.reduceToNat, AOp.stops, ↓want_eq, ↓exec_lenX, ↓exec_storeX, ↓exec_storeN, storeN_one, ↓exec_bsX, ↓exec_sliceX, ↓exec_copyX, ↓exec_appNil, ↓exec_carryX, Nat.sub_zero, rep_len, ly]; with_reducible first | exact EqP.at_ | exact EqP.cont | exact EqP.hcont | exact EqP.gate | exact EqP.hgate))))
  refine AW_mid (fun e fr H' => e = .normal ∧ mvI y ns n H n fr H') ?_ ?_
  · refine AW_block (AW_up (mvI y ns n H) n ⟨rfl, stale _ _ rfl⟩ ?_)
    rintro i fr _ hi ⟨rfl, st, rfl⟩
    refine GO ?_
    refine AW_cond rfl ?_ ?_ <;> intro ht
    · have ht : (i : Int) < (n : Int) := of_decide_eq_true ht
      have hi2 : i < n := by omega
      obtain ⟨u, uo, uf, rfl, hu, gu⟩ := hy.get (i := i) (by omega)
      rw [I6_get (by omega)] at gu
      have tx : (i : Int) < (((I6 ns).length : Nat) : Int) := by omega
      have s0 := hs i hi
      have s1 := hs (i + 1) hi2
      have s2 : pprod ns (i + 1) = pprod ns i * ns.getD i 0 := rfl
      have := hx i hi2
      have e1 : IntKind.u64.wrap ((pprod ns i : Nat) : Int) = ((pprod ns i : Nat) : Int) := u64_nat (by omega)
      have e2 : IntKind.u64.wrap ((ns.getD i 0 : Nat) : Int) = ((ns.getD i 0 : Nat) : Int) := u64_nat (by omega)
      (repeat (first | refine GOS ?_ | (with_reducible (first | apply AO_any | apply AHd_any | apply AP_go | apply AHP_go); focus (simp only [Sm, wantedA, execA, stepA, List.getElem?_cons_zero, List.getElem?_cons_succ, if_true, if_false, binA, binInt, unA, eqA, Option.map, eq_self, reduceCtorEq, ite_true, ite_false, cellsAV, fitsAll, CK.fits, fillA, AV.cells, writeN, sliceCells, appendA, lenA, i64, loA, hiA, Nat.reduceAdd, Nat.reduceMul, Nat.reduceDiv, Nat.reduceSub, Nat.reduceLeDiff, Nat.reduceLT, Int.reduceLE, Int.reduceLT, foldA, maxA, minA, Int.reduceBEq, Int.reduceBNe, Int.reduceGT, Int.reduceGE, Int.reduceEq, Int.reduceNe, Int.reduceToNat, AOp.stops, ↓want_eq, ↓exec_lenX, ↓exec_storeX, ↓exec_storeN, storeN_one, ↓exec_bsX, ↓exec_sliceX, ↓exec_copyX, ↓exec_appNil, ↓exec_carryX, Nat.sub_zero, rep_len, ht, hu, gu, tx, e1, e2]; with_reducible first | exact EqP.at_ | exact EqP.cont | exact EqP.hcont | exact EqP.gate | exact EqP.hgate))))
      refine AO_call rfl (AC_Mul64 H (pprod ns i) (ns.getD i 0) (by omega) (by omega)) ?_
      rintro _ _ ⟨rfl, rfl⟩
      rw [← s2, Nat.div_eq_of_lt (by omega), Nat.mod_eq_of_lt (by omega)]
      have e3 : IntKind.i64.wrap ((pprod ns (i + 1) : Nat) : Int) = ((pprod ns (i + 1) : Nat) : Int) := i64_of (by omega) (by omega)
      (repeat (first | refine GOS ?_ | (with_reducible (first | apply AO_any | apply AHd_any | apply AP_go | apply AHP_go); focus (simp only [Sm, wantedA, execA, stepA, List.getElem?_cons_zero, List.getElem?_cons_succ, if_true, if_false, binA, binInt, unA, eqA, Option.map, eq_self, reduceCtorEq, ite_true, ite_false, cellsAV, fitsAll, CK.fits, fillA, AV.cells, writeN, sliceCells, appendA, lenA, i64, loA, hiA, Nat.reduceAdd, Nat.reduceMul, Nat.reduceDiv, Nat.reduceSub, Nat.reduceLeDiff, Nat.reduceLT, Int.reduceLE, Int.reduceLT, foldA, maxA, minA, Int.reduceBEq, Int.reduceBNe, Int.reduceGT, Int.reduceGE, Int.reduceEq, Int.reduceNe, Int.reduceToNat, AOp.stops, ↓want_eq, ↓exec_lenX, ↓exec_storeX, ↓exec_storeN, storeN_one, ↓exec_bsX, ↓exec_sliceX, ↓exec_copyX, ↓exec_appNil, ↓exec_carryX, Nat.sub_zero, rep_len, decide_eq_false (show ¬ ((0 : Nat) : Int) > 0 by omega), decide_eq_false (show ¬ ((pprod ns (i + 1) : Nat) : Int) > 4611686018427387904 by omega), e3, i64_succ (show i < 9223372036854775807 by omega)]; with_reducible first | exact EqP.at_ | exact EqP.cont | exact EqP.hcont | exact EqP.gate | exact EqP.hgate))))
      exact ⟨hi2, rfl, stale _ _ rfl⟩
    · obtain rfl : i = n := by have : ¬ (i : Int) < (n : Int) := of_decide_eq_false ht; omega
      exact AW_exit ⟨rfl, rfl, stale _ _ rfl⟩
  rintro e fr _ ⟨rfl, rfl, st, rfl⟩
  refine GO ?_
  exact AW_ret ⟨_, rfl, rfl, rfl⟩
theorem AC_Blocks (fl : Nat) (H : AHeap) (n : Nat) (hn : n ≤ 4611686018427387904) : AC A fl F_size_Blocks [.c (.int .i64 (n : Int))] H (fun v H' => v = .tup [.c (.int .i64 ((upO n 1024 : Nat) : Int)), .c (.int .i64 0)] ∧ H = H') := by
  refine AC_enter t_size_Blocks ?_; simp only [c_size_Blocks, enterA, List.replicate, List.length_cons, List.length_nil, Nat.reduceAdd, Nat.reduceSub, List.cons_append, List.nil_append]
  refine GO ?_
  refine AO_call rfl (AC_Up_ fl H n 1024 hn (by omega) (by omega)) ?_
  rintro _ _ ⟨rfl, rfl⟩
  refine GO ?_
  exact AW_ret ⟨_, rfl, rfl, rfl⟩

def chkS (l r p n : Int) : Prop := (1 ≤ r ∧ r ≤ 512) ∧ (1 ≤ p ∧ p ≤ 512) ∧ r * p ≤ 512 ∧ (1 ≤ l ∧ l ≤ 32) ∧ l < 16 * r ∧ (1 ≤ n ∧ n ≤ 1024)
instance (l r p n : Int) : Decidable (chkS l r p n) := by unfold chkS; exact inferInstance
theorem mul_room {r p : Int} (hr : 1 ≤ r ∧ r ≤ 512) (hp : 1 ≤ p ∧ p ≤ 512) : 1 ≤ r * p ∧ r * p ≤ 262144 := by
  obtain ⟨a, rfl⟩ := Int.eq_ofNat_of_zero_le (show 0 ≤ r by omega)
  obtain ⟨b, rfl⟩ := Int.eq_ofNat_of_zero_le (show 0 ≤ p by omega)
  have h1 : a * b ≤ 512 * 512 := Nat.mul_le_mul (by omega) (by omega)
  have h2 : 1 * 1 ≤ a * b := Nat.mul_le_mul (by omega) (by omega)
  rw [← Int.natCast_mul]; omega
theorem AC_scCheck (fl : Nat) (H : AHeap) (l r p n : Int) : AC A fl F_scrypt_Check [.c (.int .i64 l), .c (.int .i64 r), .c (.int .i64 p), .c (.int .i64 n)] H (fun v H' => v = .c (.int .i64 (if chkS l r p n then 0 else 2)) ∧ H = H') := by
  refine AC_enter t_scrypt_Check ?_; simp only [c_scrypt_Check, enterA, List.replicate, List.length_cons, List.length_nil, Nat.reduceAdd, Nat.reduceSub, List.cons_append, List.nil_append]
  refine GO ?_
  refine AO_call rfl (AC_Within fl H r 1 512) ?_
  rintro _ _ ⟨rfl, rfl⟩
  by_cases h1 : ¬ (1 ≤ r ∧ r ≤ 512)
  · rw [decide_eq_false h1, if_neg (show ¬ chkS l r p n from fun h => h1 h.1)]
    refine GO ?_
    exact AW_ret ⟨_, rfl, rfl, rfl⟩
  have h1 : 1 ≤ r ∧ r ≤ 512 := Decidable.of_not_not h1
  rw [decide_eq_true h1]
  refine GO ?_
  refine AO_call rfl (AC_Within fl H p 1 512) ?_
  rintro _ _ ⟨rfl, rfl⟩
  by_cases h2 : ¬ (1 ≤ p ∧ p ≤ 512)
  · rw [decide_eq_false h2, if_neg (show ¬ chkS l r p n from fun h => h2 h.2.1)]
    refine GO ?_
    exact AW_ret ⟨_, rfl, rfl, rfl⟩
  have h2 : 1 ≤ p ∧ p ≤ 512 := Decidable.of_not_not h2
  have hm := mul_room h1 h2
  have e1 : IntKind.i64.wrap (r * p) = r * p := i64_of (by omega) (by omega)
  rw [decide_eq_true h2]
  by_cases h3 : ¬ r * p ≤ 512
  · rw [if_neg (show ¬ chkS l r p n from fun h => h3 h.2.2.1)]
    (repeat (first | refine GOS ?_ | (with_reducible (first | apply AO_any | apply AHd_any | apply AP_go | apply AHP_go); focus (simp only [Sm, wantedA, execA, stepA, List.getElem?_cons_zero, List.getElem?_cons_succ, if_true, if_false, binA, binInt, unA, eqA, Option.map, eq_self, reduceCtorEq, ite_true, ite_false, cellsAV, fitsAll, CK.fits, fillA, AV.cells, writeN, sliceCells, appendA, lenA, i64, loA, hiA, Nat.reduceAdd, Nat.reduceMul, Nat.reduceDiv, Nat.reduceSub, Nat.reduceLeDiff, Nat.reduceLT, Int.reduceLE, Int.reduceLT, foldA, maxA, minA, Int.reduceBEq, Int.reduceBNe, Int.reduceGT, Int.reduceGE, Int.reduceEq, Int.reduceNe, Int.reduceToNat, AOp.stops, ↓want_eq, ↓exec_lenX, ↓exec_storeX, ↓exec_storeN, storeN_one, ↓exec_bsX, ↓exec_sliceX, ↓exec_copyX, ↓exec_appNil, ↓exec_carryX, Nat.sub_zero, rep_len, e1, decide_eq_false h3]; with_reducible first | exact EqP.at_ | exact EqP.cont | exact EqP.hcont | exact EqP.gate | exact EqP.hgate))))
    exact AW_ret ⟨_, rfl, rfl, rfl⟩
  have h3 : r * p ≤ 512 := Decidable.of_not_not h3
  (repeat (first | refine GOS ?_ | (with_reducible (first | apply AO_any | apply AHd_any | apply AP_go | apply AHP_go); focus (simp only [Sm, wantedA, execA, stepA, List.getElem?_cons_zero, List.getElem?_cons_succ, if_true, if_false, binA, binInt, unA, eqA, Option.map, eq_self, reduceCtorEq, ite_true, ite_false, cellsAV, fitsAll, CK.fits, fillA, AV.cells, writeN, sliceCells, appendA, lenA, i64, loA, hiA, Nat.reduceAdd, Nat.reduceMul, Nat.reduceDiv, Nat.reduceSub, Nat.reduceLeDiff, Nat.reduceLT, Int.reduceLE, Int.reduceLT, foldA, maxA, minA, Int.reduceBEq, Int.reduceBNe, Int.reduceGT, Int.reduceGE, Int.reduceEq, Int.reduceNe, Int.reduceToNat, AOp.stops, ↓want_eq, ↓exec_lenX, ↓exec_storeX, ↓exec_storeN, storeN_one, ↓exec_bsX, ↓exec_sliceX, ↓exec_copyX, ↓exec_appNil, ↓exec_carryX, Nat.sub_zero, rep_len, e1, decide_eq_true h3]; with_reducible first | exact EqP.at_ | exact EqP.cont | exact EqP.hcont | exact EqP.gate | exact EqP.hgate))))
  refine AO_call rfl (AC_Within fl H l 1 32) ?_
  rintro _ _ ⟨rfl, rfl⟩
  by_cases h4 : ¬ (1 ≤ l ∧ l ≤ 32)
  · rw [decide_eq_false h4, if_neg (show ¬ chkS l r p n from fun h => h4 h.2.2.2.1)]
    refine GO ?_
    exact AW_ret ⟨_, rfl, rfl, rfl⟩
  have h4 : 1 ≤ l ∧ l ≤ 32 := Decidable.of_not_not h4
  rw [decide_eq_true h4]
  have e2 : IntKind.i64.wrap (16 * r) = 16 * r := i64_of (by omega) (by omega)
  by_cases h5 : ¬ l < 16 * r
  · rw [if_neg (show ¬ chkS l r p n from fun h => h5 h.2.2.2.2.1)]
    (repeat (first | refine GOS ?_ | (with_reducible (first | apply AO_any | apply AHd_any | apply AP_go | apply AHP_go); focus (simp only [Sm, wantedA, execA, stepA, List.getElem?_cons_zero, List.getElem?_cons_succ, if_true, if_false, binA, binInt, unA, eqA, Option.map, eq_self, reduceCtorEq, ite_true, ite_false, cellsAV, fitsAll, CK.fits, fillA, AV.cells, writeN, sliceCells, appendA, lenA, i64, loA, hiA, Nat.reduceAdd, Nat.reduceMul, Nat.reduceDiv, Nat.reduceSub, Nat.reduceLeDiff, Nat.reduceLT, Int.reduceLE, Int.reduceLT, foldA, maxA, minA, Int.reduceBEq, Int.reduceBNe, Int.reduceGT, Int.reduceGE, Int.reduceEq, Int.reduceNe, Int.reduceToNat, AOp.stops, ↓want_eq, ↓exec_lenX, ↓exec_storeX, ↓exec_storeN, storeN_one, ↓exec_bsX, ↓exec_sliceX, ↓exec_copyX, ↓exec_appNil, ↓exec_carryX, Nat.sub_zero, rep_len, e2, decide_eq_false h5]; with_reducible first | exact EqP.at_ | exact EqP.cont | exact EqP.hcont | exact EqP.gate | exact EqP.hgate))))
    exact AW_ret ⟨_, rfl, rfl, rfl⟩
  have h5 : l < 16 * r := Decidable.of_not_not h5
  (repeat (first | refine GOS ?_ | (with_reducible (first | apply AO_any | apply AHd_any | apply AP_go | apply AHP_go); focus (simp only [Sm, wantedA, execA, stepA, List.getElem?_cons_zero, List.getElem?_cons_succ, if_true, if_false, binA, binInt, unA, eqA, Option.map, eq_self, reduceCtorEq, ite_true, ite_false, cellsAV, fitsAll, CK.fits, fillA, AV.cells, writeN, sliceCells, appendA, lenA, i64, loA, hiA, Nat.reduceAdd, Nat.reduceMul, Nat.reduceDiv, Nat.reduceSub, Nat.reduceLeDiff, Nat.reduceLT, Int.reduceLE, Int.reduceLT, foldA, maxA, minA, Int.reduceBEq, Int.reduceBNe, Int.reduceGT, Int.reduceGE, Int.reduceEq, Int.reduceNe, Int.reduceToNat, AOp.stops, ↓want_eq, ↓exec_lenX, ↓exec_storeX, ↓exec_storeN, storeN_one, ↓exec_bsX, ↓exec_sliceX, ↓exec_copyX, ↓exec_appNil, ↓exec_carryX, Nat.sub_zero, rep_len, e2, decide_eq_true h5]; with_reducible first | exact EqP.at_ | exact EqP.cont | exact EqP.hcont | exact EqP.gate | exact EqP.hgate))))
  refine AO_call rfl (AC_Within fl H n 1 1024) ?_
  rintro _ _ ⟨rfl, rfl⟩
  by_cases h6 : ¬ (1 ≤ n ∧ n ≤ 1024)
  · rw [decide_eq_false h6, if_neg (show ¬ chkS l r p n from fun h => h6 h.2.2.2.2.2)]
    refine GO ?_
    exact AW_ret ⟨_, rfl, rfl, rfl⟩
  have h6 : 1 ≤ n ∧ n ≤ 1024 := Decidable.of_not_not h6
  rw [decide_eq_true h6, if_pos (show chkS l r p n from ⟨h1, h2, h3, h4, h5, h6⟩)]
  refine GO ?_
  exact AW_ret ⟨_, rfl, rfl, rfl⟩
def needO (l r p : Nat) : Nat := upO (128 * r * (2 ^ l + p + 2)) 1024
theorem need_room {l r p : Nat} (h : chkS l r p 1) : 2 ^ l ≤ 4294967296 ∧ 1 ≤ r ∧ r ≤ 512 ∧ 1 ≤ p ∧ p ≤ 512 ∧ l ≤ 32 ∧ 1 ≤ 128 * r * (2 ^ l + p + 2) ∧ 128 * r * (2 ^ l + p + 2) ≤ 65536 * 4294967810 := by
  obtain ⟨h1, h2, _, h4, _⟩ := h
  have p1 : 2 ^ l ≤ 2 ^ 32 := Nat.pow_le_pow_right (by omega) (by omega)
  generalize 2 ^ l = m at *
  have m1 : 128 * r * (m + p + 2) ≤ 65536 * 4294967810 := Nat.mul_le_mul (by omega) (by omega)
  have m2 : 1 * 1 ≤ 128 * r * (m + p + 2) := Nat.mul_le_mul (by omega) (by omega)
  omega
theorem powO_small {l : Nat} (h : l ≤ 62) : powO (l : Int) = (((2 ^ l : Nat) : Int), 0) := by
  rw [powO, if_neg (by omega), if_neg (by omega), Int.toNat_natCast]
theorem AC_scNeed (H : AHeap) (l r p : Nat) (h : chkS l r p 1) : AC A H.length F_scrypt_Need [.c (.int .i64 (l : Int)), .c (.int .i64 (r : Int)), .c (.int .i64 (p : Int))] H (fun v H' => v = .tup [.c (.int .i64 ((needO l r p : Nat) : Int)), .c (.int .i64 0)] ∧ Kept H.length H H') := by
  refine AC.kept ?_ (Nat.le_refl _)
  obtain ⟨b1, b2, b3, b4, b5, b6, b7, b8⟩ := need_room h
  refine AC_enter t_scrypt_Need ?_; simp only [c_scrypt_Need, enterA, List.replicate, List.length_cons, List.length_nil, Nat.reduceAdd, Nat.reduceSub, List.cons_append, List.nil_append]
  refine GO ?_
  refine AO_call rfl (AC_scCheck H.length H l r p 1) ?_
  rintro _ _ ⟨rfl, rfl⟩
  rw [if_pos h]
  refine GO ?_
  refine AO_call rfl (AC_Power H.length H l) ?_
  rintro _ _ ⟨rfl, rfl⟩
  rw [powO_small (by omega)]
  rw [needO]
  generalize 2 ^ l = m at *
  refine GO ?_
  have y1 : Rd (H ++ [Blk.own (I6 [m, p, 2])]) (.slc H.length 0 3 1) 1 (I6 [m, p, 2]) := Rd.all (hcells_own hown_last) rfl
  refine AO_call rfl (AC_Add H.length (H ++ [Blk.own (I6 [m, p, 2])]) (.slc H.length 0 3 1) [m, p, 2] 3 rfl (by omega) y1 (fun i hi => by
    rcases (show i = 0 ∨ i = 1 ∨ i = 2 ∨ i = 3 by omega) with rfl | rfl | rfl | rfl <;> simp [psum] <;> omega)) ?_
  rintro _ _ ⟨rfl, rfl⟩
  have s3 : psum [m, p, 2] 3 = m + p + 2 := by simp [psum]
  rw [s3]
  have l1 : (H ++ [Blk.own (I6 [m, p, 2])]).length = H.length + 1 := by simp
  generalize H ++ [Blk.own (I6 [m, p, 2])] = H1 at *
  refine GO ?_
  have y2 : Rd (H1 ++ [Blk.own (I6 [128, r, m + p + 2])]) (.slc H1.length 0 3 1) 1 (I6 [128, r, m + p + 2]) := Rd.all (hcells_own hown_last) rfl
  have q3 : pprod [128, r, m + p + 2] 3 = 128 * r * (m + p + 2) := by simp [pprod]
  refine AO_call rfl ((AC_Mul (H1 ++ [Blk.own (I6 [128, r, m + p + 2])]) (.slc H1.length 0 3 1) [128, r, m + p + 2] 3 rfl (by omega) y2 (fun i hi => by
    rcases (show i = 0 ∨ i = 1 ∨ i = 2 ∨ i = 3 by omega) with rfl | rfl | rfl | rfl
    · simp [pprod]
    · simp [pprod]
    · simp [pprod]; omega
    · rw [q3]; omega) (fun i hi => by
    rcases (show i = 0 ∨ i = 1 ∨ i = 2 by omega) with rfl | rfl | rfl <;> simp <;> omega)).floor (by simp; omega)) ?_
  rintro _ _ ⟨rfl, rfl⟩
  rw [q3]
  generalize 128 * r * (m + p + 2) = x at *
  refine GO ?_
  refine AO_call rfl (AC_Blocks H.length _ x (by omega)) ?_
  rintro _ _ ⟨rfl, rfl⟩
  refine GO ?_
  exact AW_ret ⟨_, rfl, rfl⟩
end PK

/- Package sha as code of the abstract machine. -/
namespace PK
open Go PAbs

noncomputable def c_sha_New : AFn := AFn.mk 11 [.tmp 0]
  (.seq (.region
      [⟨some 0, .mv (.k (.c (.pnil))), none⟩])
  (.seq (.region
      [⟨some 4, .call F_feed_New [.k (.c (.int .i64 64)), .k (.c (.bool false))], none⟩,
        ⟨some 3, .mv (.t 4), none⟩,
        ⟨some 5, .extract (.t 3) 0, none⟩,
        ⟨some 6, .extract (.t 3) 1, none⟩,
        ⟨some 1, .mv (.t 5), none⟩,
        ⟨some 2, .mv (.t 6), none⟩])
  (.seq (.region
      [⟨some 7, .mv (.t 1), none⟩,
        ⟨some 8, .call F_sha_Initial [], none⟩,
        ⟨some 9, .build ([.pnil, .int .u32 0, .int .u32 0, .int .u32 0, .int .u32 0, .int .u32 0, .int .u32 0, .int .u32 0, .int .u32 0]) [(0, 1, .t 7), (1, 8, .t 8)], none⟩,
        ⟨some 10, .box (.t 9), none⟩,
        ⟨some 0, .mv (.t 10), none⟩])
  (.ret))))
theorem t_sha_New : A F_sha_New = some c_sha_New := by kernel_rfl

noncomputable def c_sha_Hash_Add : AFn := AFn.mk 34 [.tmp 4]
  (.seq (.region
      [⟨some 4, .mv (.k (.c (.pnil))), none⟩])
  (.seq (.seq (.region
        [⟨some 7, .mv (.t 0), none⟩,
          ⟨some 8, .eq false .ptr (.t 7) (.k (.c (.pnil))), none⟩])
    (.cond (.t 8)
      (.seq (.region
          [⟨some 4, .mv (.k (.c (.pnil))), none⟩])
      (.ret))
      (.skip)))
  (.seq (.seq (.region
        [⟨some 9, .mv (.t 0), none⟩,
          ⟨some 10, .nilCheck (.t 9), none⟩,
          ⟨some 11, .fieldAddr 0 (.t 10), none⟩,
          ⟨some 12, .load1 (.t 11), none⟩,
          ⟨some 13, .mv (.t 1), none⟩,
          ⟨some 14, .call F_feed_Feed_Put [.t 12, .t 13], none⟩,
          ⟨some 15, .len false (.t 14), none⟩,
          ⟨some 16, .mv (.k (.c (.int .i64 0))), none⟩])
    (.block 0
      (.loop
        (.seq (.region
            [⟨some 17, .bin .lss (.t 16) (.t 15), none⟩])
        (.seq (.cond (.t 17)
            (.skip)
            (.exit 0))
        (.seq (.block 1
            (.seq (.region
                [⟨some 18, .idxSlc 1 (.t 14) (.t 16), none⟩,
                  ⟨some 19, .load1 (.t 18), none⟩,
                  ⟨some 6, .mv (.t 19), none⟩])
            (.region
              [⟨some 21, .mv (.t 0), none⟩,
                ⟨some 22, .mv (.t 0), none⟩,
                ⟨some 23, .nilCheck (.t 22), none⟩,
                ⟨some 24, .fieldAddr 1 (.t 23), none⟩,
                ⟨some 25, .loadN 8 (.t 24), none⟩,
                ⟨some 26, .mv (.t 6), none⟩,
                ⟨some 27, .call F_sha_Compress [.t 25, .t 26], none⟩,
                ⟨some 20, .mv (.t 27), none⟩,
                ⟨some 28, .extract (.t 20) 0, none⟩,
                ⟨some 29, .extract (.t 20) 1, none⟩,
                ⟨some 30, .nilCheck (.t 21), none⟩,
                ⟨some 31, .fieldAddr 1 (.t 30), none⟩,
                ⟨none, .store 8 (.t 31) (.t 28), none⟩])))
        (.region
          [⟨some 32, .bin .add (.t 16) (.k (.c (.int .i64 1))), none⟩,
            ⟨some 16, .mv (.t 32), none⟩])))))))
  (.seq (.region
      [⟨some 33, .mv (.t 0), none⟩,
        ⟨some 4, .mv (.t 33), none⟩])
  (.ret)))))
theorem t_sha_Hash_Add : A F_sha_Hash_Add = some c_sha_Hash_Add := by kernel_rfl

noncomputable def c_sha_Of : AFn := AFn.mk 7 [.tmp 2]
  (.seq (.region
      [⟨some 2, .mv (.k (.c (.str []))), none⟩])
  (.seq (.region
      [⟨some 3, .call F_sha_New [], none⟩,
        ⟨some 4, .mv (.t 0), none⟩,
        ⟨some 5, .call F_sha_Hash_Add [.t 3, .t 4], none⟩,
        ⟨some 6, .call F_sha_Hash_Sum [.t 5], none⟩,
        ⟨some 2, .mv (.t 6), none⟩])
  (.ret)))
theorem t_sha_Of : A F_sha_Of = some c_sha_Of := by kernel_rfl

noncomputable def c_sha_Initial : AFn := AFn.mk 2 [.cellN 0 8]
  (.seq (.region
      [⟨some 0, .alloc (rep 8 (.int .u32 0)), none⟩])
  (.seq (.region
      [⟨some 1, .build (rep 8 (.int .u32 0)) [(0, 1, .k (.c (.int .u32 1779033703))), (1, 1, .k (.c (.int .u32 3144134277))), (2, 1, .k (.c (.int .u32 1013904242))), (3, 1, .k (.c (.int .u32 2773480762))), (4, 1, .k (.c (.int .u32 1359893119))), (5, 1, .k (.c (.int .u32 2600822924))), (6, 1, .k (.c (.int .u32 528734635))), (7, 1, .k (.c (.int .u32 1541459225)))], none⟩,
        ⟨none, .store 8 (.t 0) (.t 1), none⟩])
  (.ret)))
theorem t_sha_Initial : A F_sha_Initial = some c_sha_Initial := by kernel_rfl

noncomputable def c_sha_Compress : AFn := AFn.mk 132 [.cellN 4 8, .tmp 5]
  (.seq (.region
      [⟨some 2, .box (.t 0), none⟩,
        ⟨some 4, .alloc (rep 8 (.int .u32 0)), none⟩,
        ⟨some 5, .mv (.k (.c (.int .i64 0))), none⟩])
  (.seq (.seq (.region
        [⟨some 23, .mv (.t 1), none⟩,
          ⟨some 24, .len false (.t 23), none⟩,
          ⟨some 25, .bin .neq (.t 24) (.k (.c (.int .i64 64))), none⟩])
    (.cond (.t 25)
      (.seq (.region
          [⟨some 26, .build (rep 8 (.int .u32 0)) [], none⟩,
            ⟨none, .store 8 (.t 4) (.t 26), none⟩,
            ⟨some 5, .mv (.k (.c (.int .i64 9))), none⟩])
      (.ret))
      (.skip)))
  (.seq (.region
      [⟨some 27, .mv (.t 1), none⟩,
        ⟨some 28, .call F_sha_spread [.t 27], none⟩,
        ⟨some 29, .call F_sha_constants [], none⟩,
        ⟨some 6, .alloc (rep 64 (.int .u32 0)), none⟩,
        ⟨some 7, .alloc (rep 64 (.int .u32 0)), none⟩,
        ⟨none, .store 64 (.t 6) (.t 28), none⟩,
        ⟨none, .store 64 (.t 7) (.t 29), none⟩])
  (.seq (.draw
      [⟨some 30, .idxArr 8 1 (.t 2) (.k (.c (.int .i64 0))), none⟩,
        ⟨some 31, .load1 (.t 30), none⟩,
        ⟨some 32, .idxArr 8 1 (.t 2) (.k (.c (.int .i64 1))), none⟩,
        ⟨some 33, .load1 (.t 32), none⟩,
        ⟨some 34, .idxArr 8 1 (.t 2) (.k (.c (.int .i64 2))), none⟩,
        ⟨some 35, .load1 (.t 34), none⟩,
        ⟨some 36, .idxArr 8 1 (.t 2) (.k (.c (.int .i64 3))), none⟩,
        ⟨some 37, .load1 (.t 36), none⟩,
        ⟨some 38, .idxArr 8 1 (.t 2) (.k (.c (.int .i64 4))), none⟩,
        ⟨some 39, .load1 (.t 38), none⟩,
        ⟨some 40, .idxArr 8 1 (.t 2) (.k (.c (.int .i64 5))), none⟩,
        ⟨some 41, .load1 (.t 40), none⟩,
        ⟨some 42, .idxArr 8 1 (.t 2) (.k (.c (.int .i64 6))), none⟩,
        ⟨some 43, .load1 (.t 42), none⟩,
        ⟨some 44, .idxArr 8 1 (.t 2) (.k (.c (.int .i64 7))), none⟩,
        ⟨some 45, .load1 (.t 44), none⟩,
        ⟨some 8, .mv (.t 31), none⟩,
        ⟨some 9, .mv (.t 33), none⟩,
        ⟨some 10, .mv (.t 35), none⟩,
        ⟨some 11, .mv (.t 37), none⟩,
        ⟨some 12, .mv (.t 39), none⟩,
        ⟨some 13, .mv (.t 41), none⟩,
        ⟨some 14, .mv (.t 43), none⟩]
      [⟨some 15, .mv (.t 45), none⟩])
  (.seq (.seq (.region
        [⟨some 46, .mv (.k (.c (.int .i64 0))), none⟩])
    (.block 0
      (.loop
        (.seq (.region
            [⟨some 47, .bin .lss (.t 46) (.k (.c (.int .i64 64))), none⟩])
        (.seq (.cond (.t 47)
            (.skip)
            (.exit 0))
        (.seq (.block 1
            (.seq (.region
                [⟨some 48, .mv (.t 46), none⟩,
                  ⟨some 16, .mv (.t 48), none⟩])
            (.seq (.region
                [⟨some 49, .mv (.t 12), none⟩,
                  ⟨some 50, .call F_words_Right32 [.t 49, .k (.c (.int .i64 6))], none⟩,
                  ⟨some 51, .mv (.t 12), none⟩,
                  ⟨some 52, .call F_words_Right32 [.t 51, .k (.c (.int .i64 11))], none⟩,
                  ⟨some 53, .bin .xor (.t 50) (.t 52), none⟩,
                  ⟨some 54, .mv (.t 12), none⟩,
                  ⟨some 55, .call F_words_Right32 [.t 54, .k (.c (.int .i64 25))], none⟩,
                  ⟨some 56, .bin .xor (.t 53) (.t 55), none⟩,
                  ⟨some 17, .mv (.t 56), none⟩])
            (.seq (.draw
                [⟨some 57, .mv (.t 15), none⟩,
                  ⟨some 58, .mv (.t 17), none⟩,
                  ⟨some 59, .bin .add (.t 57) (.t 58), none⟩,
                  ⟨some 60, .mv (.t 12), none⟩,
                  ⟨some 61, .mv (.t 13), none⟩,
                  ⟨some 62, .bin .and (.t 60) (.t 61), none⟩,
                  ⟨some 63, .mv (.t 12), none⟩,
                  ⟨some 64, .un .xor (.t 63), none⟩,
                  ⟨some 65, .mv (.t 14), none⟩,
                  ⟨some 66, .bin .and (.t 64) (.t 65), none⟩,
                  ⟨some 67, .bin .xor (.t 62) (.t 66), none⟩,
                  ⟨some 68, .bin .add (.t 59) (.t 67), none⟩,
                  ⟨some 69, .mv (.t 16), none⟩,
                  ⟨some 70, .idxArr 64 1 (.t 7) (.t 69), none⟩,
                  ⟨some 71, .load1 (.t 70), none⟩,
                  ⟨some 72, .bin .add (.t 68) (.t 71), none⟩,
                  ⟨some 73, .mv (.t 16), none⟩,
                  ⟨some 74, .idxArr 64 1 (.t 6) (.t 73), none⟩,
                  ⟨some 75, .load1 (.t 74), none⟩]
                [⟨some 76, .bin .add (.t 72) (.t 75), none⟩,
                  ⟨some 18, .mv (.t 76), none⟩])
            (.seq (.region
                [⟨some 77, .mv (.t 8), none⟩,
                  ⟨some 78, .call F_words_Right32 [.t 77, .k (.c (.int .i64 2))], none⟩,
                  ⟨some 79, .mv (.t 8), none⟩,
                  ⟨some 80, .call F_words_Right32 [.t 79, .k (.c (.int .i64 13))], none⟩,
                  ⟨some 81, .bin .xor (.t 78) (.t 80), none⟩,
                  ⟨some 82, .mv (.t 8), none⟩,
                  ⟨some 83, .call F_words_Right32 [.t 82, .k (.c (.int .i64 22))], none⟩,
                  ⟨some 84, .bin .xor (.t 81) (.t 83), none⟩,
                  ⟨some 19, .mv (.t 84), none⟩])
            (.seq (.region
                [⟨some 85, .mv (.t 19), none⟩,
                  ⟨some 86, .mv (.t 8), none⟩,
                  ⟨some 87, .mv (.t 9), none⟩,
                  ⟨some 88, .bin .and (.t 86) (.t 87), none⟩,
                  ⟨some 89, .mv (.t 8), none⟩,
                  ⟨some 90, .mv (.t 10), none⟩,
                  ⟨some 91, .bin .and (.t 89) (.t 90), none⟩,
                  ⟨some 92, .bin .xor (.t 88) (.t 91), none⟩,
                  ⟨some 93, .mv (.t 9), none⟩,
                  ⟨some 94, .mv (.t 10), none⟩,
                  ⟨some 95, .bin .and (.t 93) (.t 94), none⟩,
                  ⟨some 96, .bin .xor (.t 92) (.t 95), none⟩,
                  ⟨some 97, .bin .add (.t 85) (.t 96), none⟩,
                  ⟨some 20, .mv (.t 97), none⟩])
            (.region
              [⟨some 98, .mv (.t 14), none⟩,
                ⟨some 99, .mv (.t 13), none⟩,
                ⟨some 100, .mv (.t 12), none⟩,
                ⟨some 101, .mv (.t 11), none⟩,
                ⟨some 102, .mv (.t 18), none⟩,
                ⟨some 103, .bin .add (.t 101) (.t 102), none⟩,
                ⟨some 104, .mv (.t 10), none⟩,
                ⟨some 105, .mv (.t 9), none⟩,
                ⟨some 106, .mv (.t 8), none⟩,
                ⟨some 107, .mv (.t 18), none⟩,
                ⟨some 108, .mv (.t 20), none⟩,
                ⟨some 109, .bin .add (.t 107) (.t 108), none⟩,
                ⟨some 15, .mv (.t 98), none⟩,
                ⟨some 14, .mv (.t 99), none⟩,
                ⟨some 13, .mv (.t 100), none⟩,
                ⟨some 12, .mv (.t 103), none⟩,
                ⟨some 11, .mv (.t 104), none⟩,
                ⟨some 10, .mv (.t 105), none⟩,
                ⟨some 9, .mv (.t 106), none⟩,
                ⟨some 8, .mv (.t 109), none⟩])))))))
        (.region
          [⟨some 110, .bin .add (.t 46) (.k (.c (.int .i64 1))), none⟩,
            ⟨some 46, .mv (.t 110), none⟩])))))))
  (.seq (.seq (.region
        [⟨some 111, .mv (.t 8), none⟩,
          ⟨some 112, .mv (.t 9), none⟩,
          ⟨some 113, .mv (.t 10), none⟩,
          ⟨some 114, .mv (.t 11), none⟩,
          ⟨some 115, .mv (.t 12), none⟩,
          ⟨some 116, .mv (.t 13), none⟩,
          ⟨some 117, .mv (.t 14), none⟩,
          ⟨some 118, .mv (.t 15), none⟩,
          ⟨some 119, .build (rep 8 (.int .u32 0)) [(0, 1, .t 111), (1, 1, .t 112), (2, 1, .t 113), (3, 1, .t 114), (4, 1, .t 115), (5, 1, .t 116), (6, 1, .t 117), (7, 1, .t 118)], none⟩,
          ⟨some 120, .mv (.k (.c (.int .i64 0))), none⟩])
    (.block 2
      (.loop
        (.seq (.region
            [⟨some 121, .bin .lss (.t 120) (.k (.c (.int .i64 8))), none⟩])
        (.seq (.cond (.t 121)
            (.skip)
            (.exit 2))
        (.seq (.block 3
            (.seq (.region
                [⟨some 122, .mv (.t 120), none⟩,
                  ⟨some 123, .elem1 8 (.t 119) (.t 120), none⟩,
                  ⟨some 21, .mv (.t 122), none⟩,
                  ⟨some 22, .mv (.t 123), none⟩])
            (.region
              [⟨some 124, .mv (.t 21), none⟩,
                ⟨some 125, .idxArr 8 1 (.t 2) (.t 124), none⟩,
                ⟨some 126, .load1 (.t 125), none⟩,
                ⟨some 127, .mv (.t 22), none⟩,
                ⟨some 128, .bin .add (.t 126) (.t 127), none⟩,
                ⟨some 129, .idxArr 8 1 (.t 2) (.t 124), none⟩,
                ⟨none, .store 1 (.t 129) (.t 128), none⟩])))
        (.region
          [⟨some 130, .bin .add (.t 120) (.k (.c (.int .i64 1))), none⟩,
            ⟨some 120, .mv (.t 130), none⟩])))))))
  (.seq (.region
      [⟨some 131, .loadN 8 (.t 2), none⟩,
        ⟨none, .store 8 (.t 4) (.t 131), none⟩,
        ⟨some 5, .mv (.k (.c (.int .i64 0))), none⟩])
  (.ret))))))))
theorem t_sha_Compress : A F_sha_Compress = some c_sha_Compress := by kernel_rfl

noncomputable def c_sha_Hash_Sum : AFn := AFn.mk 23 [.tmp 2]
  (.seq (.region
      [⟨some 2, .mv (.k (.c (.str []))), none⟩])
  (.seq (.seq (.region
        [⟨some 4, .mv (.t 0), none⟩,
          ⟨some 5, .eq false .ptr (.t 4) (.k (.c (.pnil))), none⟩])
    (.cond (.t 5)
      (.seq (.region
          [⟨some 2, .mv (.k (.c (.str []))), none⟩])
      (.ret))
      (.skip)))
  (.seq (.region
      [⟨some 6, .mv (.t 0), none⟩,
        ⟨some 7, .call F_sha_Hash_Clone [.t 6], none⟩,
        ⟨some 3, .mv (.t 7), none⟩])
  (.seq (.region
      [⟨some 8, .mv (.t 3), none⟩,
        ⟨some 9, .mv (.t 0), none⟩,
        ⟨some 10, .nilCheck (.t 9), none⟩,
        ⟨some 11, .fieldAddr 0 (.t 10), none⟩,
        ⟨some 12, .load1 (.t 11), none⟩,
        ⟨some 13, .call F_feed_Feed_Total [.t 12], none⟩,
        ⟨some 14, .call F_sha_Pad [.t 13], none⟩,
        ⟨some 15, .buildSlice ([.str []]) 1 1 [(0, 1, .t 14)], none⟩,
        ⟨some 16, .call F_sha_Hash_Add [.t 8, .t 15], none⟩])
  (.seq (.region
      [⟨some 17, .mv (.t 3), none⟩,
        ⟨some 18, .nilCheck (.t 17), none⟩,
        ⟨some 19, .fieldAddr 1 (.t 18), none⟩,
        ⟨some 20, .sliceArr 8 1 (.t 19) none none, none⟩,
        ⟨some 21, .call F_words_Big32 [.t 20], none⟩,
        ⟨some 22, .bytesStr (.t 21), none⟩,
        ⟨some 2, .mv (.t 22), none⟩])
  (.ret))))))
theorem t_sha_Hash_Sum : A F_sha_Hash_Sum = some c_sha_Hash_Sum := by kernel_rfl

noncomputable def c_sha_spread : AFn := AFn.mk 63 [.cellN 2 64]
  (.seq (.region
      [⟨some 2, .alloc (rep 64 (.int .u32 0)), none⟩])
  (.seq (.region
      [⟨some 3, .alloc (rep 64 (.int .u32 0)), none⟩])
  (.seq (.region
      [⟨some 12, .mv (.t 0), none⟩,
        ⟨some 13, .call F_words_TakeBig32 [.t 12], none⟩,
        ⟨some 11, .mv (.t 13), none⟩,
        ⟨some 14, .extract (.t 11) 0, none⟩,
        ⟨some 15, .extract (.t 11) 1, none⟩,
        ⟨some 4, .mv (.t 14), none⟩,
        ⟨some 5, .mv (.t 15), none⟩])
  (.seq (.region
      [⟨some 16, .sliceArr 64 1 (.t 3) none (some (.k (.c (.int .i64 16)))), none⟩,
        ⟨some 17, .mv (.t 4), none⟩,
        ⟨some 18, .copy 1 (.t 16) (.t 17), none⟩])
  (.seq (.seq (.region
        [⟨some 6, .mv (.k (.c (.int .i64 16))), none⟩])
    (.block 0
      (.loop
        (.seq (.seq (.region
              [⟨some 19, .mv (.t 6), none⟩,
                ⟨some 20, .bin .lss (.t 19) (.k (.c (.int .i64 64))), none⟩])
          (.cond (.t 20)
            (.skip)
            (.exit 0)))
        (.seq (.block 1
            (.seq (.draw
                [⟨some 23, .mv (.t 6), none⟩,
                  ⟨some 24, .bin .sub (.t 23) (.k (.c (.int .i64 15))), none⟩,
                  ⟨some 25, .idxArr 64 1 (.t 3) (.t 24), none⟩,
                  ⟨some 26, .load1 (.t 25), none⟩,
                  ⟨some 27, .mv (.t 6), none⟩,
                  ⟨some 28, .bin .sub (.t 27) (.k (.c (.int .i64 2))), none⟩,
                  ⟨some 29, .idxArr 64 1 (.t 3) (.t 28), none⟩,
                  ⟨some 30, .load1 (.t 29), none⟩,
                  ⟨some 7, .mv (.t 26), none⟩]
                [⟨some 8, .mv (.t 30), none⟩])
            (.seq (.region
                [⟨some 31, .mv (.t 7), none⟩,
                  ⟨some 32, .call F_words_Right32 [.t 31, .k (.c (.int .i64 7))], none⟩,
                  ⟨some 33, .mv (.t 7), none⟩,
                  ⟨some 34, .call F_words_Right32 [.t 33, .k (.c (.int .i64 18))], none⟩,
                  ⟨some 35, .bin .xor (.t 32) (.t 34), none⟩,
                  ⟨some 36, .mv (.t 7), none⟩,
                  ⟨some 37, .bin .shr (.t 36) (.k (.c (.int .u64 3))), none⟩,
                  ⟨some 38, .bin .xor (.t 35) (.t 37), none⟩,
                  ⟨some 9, .mv (.t 38), none⟩])
            (.seq (.region
                [⟨some 39, .mv (.t 8), none⟩,
                  ⟨some 40, .call F_words_Right32 [.t 39, .k (.c (.int .i64 17))], none⟩,
                  ⟨some 41, .mv (.t 8), none⟩,
                  ⟨some 42, .call F_words_Right32 [.t 41, .k (.c (.int .i64 19))], none⟩,
                  ⟨some 43, .bin .xor (.t 40) (.t 42), none⟩,
                  ⟨some 44, .mv (.t 8), none⟩,
                  ⟨some 45, .bin .shr (.t 44) (.k (.c (.int .u64 10))), none⟩,
                  ⟨some 46, .bin .xor (.t 43) (.t 45), none⟩,
                  ⟨some 10, .mv (.t 46), none⟩])
            (.draw
              [⟨some 47, .mv (.t 6), none⟩,
                ⟨some 48, .mv (.t 6), none⟩,
                ⟨some 49, .bin .sub (.t 48) (.k (.c (.int .i64 16))), none⟩,
                ⟨some 50, .idxArr 64 1 (.t 3) (.t 49), none⟩,
                ⟨some 51, .load1 (.t 50), none⟩,
                ⟨some 52, .mv (.t 9), none⟩,
                ⟨some 53, .bin .add (.t 51) (.t 52), none⟩,
                ⟨some 54, .mv (.t 6), none⟩,
                ⟨some 55, .bin .sub (.t 54) (.k (.c (.int .i64 7))), none⟩,
                ⟨some 56, .idxArr 64 1 (.t 3) (.t 55), none⟩,
                ⟨some 57, .load1 (.t 56), none⟩,
                ⟨some 58, .bin .add (.t 53) (.t 57), none⟩,
                ⟨some 59, .mv (.t 10), none⟩,
                ⟨some 60, .bin .add (.t 58) (.t 59), none⟩]
              [⟨some 61, .idxArr 64 1 (.t 3) (.t 47), none⟩,
                ⟨none, .store 1 (.t 61) (.t 60), none⟩])))))
        (.region
          [⟨some 21, .mv (.t 6), none⟩,
            ⟨some 22, .bin .add (.t 21) (.k (.c (.int .i64 1))), none⟩,
            ⟨some 6, .mv (.t 22), none⟩]))))))
  (.seq (.region
      [⟨some 62, .loadN 64 (.t 3), none⟩,
        ⟨none, .store 64 (.t 2) (.t 62), none⟩])
  (.ret)))))))
theorem t_sha_spread : A F_sha_spread = some c_sha_spread := by kernel_rfl

noncomputable def c_sha_constants : AFn := AFn.mk 2 [.cellN 0 64]
  (.seq (.region
      [⟨some 0, .alloc (rep 64 (.int .u32 0)), none⟩])
  (.seq (.region
      [⟨some 1, .build (rep 64 (.int .u32 0)) [(0, 1, .k (.c (.int .u32 1116352408))), (1, 1, .k (.c (.int .u32 1899447441))), (2, 1, .k (.c (.int .u32 3049323471))), (3, 1, .k (.c (.int .u32 3921009573))), (4, 1, .k (.c (.int .u32 961987163))), (5, 1, .k (.c (.int .u32 1508970993))), (6, 1, .k (.c (.int .u32 2453635748))), (7, 1, .k (.c (.int .u32 2870763221))), (8, 1, .k (.c (.int .u32 3624381080))), (9, 1, .k (.c (.int .u32 310598401))), (10, 1, .k (.c (.int .u32 607225278))), (11, 1, .k (.c (.int .u32 1426881987))), (12, 1, .k (.c (.int .u32 1925078388))), (13, 1, .k (.c (.int .u32 2162078206))), (14, 1, .k (.c (.int .u32 2614888103))), (15, 1, .k (.c (.int .u32 3248222580))), (16, 1, .k (.c (.int .u32 3835390401))), (17, 1, .k (.c (.int .u32 4022224774))), (18, 1, .k (.c (.int .u32 264347078))), (19, 1, .k (.c (.int .u32 604807628))), (20, 1, .k (.c (.int .u32 770255983))), (21, 1, .k (.c (.int .u32 1249150122))), (22, 1, .k (.c (.int .u32 1555081692))), (23, 1, .k (.c (.int .u32 1996064986))), (24, 1, .k (.c (.int .u32 2554220882))), (25, 1, .k (.c (.int .u32 2821834349))), (26, 1, .k (.c (.int .u32 2952996808))), (27, 1, .k (.c (.int .u32 3210313671))), (28, 1, .k (.c (.int .u32 3336571891))), (29, 1, .k (.c (.int .u32 3584528711))), (30, 1, .k (.c (.int .u32 113926993))), (31, 1, .k (.c (.int .u32 338241895))), (32, 1, .k (.c (.int .u32 666307205))), (33, 1, .k (.c (.int .u32 773529912))), (34, 1, .k (.c (.int .u32 1294757372))), (35, 1, .k (.c (.int .u32 1396182291))), (36, 1, .k (.c (.int .u32 1695183700))), (37, 1, .k (.c (.int .u32 1986661051))), (38, 1, .k (.c (.int .u32 2177026350))), (39, 1, .k (.c (.int .u32 2456956037))), (40, 1, .k (.c (.int .u32 2730485921))), (41, 1, .k (.c (.int .u32 2820302411))), (42, 1, .k (.c (.int .u32 3259730800))), (43, 1, .k (.c (.int .u32 3345764771))), (44, 1, .k (.c (.int .u32 3516065817))), (45, 1, .k (.c (.int .u32 3600352804))), (46, 1, .k (.c (.int .u32 4094571909))), (47, 1, .k (.c (.int .u32 275423344))), (48, 1, .k (.c (.int .u32 430227734))), (49, 1, .k (.c (.int .u32 506948616))), (50, 1, .k (.c (.int .u32 659060556))), (51, 1, .k (.c (.int .u32 883997877))), (52, 1, .k (.c (.int .u32 958139571))), (53, 1, .k (.c (.int .u32 1322822218))), (54, 1, .k (.c (.int .u32 1537002063))), (55, 1, .k (.c (.int .u32 1747873779))), (56, 1, .k (.c (.int .u32 1955562222))), (57, 1, .k (.c (.int .u32 2024104815))), (58, 1, .k (.c (.int .u32 2227730452))), (59, 1, .k (.c (.int .u32 2361852424))), (60, 1, .k (.c (.int .u32 2428436474))), (61, 1, .k (.c (.int .u32 2756734187))), (62, 1, .k (.c (.int .u32 3204031479))), (63, 1, .k (.c (.int .u32 3329325298)))], none⟩,
        ⟨none, .store 64 (.t 0) (.t 1), none⟩])
  (.ret)))
theorem t_sha_constants : A F_sha_constants = some c_sha_constants := by kernel_rfl

noncomputable def c_sha_Hash_Clone : AFn := AFn.mk 16 [.tmp 2]
  (.seq (.region
      [⟨some 2, .mv (.k (.c (.pnil))), none⟩])
  (.seq (.seq (.region
        [⟨some 3, .mv (.t 0), none⟩,
          ⟨some 4, .eq false .ptr (.t 3) (.k (.c (.pnil))), none⟩])
    (.cond (.t 4)
      (.seq (.region
          [⟨some 2, .mv (.k (.c (.pnil))), none⟩])
      (.ret))
      (.skip)))
  (.seq (.draw
      [⟨some 5, .mv (.t 0), none⟩,
        ⟨some 6, .nilCheck (.t 5), none⟩,
        ⟨some 7, .fieldAddr 0 (.t 6), none⟩,
        ⟨some 8, .load1 (.t 7), none⟩,
        ⟨some 9, .call F_feed_Feed_Copy [.t 8], none⟩,
        ⟨some 10, .mv (.t 0), none⟩,
        ⟨some 11, .nilCheck (.t 10), none⟩,
        ⟨some 12, .fieldAddr 1 (.t 11), none⟩,
        ⟨some 13, .loadN 8 (.t 12), none⟩]
      [⟨some 14, .build ([.pnil, .int .u32 0, .int .u32 0, .int .u32 0, .int .u32 0, .int .u32 0, .int .u32 0, .int .u32 0, .int .u32 0]) [(0, 1, .t 9), (1, 8, .t 13)], none⟩,
        ⟨some 15, .box (.t 14), none⟩,
        ⟨some 2, .mv (.t 15), none⟩])
  (.ret))))
theorem t_sha_Hash_Clone : A F_sha_Hash_Clone = some c_sha_Hash_Clone := by kernel_rfl

noncomputable def c_sha_Pad : AFn := AFn.mk 27 [.tmp 2]
  (.seq (.region
      [⟨some 2, .mv (.k (.c (.str []))), none⟩])
  (.seq (.seq (.region
        [⟨some 6, .mv (.t 0), none⟩,
          ⟨some 7, .bin .lss (.t 6) (.k (.c (.int .i64 0))), none⟩])
    (.cond (.t 7)
      (.seq (.region
          [⟨some 2, .mv (.k (.c (.str []))), none⟩])
      (.ret))
      (.skip)))
  (.seq (.region
      [⟨some 8, .mv (.t 0), none⟩,
        ⟨some 9, .bin .rem (.t 8) (.k (.c (.int .i64 64))), none⟩,
        ⟨some 10, .bin .sub (.k (.c (.int .i64 119))) (.t 9), none⟩,
        ⟨some 11, .bin .rem (.t 10) (.k (.c (.int .i64 64))), none⟩,
        ⟨some 12, .bin .add (.t 11) (.k (.c (.int .i64 1))), none⟩,
        ⟨some 3, .mv (.t 12), none⟩])
  (.seq (.region
      [⟨some 13, .mv (.t 3), none⟩,
        ⟨some 14, .makeSlice ([.int .u8 0]) 1 (.t 13) (.t 13), none⟩,
        ⟨some 4, .mv (.t 14), none⟩])
  (.seq (.region
      [⟨some 15, .mv (.t 4), none⟩,
        ⟨some 16, .idxSlc 1 (.t 15) (.k (.c (.int .i64 0))), none⟩,
        ⟨none, .store 1 (.t 16) (.k (.c (.int .u8 128))), none⟩])
  (.seq (.region
      [⟨some 17, .mv (.t 0), none⟩,
        ⟨some 18, .convInt .u64 (.t 17), none⟩,
        ⟨some 19, .bin .mul (.t 18) (.k (.c (.int .u64 8))), none⟩,
        ⟨some 5, .mv (.t 19), none⟩])
  (.seq (.region
      [⟨some 20, .mv (.t 4), none⟩,
        ⟨some 21, .mv (.t 5), none⟩,
        ⟨some 22, .buildSlice ([.int .u64 0]) 1 1 [(0, 1, .t 21)], none⟩,
        ⟨some 23, .call F_words_Big64 [.t 22], none⟩,
        ⟨some 24, .append ([.int .u8 0]) 1 (.t 20) (.t 23), none⟩,
        ⟨some 4, .mv (.t 24), none⟩])
  (.seq (.region
      [⟨some 25, .mv (.t 4), none⟩,
        ⟨some 26, .bytesStr (.t 25), none⟩,
        ⟨some 2, .mv (.t 26), none⟩])
  (.ret)))))))))
theorem t_sha_Pad : A F_sha_Pad = some c_sha_Pad := by kernel_rfl
end PK

/- SHA-256, plain; turned words and spread, walked. -/

namespace PK
open Go PAbs
set_option linter.unusedSimpArgs false
set_option linter.unusedVariables false
set_option maxRecDepth 100000
set_option maxHeartbeats 2000000

/-! words of 32 bits -/
def ad (a b : Nat) : Nat := (a + b) % 4294967296
theorem ad_lt (a b : Nat) : ad a b < 4294967296 := Nat.mod_lt _ (by decide)
theorem wrap_ad (a b : Nat) : IntKind.u32.wrap ((a : Int) + (b : Int)) = ((ad a b : Nat) : Int) := by rw [wrap32]; simp only [ad]; omega
theorem xo_lt {a b : Nat} (ha : a < 4294967296) (hb : b < 4294967296) : a ^^^ b < 4294967296 := Nat.xor_lt_two_pow (n := 32) ha hb
theorem an_lt {a b : Nat} (ha : a < 4294967296) : a &&& b < 4294967296 := Nat.lt_of_le_of_lt Nat.and_le_left ha
theorem xo32 {a b : Nat} (ha : a < 4294967296) (hb : b < 4294967296) : bitsA .xor .u32 (a : Int) (b : Int) = ((a ^^^ b : Nat) : Int) := xor_of rfl ha hb
theorem an32 {a b : Nat} (ha : a < 4294967296) (hb : b < 4294967296) : bitsA .and .u32 (a : Int) (b : Int) = ((a &&& b : Nat) : Int) := and_of rfl ha hb
theorem not32 {a : Nat} (ha : a < 4294967296) : bitsA .xor .u32 4294967295 (a : Int) = ((4294967295 - a : Nat) : Int) := by
  have h : bitsA .xor .u32 ((4294967295 : Nat) : Int) (a : Int) = ((4294967295 ^^^ a : Nat) : Int) := xor_of rfl (by decide) ha
  refine h.trans ?_
  congr 1
  have e : (BitVec.allOnes 32 ^^^ BitVec.ofNat 32 a).toNat = (~~~ BitVec.ofNat 32 a).toNat := by rw [BitVec.allOnes_xor]
  rw [BitVec.toNat_xor, BitVec.toNat_not, BitVec.toNat_ofNat, BitVec.toNat_allOnes, Nat.mod_eq_of_lt (by exact ha)] at e
  exact e
def rt (n x : Nat) : Nat := rr 32 n x
theorem rt_lt {n x : Nat} (hn : n ≤ 32) (hx : x < 4294967296) : rt n x < 4294967296 := rr_lt hn hx
theorem places_lit {n : Nat} (h : n < 32) : places 32 (n : Int) = n := by simp only [places]; omega

def sg0 (x : Nat) : Nat := rt 7 x ^^^ rt 18 x ^^^ x / 8
def sg1 (x : Nat) : Nat := rt 17 x ^^^ rt 19 x ^^^ x / 1024
theorem sg0_lt {x : Nat} (h : x < 4294967296) : sg0 x < 4294967296 := xo_lt (xo_lt (rt_lt (by omega) h) (rt_lt (by omega) h)) (by omega)
theorem sg1_lt {x : Nat} (h : x < 4294967296) : sg1 x < 4294967296 := xo_lt (xo_lt (rt_lt (by omega) h) (rt_lt (by omega) h)) (by omega)
def nextW (w : List Nat) (i : Nat) : Nat := ad (ad (ad (w.getD (i - 16) 0) (sg0 (w.getD (i - 15) 0))) (w.getD (i - 7) 0)) (sg1 (w.getD (i - 2) 0))
def exW (w : List Nat) : Nat → List Nat
  | 0 => w
  | i + 1 => (exW w i).set (16 + i) (nextW (exW w i) (16 + i))
def Wd (n : Nat) (l : List Nat) : Prop := l.length = n ∧ ∀ k, l.getD k 0 < 4294967296
theorem Wd.set {n : Nat} {l : List Nat} (h : Wd n l) {i v : Nat} (hv : v < 4294967296) : Wd n (l.set i v) := by
  refine ⟨by rw [List.length_set]; exact h.1, fun k => ?_⟩
  rw [getD_set_]; split
  · exact hv
  · exact h.2 k
theorem Wd.ex {w : List Nat} (h : Wd 64 w) : ∀ i, Wd 64 (exW w i)
  | 0 => h
  | i + 1 => (Wd.ex h i).set (ad_lt _ _)
theorem Wd.len {n : Nat} {l : List Nat} (h : Wd n l) : (W32 l).length = n := by rw [W32_length]; exact h.1
theorem Wd.get {n : Nat} {l : List Nat} (h : Wd n l) {i : Nat} (hi : i < n) : (W32 l)[i]? = some (.int .u32 ((l.getD i 0 : Nat) : Int)) := W32_get (by rw [h.1]; exact hi)
theorem W32_put {l : List Nat} {i n : Nat} : (W32 l).set i (.int .u32 (n : Int)) = W32 (l.set i n) := by simp [W32, List.map_set]
theorem W32_app {l m : List Nat} : W32 (l ++ m) = W32 l ++ W32 m := by simp [W32]
def wide (ws : List Nat) : List Nat := ws ++ List.replicate 48 0
theorem Wd.wide {ws : List Nat} (h : Wd 16 ws) : Wd 64 (wide ws) := by
  refine ⟨by simp [PK.wide, h.1], fun k => ?_⟩
  simp only [PK.wide, List.getD_eq_getElem?_getD, List.getElem?_append]
  split
  · have := h.2 k; rwa [List.getD_eq_getElem?_getD] at this
  · rw [List.getElem?_replicate]; split <;> decide

section
variable (H : AHeap)
theorem AC_R32 (n x : Nat) (hn : n < 32) (hx : x < 4294967296) : AC A H.length F_words_Right32 [.c (.int .u32 (x : Int)), .c (.int .i64 (n : Int))] H (fun v H' => v = .c (.int .u32 ((rt n x : Nat) : Int)) ∧ H = H') := by
  refine (AC_Right32 H.length H x n hx).mono fun v H' ⟨h1, h2⟩ => ⟨?_, h2.symm⟩
  rw [h1, places_lit hn]; rfl


def sp5I (p : Nat) (w : List Nat) (H0 : AHeap) (i : Nat) (fr : AFrame) (H : AHeap) : Prop := Chg (· = p + 1) H0 H ∧ hown H (p + 1) = some (W32 (exW w i)) ∧ (∃ s : Nat → AV, fr = [s 0, s 1, .c (.ptr p 0), .c (.ptr (p + 1) 0), s 4, s 5, .c (.int .i64 ((16 + i : Nat) : Int)), s 7, s 8, s 9, s 10, s 11, s 12, s 13, s 14, s 15, s 16, s 17, s 18, s 19, s 20, s 21, s 22, s 23, s 24, s 25, s 26, s 27, s 28, s 29, s 30, s 31, s 32, s 33, s 34, s 35, s 36, s 37, s 38, s 39, s 40, s 41, s 42, s 43, s 44, s 45, s 46, s 47, s 48, s 49, s 50, s 51, s 52, s 53, s 54, s 55, s 56, s 57, s 58, s 59, s 60, s 61, s 62])
theorem AC_spread (y : Cell) (bs : List Nat) (hy : Rd H y 1 (W8 bs)) (hl : bs.length = 64) (hb : ∀ k, bs.getD k 0 < 256) (hws : Wd 16 (tk 4 (3 - ·) bs bs.length)) :
    AC A H.length F_sha_spread [.c y] H (fun v H' => v = .agg (W32 (exW (wide (tk 4 (3 - ·) bs bs.length)) 48))) := by
  refine AC_enter t_sha_spread ?_; simp only [c_sha_spread, enterA, List.replicate, List.length_cons, List.length_nil, Nat.reduceAdd, Nat.reduceSub, List.cons_append, List.nil_append]
  refine GO ?_
  have o2 : hown (H ++ [Blk.own (rep 64 (.int .u32 0))] ++ [Blk.own (rep 64 (.int .u32 0))]) H.length = some (rep 64 (.int .u32 0)) := hown_app hown_last
  have o3 : hown (H ++ [Blk.own (rep 64 (.int .u32 0))] ++ [Blk.own (rep 64 (.int .u32 0))]) (H.length + 1) = some (rep 64 (.int .u32 0)) := by
    have := hown_last (H := H ++ [Blk.own (rep 64 (.int .u32 0))]) (cs := rep 64 (.int .u32 0)); simpa using this
  have hy1 : Rd (H ++ [Blk.own (rep 64 (.int .u32 0))] ++ [Blk.own (rep 64 (.int .u32 0))]) y 1 (W8 bs) := by rw [List.append_assoc]; exact hy.kept (Kept.push _ _ _)
  have l1 : (H ++ [Blk.own (rep 64 (.int .u32 0))] ++ [Blk.own (rep 64 (.int .u32 0))]).length = H.length + 2 := by simp
  generalize H ++ [Blk.own (rep 64 (.int .u32 0))] ++ [Blk.own (rep 64 (.int .u32 0))] = H1 at *
  refine AO_call rfl (((AC_TakeBig32 H1 y bs hy1 (by omega) hb).kept (Nat.le_refl _)).floor (by omega)) ?_
  rintro v H2 ⟨hT, k2⟩
  rcases hT with ⟨h', _⟩ | ⟨_, x, rfl, hx⟩
  · omega
  generalize tk 4 (3 - ·) bs bs.length = ws at *
  have o22 : hown H2 H.length = some (rep 64 (.int .u32 0)) := by rw [k2.hown (by omega) (by omega)]; exact o2
  have o32 : hown H2 (H.length + 1) = some (rep 64 (.int .u32 0)) := by rw [k2.hown (by omega) (by omega)]; exact o3
  have hc3 := hcells_own o32
  have e64 : 0 + 64 * 1 ≤ (rep 64 (Cell.int .u32 0)).length := by rw [rep_len]; omega
  have rx := hx.rd
  obtain ⟨H3, s3, o33, c3, l3⟩ : ∃ H3, copyX 1 H.length H2 (.c (.slc (H.length + 1) 0 16 1)) (.c x) = some (.c (.int .i64 16), H3) ∧ hown H3 (H.length + 1) = some (W32 (wide ws)) ∧ Chg (· = H.length + 1) H2 H3 ∧ H3.length = H2.length := by
    refine ⟨_, copyX_own o32 (by omega) rx (k := 16) (by rw [hws.len]; rfl) (by rw [rep_len]; omega), ?_, Chg.set rfl, by simp⟩
    have ht : (W32 ws).take 16 = W32 ws := List.take_of_length_le (by rw [hws.len]; omega)
    have hd : (rep 64 (Cell.int .u32 0)).drop (0 + 16) = W32 (List.replicate 48 0) := rfl
    rw [hown_set (hown_lt o32), ht, hd, List.take_zero, List.nil_append, PK.wide, W32_app]
  (repeat (first | refine GOS ?_ | (with_reducible (first | apply AO_any | apply AHd_any | apply AP_go | apply AHP_go); focus (simp only [Sm, wantedA, execA, stepA, List.getElem?_cons_zero, List.getElem?_cons_succ, if_true, if_false, binA, binInt, unA, eqA, Option.map, eq_self, reduceCtorEq, ite_true, ite_false, cellsAV, fitsAll, CK.fits, fillA, AV.cells, writeN, sliceCells, appendA, lenA, i64, loA, hiA, Nat.reduceAdd, Nat.reduceMul, Nat.reduceDiv, Nat.reduceSub, Nat.reduceLeDiff, Nat.reduceLT, Int.reduceLE, Int.reduceLT, foldA, maxA, minA, Int.reduceBEq, Int.reduceBNe, Int.reduceGT, Int.reduceGE, Int.reduceEq, Int.reduceNe, Int.reduceToNat, AOp.stops, ↓want_eq, ↓exec_lenX, ↓exec_storeX, ↓exec_storeN, storeN_one, ↓exec_bsX, ↓exec_sliceX, ↓exec_copyX, ↓exec_appNil, ↓exec_carryX, Nat.sub_zero, rep_len, hc3, e64, s3]; with_reducible first | exact EqP.at_ | exact EqP.cont | exact EqP.hcont | exact EqP.gate | exact EqP.hgate))))
  have o23 := c3.hown (by omega : ¬ H.length = H.length + 1) o22
  have hW := hws.wide
  generalize wide ws = w at *
  generalize H.length = p at *
  refine AW_mid (fun e fr H' => e = .normal ∧ sp5I p w H3 48 fr H') ?_ ?_
  · refine AW_block (AW_up (sp5I p w H3) 48 ⟨Chg.refl _ _, o33, stale _ _ rfl⟩ ?_)
    rintro i fr H4 hi ⟨c4, o4, st, rfl⟩
    have hWi := hW.ex i
    have hsucc : exW w (i + 1) = (exW w i).set (16 + i) (nextW (exW w i) (16 + i)) := rfl
    generalize hu : exW w i = u at *
    refine GO ?_
    refine AW_cond rfl ?_ ?_ <;> intro ht
    · have ht : ((16 + i : Nat) : Int) < 64 := of_decide_eq_true ht
      have hi2 : i < 48 := by omega
      have e1 : IntKind.i64.wrap (((16 + i : Nat) : Int) - 15) = ((16 + i - 15 : Nat) : Int) := by rw [i64_of (by omega) (by omega)]; omega
      have e2 : IntKind.i64.wrap (((16 + i : Nat) : Int) - 2) = ((16 + i - 2 : Nat) : Int) := by rw [i64_of (by omega) (by omega)]; omega
      have e3 : IntKind.i64.wrap (((16 + i : Nat) : Int) - 16) = ((16 + i - 16 : Nat) : Int) := by rw [i64_of (by omega) (by omega)]; omega
      have e4 : IntKind.i64.wrap (((16 + i : Nat) : Int) - 7) = ((16 + i - 7 : Nat) : Int) := by rw [i64_of (by omega) (by omega)]; omega
      have b1 : ((16 + i - 15 : Nat) : Int) < 64 := by omega
      have b2 : ((16 + i - 2 : Nat) : Int) < 64 := by omega
      have b3 : ((16 + i - 16 : Nat) : Int) < 64 := by omega
      have b4 : ((16 + i - 7 : Nat) : Int) < 64 := by omega
      have g1 := hWi.get (i := 16 + i - 15) (by omega)
      have g2 := hWi.get (i := 16 + i - 2) (by omega)
      have g3 := hWi.get (i := 16 + i - 16) (by omega)
      have g4 := hWi.get (i := 16 + i - 7) (by omega)
      have w1 := hWi.2 (16 + i - 15)
      have w2 := hWi.2 (16 + i - 2)
      have w3 := hWi.2 (16 + i - 16)
      have w4 := hWi.2 (16 + i - 7)
      have hn : nextW u (16 + i) = ad (ad (ad (u.getD (16 + i - 16) 0) (sg0 (u.getD (16 + i - 15) 0))) (u.getD (16 + i - 7) 0)) (sg1 (u.getD (16 + i - 2) 0)) := rfl
      rw [hn] at hsucc
      generalize 16 + i - 15 = j1 at *
      generalize 16 + i - 2 = j2 at *
      generalize 16 + i - 16 = j3 at *
      generalize 16 + i - 7 = j4 at *
      generalize u.getD j1 0 = v1 at *
      generalize u.getD j2 0 = v2 at *
      generalize u.getD j3 0 = v3 at *
      generalize u.getD j4 0 = v4 at *
      have hc4 := hcells_own o4
      have l4 := hown_lt o4
      have n3 : ¬ ((3 : Int) < 0) := by omega
      have n10 : ¬ ((10 : Int) < 0) := by omega
      have h8 : shrA .u32 (v1 : Int) 3 = ((v1 / 8 : Nat) : Int) := shr_n (k := .u32) (x := v1) (p := 3) (by decide)
      have h1024 : shrA .u32 (v2 : Int) 10 = ((v2 / 1024 : Nat) : Int) := shr_n (k := .u32) (x := v2) (p := 10) (by decide)
      have s0 := sg0_lt w1
      have s1 := sg1_lt w2
      have r7 := rt_lt (n := 7) (by omega) w1
      have r18 := rt_lt (n := 18) (by omega) w1
      have r17 := rt_lt (n := 17) (by omega) w2
      have r19 := rt_lt (n := 19) (by omega) w2
      have x1 := xo32 r7 r18
      have x2 : bitsA .xor .u32 ((rt 7 v1 ^^^ rt 18 v1 : Nat) : Int) ((v1 / 8 : Nat) : Int) = ((sg0 v1 : Nat) : Int) := xo32 (xo_lt r7 r18) (by omega)
      have x3 := xo32 r17 r19
      have x4 : bitsA .xor .u32 ((rt 17 v2 ^^^ rt 19 v2 : Nat) : Int) ((v2 / 1024 : Nat) : Int) = ((sg1 v2 : Nat) : Int) := xo32 (xo_lt r17 r19) (by omega)
      (repeat (first | refine GOS ?_ | (with_reducible (first | apply AO_any | apply AHd_any | apply AP_go | apply AHP_go); focus (simp only [Sm, wantedA, execA, stepA, List.getElem?_cons_zero, List.getElem?_cons_succ, if_true, if_false, binA, binInt, unA, eqA, Option.map, eq_self, reduceCtorEq, ite_true, ite_false, cellsAV, fitsAll, CK.fits, fillA, AV.cells, writeN, sliceCells, appendA, lenA, i64, loA, hiA, Nat.reduceAdd, Nat.reduceMul, Nat.reduceDiv, Nat.reduceSub, Nat.reduceLeDiff, Nat.reduceLT, Int.reduceLE, Int.reduceLT, foldA, maxA, minA, Int.reduceBEq, Int.reduceBNe, Int.reduceGT, Int.reduceGE, Int.reduceEq, Int.reduceNe, Int.reduceToNat, AOp.stops, ↓want_eq, ↓exec_lenX, ↓exec_storeX, ↓exec_storeN, storeN_one, ↓exec_bsX, ↓exec_sliceX, ↓exec_copyX, ↓exec_appNil, ↓exec_carryX, Nat.sub_zero, rep_len, hc4, e1, e2, b1, b2, g1, g2, Nat.zero_add]; with_reducible first | exact EqP.at_ | exact EqP.cont | exact EqP.hcont | exact EqP.gate | exact EqP.hgate))))
      refine AO_call rfl ((AC_R32 H4 7 v1 (by omega) w1).floor (by omega)) ?_
      rintro _ _ ⟨rfl, rfl⟩
      refine GO ?_
      refine AO_call rfl ((AC_R32 H4 18 v1 (by omega) w1).floor (by omega)) ?_
      rintro _ _ ⟨rfl, rfl⟩
      (repeat (first | refine GOS ?_ | (with_reducible (first | apply AO_any | apply AHd_any | apply AP_go | apply AHP_go); focus (simp only [Sm, wantedA, execA, stepA, List.getElem?_cons_zero, List.getElem?_cons_succ, if_true, if_false, binA, binInt, unA, eqA, Option.map, eq_self, reduceCtorEq, ite_true, ite_false, cellsAV, fitsAll, CK.fits, fillA, AV.cells, writeN, sliceCells, appendA, lenA, i64, loA, hiA, Nat.reduceAdd, Nat.reduceMul, Nat.reduceDiv, Nat.reduceSub, Nat.reduceLeDiff, Nat.reduceLT, Int.reduceLE, Int.reduceLT, foldA, maxA, minA, Int.reduceBEq, Int.reduceBNe, Int.reduceGT, Int.reduceGE, Int.reduceEq, Int.reduceNe, Int.reduceToNat, AOp.stops, ↓want_eq, ↓exec_lenX, ↓exec_storeX, ↓exec_storeN, storeN_one, ↓exec_bsX, ↓exec_sliceX, ↓exec_copyX, ↓exec_appNil, ↓exec_carryX, Nat.sub_zero, rep_len, x1, h8, n3, x2]; with_reducible first | exact EqP.at_ | exact EqP.cont | exact EqP.hcont | exact EqP.gate | exact EqP.hgate))))
      refine AO_call rfl ((AC_R32 H4 17 v2 (by omega) w2).floor (by omega)) ?_
      rintro _ _ ⟨rfl, rfl⟩
      refine GO ?_
      refine AO_call rfl ((AC_R32 H4 19 v2 (by omega) w2).floor (by omega)) ?_
      rintro _ _ ⟨rfl, rfl⟩
      have bi : 16 + i < 64 := by omega
      have esc : IntKind.i64.wrap (((16 + i : Nat) : Int) + 1) = ((16 + (i + 1) : Nat) : Int) := by rw [i64_of (by omega) (by omega)]; omega
      (repeat (first | refine GOS ?_ | (with_reducible (first | apply AO_any | apply AHd_any | apply AP_go | apply AHP_go); focus (simp only [Sm, wantedA, execA, stepA, List.getElem?_cons_zero, List.getElem?_cons_succ, if_true, if_false, binA, binInt, unA, eqA, Option.map, eq_self, reduceCtorEq, ite_true, ite_false, cellsAV, fitsAll, CK.fits, fillA, AV.cells, writeN, sliceCells, appendA, lenA, i64, loA, hiA, Nat.reduceAdd, Nat.reduceMul, Nat.reduceDiv, Nat.reduceSub, Nat.reduceLeDiff, Nat.reduceLT, Int.reduceLE, Int.reduceLT, foldA, maxA, minA, Int.reduceBEq, Int.reduceBNe, Int.reduceGT, Int.reduceGE, Int.reduceEq, Int.reduceNe, Int.reduceToNat, AOp.stops, ↓want_eq, ↓exec_lenX, ↓exec_storeX, ↓exec_storeN, storeN_one, ↓exec_bsX, ↓exec_sliceX, ↓exec_copyX, ↓exec_appNil, ↓exec_carryX, Nat.sub_zero, rep_len, x3, h1024, n10, x4, hc4, e3, e4, b3, b4, g3, g4, Nat.zero_add, wrap_ad, ht, storeX_own o4 (by omega : p ≤ p + 1) (by rw [hWi.len]; exact bi : 16 + i < _), esc]; with_reducible first | exact EqP.at_ | exact EqP.cont | exact EqP.hcont | exact EqP.gate | exact EqP.hgate))))
      refine ⟨hi2, c4.trans (Chg.set (S := (· = p + 1)) rfl) fun _ _ h => h, ?_, stale _ _ rfl⟩
      rw [hown_set (hown_lt o4), W32_put, hsucc]
    · obtain rfl : i = 48 := by have : ¬ ((16 + i : Nat) : Int) < 64 := of_decide_eq_false ht; omega
      subst hu
      exact AW_exit ⟨rfl, c4, o4, stale _ _ rfl⟩
  rintro e fr H4 ⟨rfl, c4, o4, st, rfl⟩
  have o24 := c4.hown (by omega : ¬ p = p + 1) o23
  have hWe := hW.ex 48
  generalize exW w 48 = e at *
  have r4 : readN H4 (p + 1) 0 64 = some (W32 e) := by have := readN_all (hcells_own o4); rw [hWe.len] at this; exact this
  obtain ⟨H5, s5, o5, c5, l5⟩ := storeN_ex (n := 64) o24 (Nat.le_refl p) rep_len (W32 e) hWe.len
  have r5 : readN H5 p 0 64 = some (W32 e) := by have := readN_all (hcells_own o5); rw [hWe.len] at this; exact this
  (repeat (first | refine GOS ?_ | (with_reducible (first | apply AO_any | apply AHd_any | apply AP_go | apply AHP_go); focus (simp only [Sm, wantedA, execA, stepA, List.getElem?_cons_zero, List.getElem?_cons_succ, if_true, if_false, binA, binInt, unA, eqA, Option.map, eq_self, reduceCtorEq, ite_true, ite_false, cellsAV, fitsAll, CK.fits, fillA, AV.cells, writeN, sliceCells, appendA, lenA, i64, loA, hiA, Nat.reduceAdd, Nat.reduceMul, Nat.reduceDiv, Nat.reduceSub, Nat.reduceLeDiff, Nat.reduceLT, Int.reduceLE, Int.reduceLT, foldA, maxA, minA, Int.reduceBEq, Int.reduceBNe, Int.reduceGT, Int.reduceGE, Int.reduceEq, Int.reduceNe, Int.reduceToNat, AOp.stops, ↓want_eq, ↓exec_lenX, ↓exec_storeX, ↓exec_storeN, storeN_one, ↓exec_bsX, ↓exec_sliceX, ↓exec_copyX, ↓exec_appNil, ↓exec_carryX, Nat.sub_zero, rep_len, ↓r4, s5]; with_reducible first | exact EqP.at_ | exact EqP.cont | exact EqP.hcont | exact EqP.gate | exact EqP.hgate))))
  exact AW_ret ⟨_, by simp only [outA, resA, ressA, AV.tv, Option.map_some, Sm, wantedA, execA, stepA, List.getElem?_cons_zero, List.getElem?_cons_succ, if_true, if_false, binA, binInt, unA, eqA, Option.map, eq_self, reduceCtorEq, ite_true, ite_false, cellsAV, fitsAll, CK.fits, fillA, AV.cells, writeN, sliceCells, appendA, lenA, i64, loA, hiA, Nat.reduceAdd, Nat.reduceMul, Nat.reduceDiv, Nat.reduceSub, Nat.reduceLeDiff, Nat.reduceLT, Int.reduceLE, Int.reduceLT, foldA, maxA, minA, r5] <;> with_reducible rfl, rfl⟩
end
end PK

/- SHA-256: the rounds, plain; Compress, walked. -/
namespace PK
open Go PAbs
set_option linter.unusedSimpArgs false
set_option linter.unusedVariables false
set_option maxRecDepth 100000
set_option maxHeartbeats 4000000

theorem getD_lt_of {l : List Nat} {M : Nat} (h0 : 0 < M) (h : ∀ x ∈ l, x < M) (k : Nat) : l.getD k 0 < M := by
  rw [List.getD_eq_getElem?_getD]
  rcases he : l[k]? with _ | x
  · exact h0
  · exact h x (List.mem_of_getElem? he)
theorem Wd_of {n : Nat} {l : List Nat} (hl : l.length = n) (h : ∀ x ∈ l, x < 4294967296) : Wd n l := ⟨hl, getD_lt_of (by decide) h⟩
def Ks : List Nat := [1116352408, 1899447441, 3049323471, 3921009573, 961987163, 1508970993, 2453635748, 2870763221, 3624381080, 310598401, 607225278, 1426881987, 1925078388, 2162078206, 2614888103, 3248222580, 3835390401, 4022224774, 264347078, 604807628, 770255983, 1249150122, 1555081692, 1996064986, 2554220882, 2821834349, 2952996808, 3210313671, 3336571891, 3584528711, 113926993, 338241895, 666307205, 773529912, 1294757372, 1396182291, 1695183700, 1986661051, 2177026350, 2456956037, 2730485921, 2820302411, 3259730800, 3345764771, 3516065817, 3600352804, 4094571909, 275423344, 430227734, 506948616, 659060556, 883997877, 958139571, 1322822218, 1537002063, 1747873779, 1955562222, 2024104815, 2227730452, 2361852424, 2428436474, 2756734187, 3204031479, 3329325298]
def Is : List Nat := [1779033703, 3144134277, 1013904242, 2773480762, 1359893119, 2600822924, 528734635, 1541459225]
theorem Ks_wd : Wd 64 Ks := Wd_of rfl (by decide)
theorem Is_wd : Wd 8 Is := Wd_of rfl (by decide)

section
variable (H : AHeap)
theorem AC_constants : AC A H.length F_sha_constants [] H (fun v H' => v = .agg (W32 Ks)) := by
  refine AC_enter t_sha_constants ?_; simp only [c_sha_constants, enterA, List.replicate, List.length_cons, List.length_nil, Nat.reduceAdd, Nat.reduceSub, List.cons_append, List.nil_append]
  have o2 : hown (H ++ [Blk.own (rep 64 (.int .u32 0))]) H.length = some (rep 64 (.int .u32 0)) := hown_last
  obtain ⟨H5, s5, o5, c5, l5⟩ := storeN_ex (n := 64) o2 (Nat.le_refl _) rep_len (W32 Ks) rfl
  have r5 : readN H5 H.length 0 64 = some (W32 Ks) := readN_all (hcells_own o5)
  have s5' := s5
  simp only [W32, Ks, List.map_cons, List.map_nil, rep, List.replicate, Int.cast_ofNat_Int] at s5'
  (repeat (first | refine GOS ?_ | (with_reducible (first | apply AO_any | apply AHd_any | apply AP_go | apply AHP_go); focus (simp only [Sm, wantedA, execA, stepA, List.getElem?_cons_zero, List.getElem?_cons_succ, if_true, if_false, binA, binInt, unA, eqA, Option.map, eq_self, reduceCtorEq, ite_true, ite_false, cellsAV, fitsAll, CK.fits, fillA, AV.cells, writeN, sliceCells, appendA, lenA, i64, loA, hiA, Nat.reduceAdd, Nat.reduceMul, Nat.reduceDiv, Nat.reduceSub, Nat.reduceLeDiff, Nat.reduceLT, Int.reduceLE, Int.reduceLT, foldA, maxA, minA, Int.reduceBEq, Int.reduceBNe, Int.reduceGT, Int.reduceGE, Int.reduceEq, Int.reduceNe, Int.reduceToNat, AOp.stops, ↓want_eq, ↓exec_lenX, ↓exec_storeX, ↓exec_storeN, storeN_one, ↓exec_bsX, ↓exec_sliceX, ↓exec_copyX, ↓exec_appNil, ↓exec_carryX, Nat.sub_zero, rep_len, rep, List.replicate, s5']; with_reducible first | exact EqP.at_ | exact EqP.cont | exact EqP.hcont | exact EqP.gate | exact EqP.hgate))))
  exact AW_ret ⟨_, by simp only [outA, resA, ressA, AV.tv, Option.map_some, Sm, wantedA, execA, stepA, List.getElem?_cons_zero, List.getElem?_cons_succ, if_true, if_false, binA, binInt, unA, eqA, Option.map, eq_self, reduceCtorEq, ite_true, ite_false, cellsAV, fitsAll, CK.fits, fillA, AV.cells, writeN, sliceCells, appendA, lenA, i64, loA, hiA, Nat.reduceAdd, Nat.reduceMul, Nat.reduceDiv, Nat.reduceSub, Nat.reduceLeDiff, Nat.reduceLT, Int.reduceLE, Int.reduceLT, foldA, maxA, minA, r5] <;> with_reducible rfl, rfl⟩
theorem AC_Initial : AC A H.length F_sha_Initial [] H (fun v H' => v = .agg (W32 Is)) := by
  refine AC_enter t_sha_Initial ?_; simp only [c_sha_Initial, enterA, List.replicate, List.length_cons, List.length_nil, Nat.reduceAdd, Nat.reduceSub, List.cons_append, List.nil_append]
  have o2 : hown (H ++ [Blk.own (rep 8 (.int .u32 0))]) H.length = some (rep 8 (.int .u32 0)) := hown_last
  obtain ⟨H5, s5, o5, c5, l5⟩ := storeN_ex (n := 8) o2 (Nat.le_refl _) rep_len (W32 Is) rfl
  have r5 : readN H5 H.length 0 8 = some (W32 Is) := readN_all (hcells_own o5)
  have s5' := s5
  simp only [W32, Is, List.map_cons, List.map_nil, rep, List.replicate, Int.cast_ofNat_Int] at s5'
  (repeat (first | refine GOS ?_ | (with_reducible (first | apply AO_any | apply AHd_any | apply AP_go | apply AHP_go); focus (simp only [Sm, wantedA, execA, stepA, List.getElem?_cons_zero, List.getElem?_cons_succ, if_true, if_false, binA, binInt, unA, eqA, Option.map, eq_self, reduceCtorEq, ite_true, ite_false, cellsAV, fitsAll, CK.fits, fillA, AV.cells, writeN, sliceCells, appendA, lenA, i64, loA, hiA, Nat.reduceAdd, Nat.reduceMul, Nat.reduceDiv, Nat.reduceSub, Nat.reduceLeDiff, Nat.reduceLT, Int.reduceLE, Int.reduceLT, foldA, maxA, minA, Int.reduceBEq, Int.reduceBNe, Int.reduceGT, Int.reduceGE, Int.reduceEq, Int.reduceNe, Int.reduceToNat, AOp.stops, ↓want_eq, ↓exec_lenX, ↓exec_storeX, ↓exec_storeN, storeN_one, ↓exec_bsX, ↓exec_sliceX, ↓exec_copyX, ↓exec_appNil, ↓exec_carryX, Nat.sub_zero, rep_len, rep, List.replicate, s5']; with_reducible first | exact EqP.at_ | exact EqP.cont | exact EqP.hcont | exact EqP.gate | exact EqP.hgate))))
  exact AW_ret ⟨_, by simp only [outA, resA, ressA, AV.tv, Option.map_some, Sm, wantedA, execA, stepA, List.getElem?_cons_zero, List.getElem?_cons_succ, if_true, if_false, binA, binInt, unA, eqA, Option.map, eq_self, reduceCtorEq, ite_true, ite_false, cellsAV, fitsAll, CK.fits, fillA, AV.cells, writeN, sliceCells, appendA, lenA, i64, loA, hiA, Nat.reduceAdd, Nat.reduceMul, Nat.reduceDiv, Nat.reduceSub, Nat.reduceLeDiff, Nat.reduceLT, Int.reduceLE, Int.reduceLT, foldA, maxA, minA, r5] <;> with_reducible rfl, rfl⟩
end

/-! a round -/
def sB1 (e : Nat) : Nat := rt 6 e ^^^ rt 11 e ^^^ rt 25 e
def sB0 (a : Nat) : Nat := rt 2 a ^^^ rt 13 a ^^^ rt 22 a
def chO (e f g : Nat) : Nat := (e &&& f) ^^^ ((4294967295 - e) &&& g)
def mjO (a b c : Nat) : Nat := (a &&& b) ^^^ (a &&& c) ^^^ (b &&& c)
def t1O (k w : Nat) (e f g h : Nat) : Nat := ad (ad (ad (ad h (sB1 e)) (chO e f g)) k) w
def t2O (a b c : Nat) : Nat := ad (sB0 a) (mjO a b c)
def rndO (k w : Nat) : List Nat → List Nat
  | [a, b, c, d, e, f, g, h] => [ad (t1O k w e f g h) (t2O a b c), a, b, c, ad d (t1O k w e f g h), e, f, g]
  | l => l
def rnds (ks ws s : List Nat) : Nat → List Nat
  | 0 => s
  | i + 1 => rndO (ks.getD i 0) (ws.getD i 0) (rnds ks ws s i)
def addW (s t : List Nat) : List Nat := List.zipWith ad s t
def compO (s bs : List Nat) : List Nat := addW s (rnds Ks (exW (wide (tk 4 (3 - ·) bs bs.length)) 48) s 64)
theorem Wd8 {s : List Nat} (h : Wd 8 s) : ∃ a b c d e f g i, s = [a, b, c, d, e, f, g, i] ∧ a < 4294967296 ∧ b < 4294967296 ∧ c < 4294967296 ∧ d < 4294967296 ∧ e < 4294967296 ∧ f < 4294967296 ∧ g < 4294967296 ∧ i < 4294967296 := by
  obtain ⟨hl, hk⟩ := h
  match s, hl with
  | [a, b, c, d, e, f, g, i], _ => exact ⟨a, b, c, d, e, f, g, i, rfl, hk 0, hk 1, hk 2, hk 3, hk 4, hk 5, hk 6, hk 7⟩
theorem Wd8_mk {a b c d e f g i : Nat} (h0 : a < 4294967296) (h1 : b < 4294967296) (h2 : c < 4294967296) (h3 : d < 4294967296) (h4 : e < 4294967296) (h5 : f < 4294967296) (h6 : g < 4294967296) (h7 : i < 4294967296) : Wd 8 [a, b, c, d, e, f, g, i] := by
  refine Wd_of rfl fun x hx => ?_
  simp only [List.mem_cons, List.not_mem_nil, or_false] at hx
  rcases hx with rfl | rfl | rfl | rfl | rfl | rfl | rfl | rfl <;> assumption
theorem rnd_wd {k w : Nat} {s : List Nat} (h : Wd 8 s) : Wd 8 (rndO k w s) := by
  obtain ⟨a, b, c, d, e, f, g, i, rfl, h0, h1, h2, h3, h4, h5, h6, h7⟩ := Wd8 h
  exact Wd8_mk (ad_lt _ _) h0 h1 h2 (ad_lt _ _) h4 h5 h6
theorem rnds_wd {ks ws s : List Nat} (h : Wd 8 s) : ∀ i, Wd 8 (rnds ks ws s i)
  | 0 => h
  | i + 1 => rnd_wd (rnds_wd h i)
theorem addW_wd {s t : List Nat} (hs : Wd 8 s) (ht : Wd 8 t) : Wd 8 (addW s t) := by
  obtain ⟨a, b, c, d, e, f, g, i, rfl, h0, h1, h2, h3, h4, h5, h6, h7⟩ := Wd8 hs
  obtain ⟨a', b', c', d', e', f', g', i', rfl, h0', h1', h2', h3', h4', h5', h6', h7'⟩ := Wd8 ht
  exact Wd8_mk (ad_lt _ _) (ad_lt _ _) (ad_lt _ _) (ad_lt _ _) (ad_lt _ _) (ad_lt _ _) (ad_lt _ _) (ad_lt _ _)
theorem compO_wd {s bs : List Nat} (h : Wd 8 s) : Wd 8 (compO s bs) := addW_wd h (rnds_wd h _)
end PK

/- SHA-256: Compress, walked. -/
namespace PK
open Go PAbs
set_option linter.unusedSimpArgs false
set_option linter.unusedVariables false
set_option maxRecDepth 100000
set_option maxHeartbeats 4000000


def scI (p2 p4 p6 p7 : Nat) (ks ws s : List Nat) (H0 : AHeap) (i : Nat) (fr : AFrame) (H : AHeap) : Prop := H = H0 ∧ ∃ a b c d e f g h : Nat, rnds ks ws s i = [a, b, c, d, e, f, g, h] ∧ (∃ s : Nat → AV, fr = [s 0, s 1, .c (.ptr p2 0), s 3, .c (.ptr p4 0), s 5, .c (.ptr p6 0), .c (.ptr p7 0), .c (.int .u32 (a : Int)), .c (.int .u32 (b : Int)), .c (.int .u32 (c : Int)), .c (.int .u32 (d : Int)), .c (.int .u32 (e : Int)), .c (.int .u32 (f : Int)), .c (.int .u32 (g : Int)), .c (.int .u32 (h : Int)), s 16, s 17, s 18, s 19, s 20, s 21, s 22, s 23, s 24, s 25, s 26, s 27, s 28, s 29, s 30, s 31, s 32, s 33, s 34, s 35, s 36, s 37, s 38, s 39, s 40, s 41, s 42, s 43, s 44, s 45, .c (.int .i64 (i : Int)), s 47, s 48, s 49, s 50, s 51, s 52, s 53, s 54, s 55, s 56, s 57, s 58, s 59, s 60, s 61, s 62, s 63, s 64, s 65, s 66, s 67, s 68, s 69, s 70, s 71, s 72, s 73, s 74, s 75, s 76, s 77, s 78, s 79, s 80, s 81, s 82, s 83, s 84, s 85, s 86, s 87, s 88, s 89, s 90, s 91, s 92, s 93, s 94, s 95, s 96, s 97, s 98, s 99, s 100, s 101, s 102, s 103, s 104, s 105, s 106, s 107, s 108, s 109, s 110, s 111, s 112, s 113, s 114, s 115, s 116, s 117, s 118, s 119, s 120, s 121, s 122, s 123, s 124, s 125, s 126, s 127, s 128, s 129, s 130, s 131])

def addTo (s us : List Nat) : Nat → List Nat
  | 0 => s
  | i + 1 => (addTo s us i).set i (ad ((addTo s us i).getD i 0) (us.getD i 0))
theorem addTo_all {s us : List Nat} (hs : Wd 8 s) (hu : Wd 8 us) : addTo s us 8 = addW s us := by
  obtain ⟨a, b, c, d, e, f, g, i, rfl, _⟩ := Wd8 hs
  obtain ⟨a', b', c', d', e', f', g', i', rfl, _⟩ := Wd8 hu
  rfl
theorem addTo_wd {s us : List Nat} (hs : Wd 8 s) : ∀ i, Wd 8 (addTo s us i)
  | 0 => hs
  | i + 1 => (addTo_wd hs i).set (ad_lt _ _)
def sdI (p2 p4 : Nat) (s us : List Nat) (H0 : AHeap) (i : Nat) (fr : AFrame) (H : AHeap) : Prop := Chg (· = p2) H0 H ∧ hown H p2 = some (W32 (addTo s us i)) ∧ (∃ s : Nat → AV, fr = [s 0, s 1, .c (.ptr p2 0), s 3, .c (.ptr p4 0), s 5, s 6, s 7, s 8, s 9, s 10, s 11, s 12, s 13, s 14, s 15, s 16, s 17, s 18, s 19, s 20, s 21, s 22, s 23, s 24, s 25, s 26, s 27, s 28, s 29, s 30, s 31, s 32, s 33, s 34, s 35, s 36, s 37, s 38, s 39, s 40, s 41, s 42, s 43, s 44, s 45, s 46, s 47, s 48, s 49, s 50, s 51, s 52, s 53, s 54, s 55, s 56, s 57, s 58, s 59, s 60, s 61, s 62, s 63, s 64, s 65, s 66, s 67, s 68, s 69, s 70, s 71, s 72, s 73, s 74, s 75, s 76, s 77, s 78, s 79, s 80, s 81, s 82, s 83, s 84, s 85, s 86, s 87, s 88, s 89, s 90, s 91, s 92, s 93, s 94, s 95, s 96, s 97, s 98, s 99, s 100, s 101, s 102, s 103, s 104, s 105, s 106, s 107, s 108, s 109, s 110, s 111, s 112, s 113, s 114, s 115, s 116, s 117, s 118, .agg (W32 us), .c (.int .i64 (i : Int)), s 121, s 122, s 123, s 124, s 125, s 126, s 127, s 128, s 129, s 130, s 131])
theorem W32_of8 {a b c d e f g h : Nat} : [Cell.int .u32 (a : Int), .int .u32 (b : Int), .int .u32 (c : Int), .int .u32 (d : Int), .int .u32 (e : Int), .int .u32 (f : Int), .int .u32 (g : Int), .int .u32 (h : Int)] = W32 [a, b, c, d, e, f, g, h] := rfl

theorem AC_Compress (H : AHeap) (y : Cell) (s bs : List Nat) (hs : Wd 8 s) (hy : Rd H y 1 (W8 bs)) (hl : bs.length = 64) (hb : ∀ k, bs.getD k 0 < 256) (hws : Wd 16 (tk 4 (3 - ·) bs bs.length)) :
    AC A H.length F_sha_Compress [.agg (W32 s), .c y] H (fun v H' => v = .tup [.agg (W32 (addW s (rnds Ks (exW (wide (tk 4 (3 - ·) bs bs.length)) 48) s 64))), .c (.int .i64 0)]) := by
  have yl : (W8 bs).length = bs.length := W8_length
  have e : (((bs.length : Nat) : Int) != 64) = false := by rw [hl]; rfl
  refine AC_enter t_sha_Compress ?_; simp only [c_sha_Compress, enterA, List.replicate, List.length_cons, List.length_nil, Nat.reduceAdd, Nat.reduceSub, List.cons_append, List.nil_append]
  refine GO ?_
  have o2 : hown (H ++ [Blk.own (W32 s)] ++ [Blk.own (rep 8 (.int .u32 0))]) H.length = some (W32 s) := hown_app hown_last
  have o4 : hown (H ++ [Blk.own (W32 s)] ++ [Blk.own (rep 8 (.int .u32 0))]) (H.length + 1) = some (rep 8 (.int .u32 0)) := by
    have := hown_last (H := H ++ [Blk.own (W32 s)]) (cs := rep 8 (.int .u32 0)); simpa using this
  have hy1 : Rd (H ++ [Blk.own (W32 s)] ++ [Blk.own (rep 8 (.int .u32 0))]) y 1 (W8 bs) := by rw [List.append_assoc]; exact hy.kept (Kept.push _ _ _)
  have l1 : (H ++ [Blk.own (W32 s)] ++ [Blk.own (rep 8 (.int .u32 0))]).length = H.length + 2 := by simp
  have ly := hy1.len bs.length (by rw [yl, Nat.mul_one]) (by decide)
  generalize H ++ [Blk.own (W32 s)] ++ [Blk.own (rep 8 (.int .u32 0))] = H1 at *
  (repeat (first | refine GOS ?_ | (with_reducible (first | apply AO_any | apply AHd_any | apply AP_go | apply AHP_go); focus (simp only [Sm, wantedA, execA, stepA, List.getElem?_cons_zero, List.getElem?_cons_succ, if_true, if_false, binA, binInt, unA, eqA, Option.map, eq_self, reduceCtorEq, ite_true, ite_false, cellsAV, fitsAll, CK.fits, fillA, AV.cells, writeN, sliceCells, appendA, lenA, i64, loA, hiA, Nat.reduceAdd, Nat.reduceMul, Nat.reduceDiv, Nat.reduceSub, Nat.reduceLeDiff, Nat.reduceLT, Int.reduceLE, Int.reduceLT, foldA, maxA, minA, Int.reduceBEq, Int.reduceBNe, Int.reduceGT, Int.reduceGE, Int.reduceEq, Int.reduceNe, Int.reduceToNat, AOp.stops, ↓want_eq, ↓exec_lenX, ↓exec_storeX, ↓exec_storeN, storeN_one, ↓exec_bsX, ↓exec_sliceX, ↓exec_copyX, ↓exec_appNil, ↓exec_carryX, Nat.sub_zero, rep_len, ly, e]; with_reducible first | exact EqP.at_ | exact EqP.cont | exact EqP.hcont | exact EqP.gate | exact EqP.hgate))))
  refine AO_call rfl (((AC_spread H1 y bs hy1 hl hb hws).kept (Nat.le_refl _)).floor (by omega)) ?_
  rintro _ H2 ⟨rfl, k2⟩
  refine AO_call rfl (((AC_constants H2).kept (Nat.le_refl _)).floor (by have := k2.1; omega)) ?_
  rintro _ H3 ⟨rfl, k3⟩
  have hWe := hws.wide.ex 48
  generalize exW (wide (tk 4 (3 - ·) bs bs.length)) 48 = ws at *
  have hK := Ks_wd
  generalize Ks = ks at *
  have o23 : hown H3 H.length = some (W32 s) := by rw [k3.hown (by have := k2.1; omega) (by have := k2.1; omega), k2.hown (by omega) (by omega)]; exact o2
  have o43 : hown H3 (H.length + 1) = some (rep 8 (.int .u32 0)) := by rw [k3.hown (by have := k2.1; omega) (by have := k2.1; omega), k2.hown (by omega) (by omega)]; exact o4
  have l3 : H.length + 2 ≤ H3.length := by have := k2.1; have := k3.1; omega
  obtain ⟨H4, hH4, q2, q4, q6, q7, l4⟩ : ∃ H4, H4 = H3 ++ [Blk.own (rep 64 (.int .u32 0))] ++ [Blk.own (rep 64 (.int .u32 0))] ∧ hown H4 H.length = some (W32 s) ∧ hown H4 (H.length + 1) = some (rep 8 (.int .u32 0)) ∧ hown H4 H3.length = some (rep 64 (.int .u32 0)) ∧ hown H4 (H3.length + 1) = some (rep 64 (.int .u32 0)) ∧ H4.length = H3.length + 2 := by
    refine ⟨_, rfl, hown_app (hown_app o23), hown_app (hown_app o43), hown_app hown_last, ?_, by simp⟩
    have := hown_last (H := H3 ++ [Blk.own (rep 64 (.int .u32 0))]) (cs := rep 64 (.int .u32 0)); simpa using this
  obtain ⟨H5, s5, u6, c5, l5⟩ := storeN_ex (n := 64) q6 (by omega : H.length ≤ H3.length) rep_len (W32 ws) hWe.len
  have u7 := c5.hown (by omega : ¬ H3.length + 1 = H3.length) q7
  obtain ⟨H6, s6, v7, c6, l6⟩ := storeN_ex (n := 64) u7 (by omega : H.length ≤ H3.length + 1) rep_len (W32 ks) hK.len
  have v6 := c6.hown (by omega : ¬ H3.length = H3.length + 1) u6
  have v2 := c6.hown (by omega : ¬ H.length = H3.length + 1) (c5.hown (by omega : ¬ H.length = H3.length) q2)
  have v4 := c6.hown (by omega : ¬ H.length + 1 = H3.length + 1) (c5.hown (by omega : ¬ H.length + 1 = H3.length) q4)
  obtain ⟨a, b, c, d, e, f, g, h, hse, b0, b1, b2, b3, b4, b5, b6, b7⟩ := Wd8 hs
  have g0 : (W32 s)[0]? = some (.int .u32 (a : Int)) := by rw [hse]; rfl
  have g1 : (W32 s)[1]? = some (.int .u32 (b : Int)) := by rw [hse]; rfl
  have g2 : (W32 s)[2]? = some (.int .u32 (c : Int)) := by rw [hse]; rfl
  have g3 : (W32 s)[3]? = some (.int .u32 (d : Int)) := by rw [hse]; rfl
  have g4 : (W32 s)[4]? = some (.int .u32 (e : Int)) := by rw [hse]; rfl
  have g5 : (W32 s)[5]? = some (.int .u32 (f : Int)) := by rw [hse]; rfl
  have g6 : (W32 s)[6]? = some (.int .u32 (g : Int)) := by rw [hse]; rfl
  have g7 : (W32 s)[7]? = some (.int .u32 (h : Int)) := by rw [hse]; rfl
  have hc2 := hcells_own v2
  have hc6 := hcells_own v6
  have hc7 := hcells_own v7
  (repeat (first | refine GOS ?_ | (with_reducible (first | apply AO_any | apply AHd_any | apply AP_go | apply AHP_go); focus (simp only [Sm, wantedA, execA, stepA, List.getElem?_cons_zero, List.getElem?_cons_succ, if_true, if_false, binA, binInt, unA, eqA, Option.map, eq_self, reduceCtorEq, ite_true, ite_false, cellsAV, fitsAll, CK.fits, fillA, AV.cells, writeN, sliceCells, appendA, lenA, i64, loA, hiA, Nat.reduceAdd, Nat.reduceMul, Nat.reduceDiv, Nat.reduceSub, Nat.reduceLeDiff, Nat.reduceLT, Int.reduceLE, Int.reduceLT, foldA, maxA, minA, Int.reduceBEq, Int.reduceBNe, Int.reduceGT, Int.reduceGE, Int.reduceEq, Int.reduceNe, Int.reduceToNat, AOp.stops, ↓want_eq, ↓exec_lenX, ↓exec_storeX, ↓exec_storeN, storeN_one, ↓exec_bsX, ↓exec_sliceX, ↓exec_copyX, ↓exec_appNil, ↓exec_carryX, Nat.sub_zero, rep_len, s5, s6, hc2, g0, g1, g2, g3, g4, g5, g6, g7, ← hH4]; with_reducible first | exact EqP.at_ | exact EqP.cont | exact EqP.hcont | exact EqP.gate | exact EqP.hgate))))
  refine AW_mid (fun x fr H' => x = .normal ∧ scI H.length (H.length + 1) H3.length (H3.length + 1) ks ws s H6 64 fr H') ?_ ?_
  · refine AW_block (AW_up (scI H.length (H.length + 1) H3.length (H3.length + 1) ks ws s H6) 64 ⟨rfl, a, b, c, d, e, f, g, h, hse, stale _ _ rfl⟩ ?_)
    clear hse b0 b1 b2 b3 b4 b5 b6 b7 g0 g1 g2 g3 g4 g5 g6 g7
    rintro i fr H7 hi ⟨rfl, a, b, c, d, e, f, g, h, hse, st, rfl⟩
    obtain ⟨_, _, _, _, _, _, _, _, h', b0, b1, b2, b3, b4, b5, b6, b7⟩ := Wd8 (rnds_wd (ks := ks) (ws := ws) hs i)
    rw [hse] at h'; simp only [List.cons.injEq, and_true] at h'; obtain ⟨rfl, rfl, rfl, rfl, rfl, rfl, rfl, rfl⟩ := h'
    have hsucc : rnds ks ws s (i + 1) = rndO (ks.getD i 0) (ws.getD i 0) (rnds ks ws s i) := rfl
    rw [hse] at hsucc
    refine GO ?_
    refine AW_cond rfl ?_ ?_ <;> intro ht
    · have ht : (i : Int) < 64 := of_decide_eq_true ht
      have hi2 : i < 64 := by omega
      have gk := hK.get (i := i) hi2
      have gw := hWe.get (i := i) hi2
      have kk := hK.2 i
      have kw := hWe.2 i
      generalize ks.getD i 0 = kc at *
      generalize ws.getD i 0 = wc at *
      have r6 := rt_lt (n := 6) (by omega) b4
      have r11 := rt_lt (n := 11) (by omega) b4
      have r25 := rt_lt (n := 25) (by omega) b4
      have r2 := rt_lt (n := 2) (by omega) b0
      have r13 := rt_lt (n := 13) (by omega) b0
      have r22 := rt_lt (n := 22) (by omega) b0
      have x1 := xo32 r6 r11
      have x2 : bitsA .xor .u32 ((rt 6 e ^^^ rt 11 e : Nat) : Int) ((rt 25 e : Nat) : Int) = ((sB1 e : Nat) : Int) := xo32 (xo_lt r6 r11) r25
      have x3 := xo32 r2 r13
      have x4 : bitsA .xor .u32 ((rt 2 a ^^^ rt 13 a : Nat) : Int) ((rt 22 a : Nat) : Int) = ((sB0 a : Nat) : Int) := xo32 (xo_lt r2 r13) r22
      have y1 := an32 b4 b5
      have yn := not32 b4
      have nt : (if IntKind.u32.signed = true then (-1 : Int) else IntKind.u32.max) = 4294967295 := by decide
      have y2 := an32 (a := 4294967295 - e) (b := g) (by omega) b6
      have y3 : bitsA .xor .u32 ((e &&& f : Nat) : Int) (((4294967295 - e) &&& g : Nat) : Int) = ((chO e f g : Nat) : Int) := xo32 (an_lt b4) (an_lt (by omega))
      have z1 := an32 b0 b1
      have z2 := an32 b0 b2
      have z3 := an32 b1 b2
      have z4 := xo32 (an_lt (b := b) b0) (an_lt (b := c) b0)
      have z5 : bitsA .xor .u32 (((a &&& b) ^^^ (a &&& c) : Nat) : Int) ((b &&& c : Nat) : Int) = ((mjO a b c : Nat) : Int) := xo32 (xo_lt (an_lt b0) (an_lt b0)) (an_lt b1)
      have esc : IntKind.i64.wrap ((i : Int) + 1) = ((i + 1 : Nat) : Int) := by rw [i64_of (by omega) (by omega)]; omega
      refine GO ?_
      refine AO_call rfl ((AC_R32 H7 6 e (by omega) b4).floor (by omega)) ?_
      rintro _ _ ⟨rfl, rfl⟩
      refine GO ?_
      refine AO_call rfl ((AC_R32 H7 11 e (by omega) b4).floor (by omega)) ?_
      rintro _ _ ⟨rfl, rfl⟩
      (repeat (first | refine GOS ?_ | (with_reducible (first | apply AO_any | apply AHd_any | apply AP_go | apply AHP_go); focus (simp only [Sm, wantedA, execA, stepA, List.getElem?_cons_zero, List.getElem?_cons_succ, if_true, if_false, binA, binInt, unA, eqA, Option.map, eq_self, reduceCtorEq, ite_true, ite_false, cellsAV, fitsAll, CK.fits, fillA, AV.cells, writeN, sliceCells, appendA, lenA, i64, loA, hiA, Nat.reduceAdd, Nat.reduceMul, Nat.reduceDiv, Nat.reduceSub, Nat.reduceLeDiff, Nat.reduceLT, Int.reduceLE, Int.reduceLT, foldA, maxA, minA, Int.reduceBEq, Int.reduceBNe, Int.reduceGT, Int.reduceGE, Int.reduceEq, Int.reduceNe, Int.reduceToNat, AOp.stops, ↓want_eq, ↓exec_lenX, ↓exec_storeX, ↓exec_storeN, storeN_one, ↓exec_bsX, ↓exec_sliceX, ↓exec_copyX, ↓exec_appNil, ↓exec_carryX, Nat.sub_zero, rep_len, x1]; with_reducible first | exact EqP.at_ | exact EqP.cont | exact EqP.hcont | exact EqP.gate | exact EqP.hgate))))
      refine AO_call rfl ((AC_R32 H7 25 e (by omega) b4).floor (by omega)) ?_
      rintro _ _ ⟨rfl, rfl⟩
      (repeat (first | refine GOS ?_ | (with_reducible (first | apply AO_any | apply AHd_any | apply AP_go | apply AHP_go); focus (simp only [Sm, wantedA, execA, stepA, List.getElem?_cons_zero, List.getElem?_cons_succ, if_true, if_false, binA, binInt, unA, eqA, Option.map, eq_self, reduceCtorEq, ite_true, ite_false, cellsAV, fitsAll, CK.fits, fillA, AV.cells, writeN, sliceCells, appendA, lenA, i64, loA, hiA, Nat.reduceAdd, Nat.reduceMul, Nat.reduceDiv, Nat.reduceSub, Nat.reduceLeDiff, Nat.reduceLT, Int.reduceLE, Int.reduceLT, foldA, maxA, minA, Int.reduceBEq, Int.reduceBNe, Int.reduceGT, Int.reduceGE, Int.reduceEq, Int.reduceNe, Int.reduceToNat, AOp.stops, ↓want_eq, ↓exec_lenX, ↓exec_storeX, ↓exec_storeN, storeN_one, ↓exec_bsX, ↓exec_sliceX, ↓exec_copyX, ↓exec_appNil, ↓exec_carryX, Nat.sub_zero, rep_len, x2, wrap_ad, y1, nt, yn, y2, y3, hc7, gk, ht, hc6, gw, Nat.zero_add]; with_reducible first | exact EqP.at_ | exact EqP.cont | exact EqP.hcont | exact EqP.gate | exact EqP.hgate))))
      refine AO_call rfl ((AC_R32 H7 2 a (by omega) b0).floor (by omega)) ?_
      rintro _ _ ⟨rfl, rfl⟩
      refine GO ?_
      refine AO_call rfl ((AC_R32 H7 13 a (by omega) b0).floor (by omega)) ?_
      rintro _ _ ⟨rfl, rfl⟩
      (repeat (first | refine GOS ?_ | (with_reducible (first | apply AO_any | apply AHd_any | apply AP_go | apply AHP_go); focus (simp only [Sm, wantedA, execA, stepA, List.getElem?_cons_zero, List.getElem?_cons_succ, if_true, if_false, binA, binInt, unA, eqA, Option.map, eq_self, reduceCtorEq, ite_true, ite_false, cellsAV, fitsAll, CK.fits, fillA, AV.cells, writeN, sliceCells, appendA, lenA, i64, loA, hiA, Nat.reduceAdd, Nat.reduceMul, Nat.reduceDiv, Nat.reduceSub, Nat.reduceLeDiff, Nat.reduceLT, Int.reduceLE, Int.reduceLT, foldA, maxA, minA, Int.reduceBEq, Int.reduceBNe, Int.reduceGT, Int.reduceGE, Int.reduceEq, Int.reduceNe, Int.reduceToNat, AOp.stops, ↓want_eq, ↓exec_lenX, ↓exec_storeX, ↓exec_storeN, storeN_one, ↓exec_bsX, ↓exec_sliceX, ↓exec_copyX, ↓exec_appNil, ↓exec_carryX, Nat.sub_zero, rep_len, x3]; with_reducible first | exact EqP.at_ | exact EqP.cont | exact EqP.hcont | exact EqP.gate | exact EqP.hgate))))
      refine AO_call rfl ((AC_R32 H7 22 a (by omega) b0).floor (by omega)) ?_
      rintro _ _ ⟨rfl, rfl⟩
      (repeat (first | refine GOS ?_ | (with_reducible (first | apply AO_any | apply AHd_any | apply AP_go | apply AHP_go); focus (simp only [Sm, wantedA, execA, stepA, List.getElem?_cons_zero, List.getElem?_cons_succ, if_true, if_false, binA, binInt, unA, eqA, Option.map, eq_self, reduceCtorEq, ite_true, ite_false, cellsAV, fitsAll, CK.fits, fillA, AV.cells, writeN, sliceCells, appendA, lenA, i64, loA, hiA, Nat.reduceAdd, Nat.reduceMul, Nat.reduceDiv, Nat.reduceSub, Nat.reduceLeDiff, Nat.reduceLT, Int.reduceLE, Int.reduceLT, foldA, maxA, minA, Int.reduceBEq, Int.reduceBNe, Int.reduceGT, Int.reduceGE, Int.reduceEq, Int.reduceNe, Int.reduceToNat, AOp.stops, ↓want_eq, ↓exec_lenX, ↓exec_storeX, ↓exec_storeN, storeN_one, ↓exec_bsX, ↓exec_sliceX, ↓exec_copyX, ↓exec_appNil, ↓exec_carryX, Nat.sub_zero, rep_len, x4, wrap_ad, z1, z2, z3, z4, z5, esc]; with_reducible first | exact EqP.at_ | exact EqP.cont | exact EqP.hcont | exact EqP.gate | exact EqP.hgate))))
      exact ⟨hi2, rfl, _, _, _, _, _, _, _, _, hsucc, stale _ _ rfl⟩
    · obtain rfl : i = 64 := by have : ¬ (i : Int) < 64 := of_decide_eq_false ht; omega
      exact AW_exit ⟨rfl, rfl, a, b, c, d, e, f, g, h, hse, stale _ _ rfl⟩
  clear hse b0 b1 b2 b3 b4 b5 b6 b7 g0 g1 g2 g3 g4 g5 g6 g7
  rintro x fr H7 ⟨rfl, rfl, a, b, c, d, e, f, g, h, hse, st, rfl⟩
  have hus := rnds_wd (ks := ks) (ws := ws) hs 64
  rw [hse] at hus ⊢
  have hW8 := W32_of8 (a := a) (b := b) (c := c) (d := d) (e := e) (f := f) (g := g) (h := h)
  (repeat (first | refine GOS ?_ | (with_reducible (first | apply AO_any | apply AHd_any | apply AP_go | apply AHP_go); focus (simp only [Sm, wantedA, execA, stepA, List.getElem?_cons_zero, List.getElem?_cons_succ, if_true, if_false, binA, binInt, unA, eqA, Option.map, eq_self, reduceCtorEq, ite_true, ite_false, cellsAV, fitsAll, CK.fits, fillA, AV.cells, writeN, sliceCells, appendA, lenA, i64, loA, hiA, Nat.reduceAdd, Nat.reduceMul, Nat.reduceDiv, Nat.reduceSub, Nat.reduceLeDiff, Nat.reduceLT, Int.reduceLE, Int.reduceLT, foldA, maxA, minA, Int.reduceBEq, Int.reduceBNe, Int.reduceGT, Int.reduceGE, Int.reduceEq, Int.reduceNe, Int.reduceToNat, AOp.stops, ↓want_eq, ↓exec_lenX, ↓exec_storeX, ↓exec_storeN, storeN_one, ↓exec_bsX, ↓exec_sliceX, ↓exec_copyX, ↓exec_appNil, ↓exec_carryX, Nat.sub_zero, rep_len, rep, List.replicate, hW8]; with_reducible first | exact EqP.at_ | exact EqP.cont | exact EqP.hcont | exact EqP.gate | exact EqP.hgate))))
  refine AW_mid (fun x fr H' => x = .normal ∧ sdI H.length (H.length + 1) s [a, b, c, d, e, f, g, h] H7 8 fr H') ?_ ?_
  · refine AW_block (AW_up (sdI H.length (H.length + 1) s [a, b, c, d, e, f, g, h] H7) 8 ⟨Chg.refl _ _, v2, stale _ _ rfl⟩ ?_)
    generalize [a, b, c, d, e, f, g, h] = us at *
    clear hW8
    rintro i fr H8 hi ⟨c8, o8, st, rfl⟩
    have hS := addTo_wd (us := us) hs i
    have hsucc : addTo s us (i + 1) = (addTo s us i).set i (ad ((addTo s us i).getD i 0) (us.getD i 0)) := rfl
    generalize hu : addTo s us i = u at *
    refine GO ?_
    refine AW_cond rfl ?_ ?_ <;> intro ht
    · have ht : (i : Int) < 8 := of_decide_eq_true ht
      have hi2 : i < 8 := by omega
      have g1 := hS.get (i := i) hi2
      have g2 := hus.get (i := i) hi2
      generalize u.getD i 0 = ui at *
      generalize us.getD i 0 = vi at *
      have h8 := hcells_own o8
      have l8 := hown_lt o8
      have esc : IntKind.i64.wrap ((i : Int) + 1) = ((i + 1 : Nat) : Int) := by rw [i64_of (by omega) (by omega)]; omega
      (repeat (first | refine GOS ?_ | (with_reducible (first | apply AO_any | apply AHd_any | apply AP_go | apply AHP_go); focus (simp only [Sm, wantedA, execA, stepA, List.getElem?_cons_zero, List.getElem?_cons_succ, if_true, if_false, binA, binInt, unA, eqA, Option.map, eq_self, reduceCtorEq, ite_true, ite_false, cellsAV, fitsAll, CK.fits, fillA, AV.cells, writeN, sliceCells, appendA, lenA, i64, loA, hiA, Nat.reduceAdd, Nat.reduceMul, Nat.reduceDiv, Nat.reduceSub, Nat.reduceLeDiff, Nat.reduceLT, Int.reduceLE, Int.reduceLT, foldA, maxA, minA, Int.reduceBEq, Int.reduceBNe, Int.reduceGT, Int.reduceGE, Int.reduceEq, Int.reduceNe, Int.reduceToNat, AOp.stops, ↓want_eq, ↓exec_lenX, ↓exec_storeX, ↓exec_storeN, storeN_one, ↓exec_bsX, ↓exec_sliceX, ↓exec_copyX, ↓exec_appNil, ↓exec_carryX, Nat.sub_zero, rep_len, g2, ht, hi2, h8, g1, Nat.zero_add, wrap_ad, storeX_own o8 (Nat.le_refl H.length) (by rw [hS.len]; exact hi2 : i < _), esc]; with_reducible first | exact EqP.at_ | exact EqP.cont | exact EqP.hcont | exact EqP.gate | exact EqP.hgate))))
      refine ⟨hi2, c8.trans (Chg.set (S := (· = H.length)) rfl) fun _ _ h => h, ?_, stale _ _ rfl⟩
      rw [hown_set l8, W32_put, hsucc]
    · obtain rfl : i = 8 := by have : ¬ (i : Int) < 8 := of_decide_eq_false ht; omega
      subst hu
      exact AW_exit ⟨rfl, c8, o8, stale _ _ rfl⟩
  have hall := addTo_all hs hus
  have hA := addW_wd hs hus
  generalize [a, b, c, d, e, f, g, h] = us at *
  rintro x fr H8 ⟨rfl, c8, o8, st, rfl⟩
  rw [hall] at o8
  have o84 := c8.hown (by omega : ¬ H.length + 1 = H.length) v4
  generalize addW s us = r at *
  have r8 : readN H8 H.length 0 8 = some (W32 r) := by have := readN_all (hcells_own o8); rw [hA.len] at this; exact this
  obtain ⟨H9, s9, o9, c9, l9⟩ := storeN_ex (n := 8) o84 (by omega : H.length ≤ H.length + 1) rep_len (W32 r) hA.len
  have r9 : readN H9 (H.length + 1) 0 8 = some (W32 r) := by have := readN_all (hcells_own o9); rw [hA.len] at this; exact this
  (repeat (first | refine GOS ?_ | (with_reducible (first | apply AO_any | apply AHd_any | apply AP_go | apply AHP_go); focus (simp only [Sm, wantedA, execA, stepA, List.getElem?_cons_zero, List.getElem?_cons_succ, if_true, if_false, binA, binInt, unA, eqA, Option.map, eq_self, reduceCtorEq, ite_true, ite_false, cellsAV, fitsAll, CK.fits, fillA, AV.cells, writeN, sliceCells, appendA, lenA, i64, loA, hiA, Nat.reduceAdd, Nat.reduceMul, Nat.reduceDiv, Nat.reduceSub, Nat.reduceLeDiff, Nat.reduceLT, Int.reduceLE, Int.reduceLT, foldA, maxA, minA, Int.reduceBEq, Int.reduceBNe, Int.reduceGT, Int.reduceGE, Int.reduceEq, Int.reduceNe, Int.reduceToNat, AOp.stops, ↓want_eq, ↓exec_lenX, ↓exec_storeX, ↓exec_storeN, storeN_one, ↓exec_bsX, ↓exec_sliceX, ↓exec_copyX, ↓exec_appNil, ↓exec_carryX, Nat.sub_zero, rep_len, ↓r8, s9]; with_reducible first | exact EqP.at_ | exact EqP.cont | exact EqP.hcont | exact EqP.gate | exact EqP.hgate))))
  exact AW_ret ⟨_, by simp only [outA, resA, ressA, AV.tv, Option.map_some, Sm, wantedA, execA, stepA, List.getElem?_cons_zero, List.getElem?_cons_succ, if_true, if_false, binA, binInt, unA, eqA, Option.map, eq_self, reduceCtorEq, ite_true, ite_false, cellsAV, fitsAll, CK.fits, fillA, AV.cells, writeN, sliceCells, appendA, lenA, i64, loA, hiA, Nat.reduceAdd, Nat.reduceMul, Nat.reduceDiv, Nat.reduceSub, Nat.reduceLeDiff, Nat.reduceLT, Int.reduceLE, Int.reduceLT, foldA, maxA, minA, r9] <;> with_reducible rfl, rfl⟩
end PK

/- Package feed as code of the abstract machine. -/
namespace PK
open Go PAbs

noncomputable def c_feed_New : AFn := AFn.mk 16 [.tmp 4, .tmp 5]
  (.seq (.region
      [⟨some 4, .mv (.k (.c (.pnil))), none⟩,
        ⟨some 5, .mv (.k (.c (.int .i64 0))), none⟩])
  (.seq (.seq (.region
        [⟨some 6, .mv (.t 0), none⟩,
          ⟨some 7, .bin .lss (.t 6) (.k (.c (.int .i64 1))), none⟩,
          ⟨some 8, .mv (.t 7), none⟩,
          ⟨some 9, .mv (.t 0), some (8, false)⟩,
          ⟨some 10, .bin .gtr (.t 9) (.k (.c (.int .i64 65536))), some (8, false)⟩,
          ⟨some 11, .pick (.t 8) (.k (.c (.bool true))) (.t 10), none⟩])
    (.cond (.t 11)
      (.seq (.region
          [⟨some 4, .mv (.k (.c (.pnil))), none⟩,
            ⟨some 5, .mv (.k (.c (.int .i64 1))), none⟩])
      (.ret))
      (.skip)))
  (.seq (.region
      [⟨some 12, .mv (.t 0), none⟩,
        ⟨some 13, .mv (.t 1), none⟩,
        ⟨some 14, .build ([.int .i64 0, .bool false, .snil, .int .i64 0]) [(0, 1, .t 12), (1, 1, .t 13)], none⟩,
        ⟨some 15, .box (.t 14), none⟩,
        ⟨some 4, .mv (.t 15), none⟩,
        ⟨some 5, .mv (.k (.c (.int .i64 0))), none⟩])
  (.ret))))
theorem t_feed_New : A F_feed_New = some c_feed_New := by kernel_rfl

noncomputable def c_feed_Feed_Put : AFn := AFn.mk 78 [.tmp 4]
  (.seq (.region
      [⟨some 4, .mv (.k (.c (.snil))), none⟩])
  (.seq (.seq (.region
        [⟨some 8, .mv (.t 0), none⟩,
          ⟨some 9, .eq false .ptr (.t 8) (.k (.c (.pnil))), none⟩,
          ⟨some 10, .mv (.t 9), none⟩,
          ⟨some 11, .mv (.t 0), some (10, false)⟩,
          ⟨some 12, .nilCheck (.t 11), some (10, false)⟩,
          ⟨some 13, .fieldAddr 0 (.t 12), some (10, false)⟩,
          ⟨some 14, .load1 (.t 13), some (10, false)⟩,
          ⟨some 15, .bin .eql (.t 14) (.k (.c (.int .i64 0))), some (10, false)⟩,
          ⟨some 16, .pick (.t 10) (.k (.c (.bool true))) (.t 15), none⟩])
    (.cond (.t 16)
      (.seq (.region
          [⟨some 4, .mv (.k (.c (.snil))), none⟩])
      (.ret))
      (.skip)))
  (.seq (.region
      [⟨some 5, .mv (.k (.c (.snil))), none⟩])
  (.seq (.seq (.region
        [⟨some 17, .mv (.t 1), none⟩,
          ⟨some 18, .len false (.t 17), none⟩,
          ⟨some 19, .mv (.k (.c (.int .i64 0))), none⟩])
    (.block 0
      (.loop
        (.seq (.region
            [⟨some 20, .bin .lss (.t 19) (.t 18), none⟩])
        (.seq (.cond (.t 20)
            (.skip)
            (.exit 0))
        (.seq (.block 1
            (.seq (.region
                [⟨some 21, .idxSlc 1 (.t 17) (.t 19), none⟩,
                  ⟨some 22, .load1 (.t 21), none⟩,
                  ⟨some 7, .mv (.t 22), none⟩])
            (.seq (.region
                [⟨some 23, .mv (.t 0), none⟩,
                  ⟨some 24, .nilCheck (.t 23), none⟩,
                  ⟨some 25, .fieldAddr 3 (.t 24), none⟩,
                  ⟨some 26, .load1 (.t 25), none⟩,
                  ⟨some 27, .mv (.t 7), none⟩,
                  ⟨some 28, .len true (.t 27), none⟩,
                  ⟨some 29, .bin .add (.t 26) (.t 28), none⟩,
                  ⟨some 30, .nilCheck (.t 23), none⟩,
                  ⟨some 31, .fieldAddr 3 (.t 30), none⟩,
                  ⟨none, .store 1 (.t 31) (.t 29), none⟩])
            (.seq (.region
                [⟨some 32, .mv (.t 0), none⟩,
                  ⟨some 33, .mv (.t 0), none⟩,
                  ⟨some 34, .nilCheck (.t 33), none⟩,
                  ⟨some 35, .fieldAddr 2 (.t 34), none⟩,
                  ⟨some 36, .load1 (.t 35), none⟩,
                  ⟨some 37, .mv (.t 7), none⟩,
                  ⟨some 38, .append ([.int .u8 0]) 1 (.t 36) (.t 37), none⟩,
                  ⟨some 39, .nilCheck (.t 32), none⟩,
                  ⟨some 40, .fieldAddr 2 (.t 39), none⟩,
                  ⟨none, .store 1 (.t 40) (.t 38), none⟩])
            (.block 2
              (.loop
                (.seq (.seq (.region
                      [⟨some 41, .mv (.t 0), none⟩,
                        ⟨some 42, .call F_feed_Feed_full [.t 41], none⟩])
                  (.cond (.t 42)
                    (.skip)
                    (.exit 2)))
                (.block 3
                  (.seq (.draw
                      [⟨some 43, .mv (.t 5), none⟩,
                        ⟨some 44, .mv (.t 0), none⟩,
                        ⟨some 45, .nilCheck (.t 44), none⟩,
                        ⟨some 46, .fieldAddr 2 (.t 45), none⟩,
                        ⟨some 47, .load1 (.t 46), none⟩,
                        ⟨some 48, .mv (.t 0), none⟩,
                        ⟨some 49, .nilCheck (.t 48), none⟩,
                        ⟨some 50, .fieldAddr 0 (.t 49), none⟩,
                        ⟨some 51, .load1 (.t 50), none⟩,
                        ⟨some 52, .sliceS 1 (.t 47) none (some (.t 51)), none⟩,
                        ⟨some 53, .append ([.int .u8 0]) 1 (.k (.c (.snil))) (.t 52), none⟩,
                        ⟨some 54, .buildSlice ([.snil]) 1 1 [(0, 1, .t 53)], none⟩]
                      [⟨some 55, .append ([.snil]) 24 (.t 43) (.t 54), none⟩,
                        ⟨some 5, .mv (.t 55), none⟩])
                  (.draw
                    [⟨some 56, .mv (.t 0), none⟩,
                      ⟨some 57, .mv (.t 0), none⟩,
                      ⟨some 58, .nilCheck (.t 57), none⟩,
                      ⟨some 59, .fieldAddr 2 (.t 58), none⟩,
                      ⟨some 60, .load1 (.t 59), none⟩,
                      ⟨some 61, .mv (.t 0), none⟩,
                      ⟨some 62, .nilCheck (.t 61), none⟩,
                      ⟨some 63, .fieldAddr 0 (.t 62), none⟩,
                      ⟨some 64, .load1 (.t 63), none⟩,
                      ⟨some 65, .sliceS 1 (.t 60) (some (.t 64)) none, none⟩]
                    [⟨some 66, .nilCheck (.t 56), none⟩,
                      ⟨some 67, .fieldAddr 2 (.t 66), none⟩,
                      ⟨none, .store 1 (.t 67) (.t 65), none⟩]))))))))))
        (.region
          [⟨some 68, .bin .add (.t 19) (.k (.c (.int .i64 1))), none⟩,
            ⟨some 19, .mv (.t 68), none⟩])))))))
  (.seq (.region
      [⟨some 69, .mv (.t 0), none⟩,
        ⟨some 70, .mv (.t 0), none⟩,
        ⟨some 71, .nilCheck (.t 70), none⟩,
        ⟨some 72, .fieldAddr 2 (.t 71), none⟩,
        ⟨some 73, .load1 (.t 72), none⟩,
        ⟨some 74, .append ([.int .u8 0]) 1 (.k (.c (.snil))) (.t 73), none⟩,
        ⟨some 75, .nilCheck (.t 69), none⟩,
        ⟨some 76, .fieldAddr 2 (.t 75), none⟩,
        ⟨none, .store 1 (.t 76) (.t 74), none⟩])
  (.seq (.region
      [⟨some 77, .mv (.t 5), none⟩,
        ⟨some 4, .mv (.t 77), none⟩])
  (.ret)))))))
theorem t_feed_Feed_Put : A F_feed_Feed_Put = some c_feed_Feed_Put := by kernel_rfl

noncomputable def c_feed_Feed_full : AFn := AFn.mk 27 [.tmp 2]
  (.seq (.region
      [⟨some 2, .mv (.k (.c (.bool false))), none⟩])
  (.seq (.seq (.region
        [⟨some 3, .mv (.t 0), none⟩,
          ⟨some 4, .nilCheck (.t 3), none⟩,
          ⟨some 5, .fieldAddr 1 (.t 4), none⟩,
          ⟨some 6, .load1 (.t 5), none⟩])
    (.cond (.t 6)
      (.seq (.draw
          [⟨some 7, .mv (.t 0), none⟩,
            ⟨some 8, .nilCheck (.t 7), none⟩,
            ⟨some 9, .fieldAddr 2 (.t 8), none⟩,
            ⟨some 10, .load1 (.t 9), none⟩,
            ⟨some 11, .len false (.t 10), none⟩,
            ⟨some 12, .mv (.t 0), none⟩,
            ⟨some 13, .nilCheck (.t 12), none⟩,
            ⟨some 14, .fieldAddr 0 (.t 13), none⟩,
            ⟨some 15, .load1 (.t 14), none⟩]
          [⟨some 16, .bin .gtr (.t 11) (.t 15), none⟩,
            ⟨some 2, .mv (.t 16), none⟩])
      (.ret))
      (.skip)))
  (.seq (.draw
      [⟨some 17, .mv (.t 0), none⟩,
        ⟨some 18, .nilCheck (.t 17), none⟩,
        ⟨some 19, .fieldAddr 2 (.t 18), none⟩,
        ⟨some 20, .load1 (.t 19), none⟩,
        ⟨some 21, .len false (.t 20), none⟩,
        ⟨some 22, .mv (.t 0), none⟩,
        ⟨some 23, .nilCheck (.t 22), none⟩,
        ⟨some 24, .fieldAddr 0 (.t 23), none⟩,
        ⟨some 25, .load1 (.t 24), none⟩]
      [⟨some 26, .bin .geq (.t 21) (.t 25), none⟩,
        ⟨some 2, .mv (.t 26), none⟩])
  (.ret))))
theorem t_feed_Feed_full : A F_feed_Feed_full = some c_feed_Feed_full := by kernel_rfl

noncomputable def c_feed_Feed_Total : AFn := AFn.mk 9 [.tmp 2]
  (.seq (.region
      [⟨some 2, .mv (.k (.c (.int .i64 0))), none⟩])
  (.seq (.seq (.region
        [⟨some 3, .mv (.t 0), none⟩,
          ⟨some 4, .eq false .ptr (.t 3) (.k (.c (.pnil))), none⟩])
    (.cond (.t 4)
      (.seq (.region
          [⟨some 2, .mv (.k (.c (.int .i64 0))), none⟩])
      (.ret))
      (.skip)))
  (.seq (.region
      [⟨some 5, .mv (.t 0), none⟩,
        ⟨some 6, .nilCheck (.t 5), none⟩,
        ⟨some 7, .fieldAddr 3 (.t 6), none⟩,
        ⟨some 8, .load1 (.t 7), none⟩,
        ⟨some 2, .mv (.t 8), none⟩])
  (.ret))))
theorem t_feed_Feed_Total : A F_feed_Feed_Total = some c_feed_Feed_Total := by kernel_rfl

noncomputable def c_feed_Feed_Copy : AFn := AFn.mk 12 [.tmp 2]
  (.seq (.region
      [⟨some 2, .mv (.k (.c (.pnil))), none⟩])
  (.seq (.seq (.region
        [⟨some 4, .mv (.t 0), none⟩,
          ⟨some 5, .eq false .ptr (.t 4) (.k (.c (.pnil))), none⟩])
    (.cond (.t 5)
      (.seq (.region
          [⟨some 2, .mv (.k (.c (.pnil))), none⟩])
      (.ret))
      (.skip)))
  (.seq (.region
      [⟨some 6, .mv (.t 0), none⟩,
        ⟨some 7, .nilCheck (.t 6), none⟩,
        ⟨some 8, .loadN 4 (.t 7), none⟩,
        ⟨some 3, .alloc ([.int .i64 0, .bool false, .snil, .int .i64 0]), none⟩,
        ⟨none, .store 4 (.t 3) (.t 8), none⟩])
  (.seq (.region
      [⟨some 9, .mv (.t 0), none⟩,
        ⟨some 10, .call F_feed_Feed_Rest [.t 9], none⟩,
        ⟨some 11, .fieldAddr 2 (.t 3), none⟩,
        ⟨none, .store 1 (.t 11) (.t 10), none⟩])
  (.seq (.region
      [⟨some 2, .mv (.t 3), none⟩])
  (.ret))))))
theorem t_feed_Feed_Copy : A F_feed_Feed_Copy = some c_feed_Feed_Copy := by kernel_rfl

noncomputable def c_feed_Feed_Rest : AFn := AFn.mk 10 [.tmp 2]
  (.seq (.region
      [⟨some 2, .mv (.k (.c (.snil))), none⟩])
  (.seq (.seq (.region
        [⟨some 3, .mv (.t 0), none⟩,
          ⟨some 4, .eq false .ptr (.t 3) (.k (.c (.pnil))), none⟩])
    (.cond (.t 4)
      (.seq (.region
          [⟨some 2, .mv (.k (.c (.snil))), none⟩])
      (.ret))
      (.skip)))
  (.seq (.region
      [⟨some 5, .mv (.t 0), none⟩,
        ⟨some 6, .nilCheck (.t 5), none⟩,
        ⟨some 7, .fieldAddr 2 (.t 6), none⟩,
        ⟨some 8, .load1 (.t 7), none⟩,
        ⟨some 9, .append ([.int .u8 0]) 1 (.k (.c (.snil))) (.t 8), none⟩,
        ⟨some 2, .mv (.t 9), none⟩])
  (.ret))))
theorem t_feed_Feed_Rest : A F_feed_Feed_Rest = some c_feed_Feed_Rest := by kernel_rfl
end PK

/- Package feed: what a feed is, and its methods' contracts. -/
namespace PK
open Go PAbs
set_option linter.unusedSimpArgs false
set_option linter.unusedVariables false
set_option maxRecDepth 100000
set_option maxHeartbeats 4000000

def nb (size : Nat) (lazy : Bool) (n : Nat) : Nat := if lazy then (n - 1) / size else n / size
def blk (size : Nat) (all : List UInt8) (i : Nat) : List UInt8 := (all.drop (i * size)).take size
def blks (size : Nat) (all : List UInt8) (k : Nat) : List (List UInt8) := (List.range k).map (blk size all)
theorem blks_length {size : Nat} {all : List UInt8} {k : Nat} : (blks size all k).length = k := by simp [blks]
theorem blks_succ {size : Nat} {all : List UInt8} {k : Nat} : blks size all (k + 1) = blks size all k ++ [blk size all k] := by simp [blks, List.range_succ]
theorem nb_le {size : Nat} {lazy : Bool} {n : Nat} (h0 : 0 < size) : nb size lazy n * size ≤ n := by
  cases lazy with
  | true => simp only [nb, if_true]; have := Nat.div_mul_le_self (n - 1) size; omega
  | false => simp only [nb, Bool.false_eq_true, if_false]; exact Nat.div_mul_le_self n size
theorem nb_mono {size : Nat} {lazy : Bool} {n m : Nat} (h : n ≤ m) : nb size lazy n ≤ nb size lazy m := by
  cases lazy with
  | true => simp only [nb, if_true]; exact Nat.div_le_div_right (by omega)
  | false => simp only [nb, Bool.false_eq_true, if_false]; exact Nat.div_le_div_right h
theorem nb_full {size : Nat} {lazy : Bool} {n k : Nat} (h0 : 0 < size) (hk : k * size ≤ n) : (if lazy then decide (n - k * size > size) else decide (n - k * size ≥ size)) = decide (k < nb size lazy n) := by
  have e : (k + 1) * size = k * size + size := by rw [Nat.add_mul, Nat.one_mul]
  cases lazy with
  | true =>
    simp only [nb, if_true]
    have := @Nat.le_div_iff_mul_le size (k + 1) (n - 1) h0
    have h2 : k < (n - 1) / size ↔ n - k * size > size := ⟨fun h => by have := this.mp h; omega, fun h => this.mpr (by omega)⟩
    simp only [h2]
  | false =>
    simp only [nb, Bool.false_eq_true, if_false]
    have := @Nat.le_div_iff_mul_le size (k + 1) n h0
    have h2 : k < n / size ↔ n - k * size ≥ size := ⟨fun h => by have := this.mp h; omega, fun h => this.mpr (by omega)⟩
    simp only [h2]
theorem blk_append {size : Nat} {a p : List UInt8} {i k : Nat} (hk : k * size ≤ a.length) (hi : i < k) : blk size (a ++ p) i = blk size a i := by
  have h1 : (i + 1) * size ≤ k * size := Nat.mul_le_mul_right _ hi
  rw [Nat.add_mul, Nat.one_mul] at h1
  simp only [blk]
  rw [List.drop_append_of_le_length (by omega), List.take_append_of_le_length (by rw [List.length_drop]; omega)]
theorem blks_append {size : Nat} {a p : List UInt8} {k : Nat} (hk : k * size ≤ a.length) : blks size (a ++ p) k = blks size a k := by
  simp only [blks]
  apply List.map_congr_left
  intro i hi
  exact blk_append hk (List.mem_range.mp hi)

def FeedAt (H : AHeap) (p : Nat) (x : Cell) (size : Nat) (lazy : Bool) (held : List UInt8) (total : Nat) : Prop :=
  hown H p = some [.int .i64 (size : Int), .bool lazy, x, .int .i64 (total : Int)] ∧ OwnT 0 H x 1 (B8 held) ∧ ¬ inX x p
theorem FeedAt.chg {S : Nat → Prop} {H H' : AHeap} {p : Nat} {x : Cell} {size : Nat} {lazy : Bool} {held : List UInt8} {total : Nat} (h : FeedAt H p x size lazy held total) (hc : Chg S H H') (hp : ¬ S p) (hx : ∀ b, inX x b → ¬ S b) : FeedAt H' p x size lazy held total :=
  ⟨hc.hown hp h.1, h.2.1.chg hc hx, h.2.2⟩

theorem AC_feed_New (fl : Nat) (H : AHeap) (size : Int) (lazy : Bool) : AC A fl F_feed_New [.c (.int .i64 size), .c (.bool lazy)] H (fun v H' => ((size < 1 ∨ size > 65536) ∧ v = .tup [.c .pnil, .c (.int .i64 1)] ∧ H = H') ∨ (1 ≤ size ∧ size ≤ 65536 ∧ v = .tup [.c (.ptr H.length 0), .c (.int .i64 0)] ∧ H' = H ++ [.own [.int .i64 size, .bool lazy, .snil, .int .i64 0]])) := by
  refine AC_enter t_feed_New ?_; simp only [c_feed_New, enterA, List.replicate, List.length_cons, List.length_nil, Nat.reduceAdd, Nat.reduceSub, List.cons_append, List.nil_append]
  rcases Decidable.em (size < 1) with h1 | h1
  · (repeat (first | with_reducible refine thenQ_n ?_ | with_reducible refine blockQ_n ?_ | refine AW_skip ?_ | refine AW_seq ?_ | refine AW_ops ?_ | refine AW_blockS ?_ | refine AW_blockR ?_ | refine AW_blockD ?_ | refine AW_blockC ?_ | refine AO_nil ?_ | refine AW_draw ?_ | refine AW_draw3 ?_ | refine AW_blockD3 ?_ | refine AHd_nil ?_ | ((first | with_reducible apply AO_pre | with_reducible apply AHd_pre); focus (simp only [Sm, wantedA, execA, stepA, List.getElem?_cons_zero, List.getElem?_cons_succ, if_true, if_false, binA, binInt, unA, eqA, Option.map, eq_self, reduceCtorEq, ite_true, ite_false, cellsAV, fitsAll, CK.fits, fillA, AV.cells, writeN, readN, sliceCells, appendA, lenA, i64, loA, hiA, Nat.reduceAdd, Nat.reduceMul, Nat.reduceDiv, Nat.reduceSub, Nat.reduceLeDiff, Nat.reduceLT, Int.reduceLE, Int.reduceLT, foldA, maxA, minA, Int.reduceBEq, Int.reduceBNe, Int.reduceGT, Int.reduceGE, Int.reduceEq, Int.reduceNe, Int.reduceToNat, AOp.stops, ↓want_eq, ↓exec_lenX, decide_eq_true h1]; with_reducible rfl))))
    refine AW_cond (t := true) rfl (fun _ => ?_) (fun h => by cases h)
    (repeat (first | with_reducible refine thenQ_n ?_ | with_reducible refine blockQ_n ?_ | refine AW_skip ?_ | refine AW_seq ?_ | refine AW_ops ?_ | refine AW_blockS ?_ | refine AW_blockR ?_ | refine AW_blockD ?_ | refine AW_blockC ?_ | refine AO_nil ?_ | refine AW_draw ?_ | refine AW_draw3 ?_ | refine AW_blockD3 ?_ | refine AHd_nil ?_ | ((first | with_reducible apply AO_pre | with_reducible apply AHd_pre); focus (simp only [Sm, wantedA, execA, stepA, List.getElem?_cons_zero, List.getElem?_cons_succ, if_true, if_false, binA, binInt, unA, eqA, Option.map, eq_self, reduceCtorEq, ite_true, ite_false, cellsAV, fitsAll, CK.fits, fillA, AV.cells, writeN, readN, sliceCells, appendA, lenA, i64, loA, hiA, Nat.reduceAdd, Nat.reduceMul, Nat.reduceDiv, Nat.reduceSub, Nat.reduceLeDiff, Nat.reduceLT, Int.reduceLE, Int.reduceLT, foldA, maxA, minA, Int.reduceBEq, Int.reduceBNe, Int.reduceGT, Int.reduceGE, Int.reduceEq, Int.reduceNe, Int.reduceToNat, AOp.stops, ↓want_eq, ↓exec_lenX]; with_reducible rfl))))
    exact AW_ret ⟨_, rfl, .inl ⟨.inl h1, rfl, rfl⟩⟩
  rcases Decidable.em (size > 65536) with h2 | h2
  · (repeat (first | with_reducible refine thenQ_n ?_ | with_reducible refine blockQ_n ?_ | refine AW_skip ?_ | refine AW_seq ?_ | refine AW_ops ?_ | refine AW_blockS ?_ | refine AW_blockR ?_ | refine AW_blockD ?_ | refine AW_blockC ?_ | refine AO_nil ?_ | refine AW_draw ?_ | refine AW_draw3 ?_ | refine AW_blockD3 ?_ | refine AHd_nil ?_ | ((first | with_reducible apply AO_pre | with_reducible apply AHd_pre); focus (simp only [Sm, wantedA, execA, stepA, List.getElem?_cons_zero, List.getElem?_cons_succ, if_true, if_false, binA, binInt, unA, eqA, Option.map, eq_self, reduceCtorEq, ite_true, ite_false, cellsAV, fitsAll, CK.fits, fillA, AV.cells, writeN, readN, sliceCells, appendA, lenA, i64, loA, hiA, Nat.reduceAdd, Nat.reduceMul, Nat.reduceDiv, Nat.reduceSub, Nat.reduceLeDiff, Nat.reduceLT, Int.reduceLE, Int.reduceLT, foldA, maxA, minA, Int.reduceBEq, Int.reduceBNe, Int.reduceGT, Int.reduceGE, Int.reduceEq, Int.reduceNe, Int.reduceToNat, AOp.stops, ↓want_eq, ↓exec_lenX, decide_eq_false h1, decide_eq_true h2]; with_reducible rfl))))
    refine AW_cond (t := true) rfl (fun _ => ?_) (fun h => by cases h)
    (repeat (first | with_reducible refine thenQ_n ?_ | with_reducible refine blockQ_n ?_ | refine AW_skip ?_ | refine AW_seq ?_ | refine AW_ops ?_ | refine AW_blockS ?_ | refine AW_blockR ?_ | refine AW_blockD ?_ | refine AW_blockC ?_ | refine AO_nil ?_ | refine AW_draw ?_ | refine AW_draw3 ?_ | refine AW_blockD3 ?_ | refine AHd_nil ?_ | ((first | with_reducible apply AO_pre | with_reducible apply AHd_pre); focus (simp only [Sm, wantedA, execA, stepA, List.getElem?_cons_zero, List.getElem?_cons_succ, if_true, if_false, binA, binInt, unA, eqA, Option.map, eq_self, reduceCtorEq, ite_true, ite_false, cellsAV, fitsAll, CK.fits, fillA, AV.cells, writeN, readN, sliceCells, appendA, lenA, i64, loA, hiA, Nat.reduceAdd, Nat.reduceMul, Nat.reduceDiv, Nat.reduceSub, Nat.reduceLeDiff, Nat.reduceLT, Int.reduceLE, Int.reduceLT, foldA, maxA, minA, Int.reduceBEq, Int.reduceBNe, Int.reduceGT, Int.reduceGE, Int.reduceEq, Int.reduceNe, Int.reduceToNat, AOp.stops, ↓want_eq, ↓exec_lenX]; with_reducible rfl))))
    exact AW_ret ⟨_, rfl, .inl ⟨.inr h2, rfl, rfl⟩⟩
  · (repeat (first | with_reducible refine thenQ_n ?_ | with_reducible refine blockQ_n ?_ | refine AW_skip ?_ | refine AW_seq ?_ | refine AW_ops ?_ | refine AW_blockS ?_ | refine AW_blockR ?_ | refine AW_blockD ?_ | refine AW_blockC ?_ | refine AO_nil ?_ | refine AW_draw ?_ | refine AW_draw3 ?_ | refine AW_blockD3 ?_ | refine AHd_nil ?_ | ((first | with_reducible apply AO_pre | with_reducible apply AHd_pre); focus (simp only [Sm, wantedA, execA, stepA, List.getElem?_cons_zero, List.getElem?_cons_succ, if_true, if_false, binA, binInt, unA, eqA, Option.map, eq_self, reduceCtorEq, ite_true, ite_false, cellsAV, fitsAll, CK.fits, fillA, AV.cells, writeN, readN, sliceCells, appendA, lenA, i64, loA, hiA, Nat.reduceAdd, Nat.reduceMul, Nat.reduceDiv, Nat.reduceSub, Nat.reduceLeDiff, Nat.reduceLT, Int.reduceLE, Int.reduceLT, foldA, maxA, minA, Int.reduceBEq, Int.reduceBNe, Int.reduceGT, Int.reduceGE, Int.reduceEq, Int.reduceNe, Int.reduceToNat, AOp.stops, ↓want_eq, ↓exec_lenX, decide_eq_false h1, decide_eq_false h2]; with_reducible rfl))))
    refine AW_cond (t := false) rfl (fun h => by cases h) fun _ => ?_
    (repeat (first | with_reducible refine thenQ_n ?_ | with_reducible refine blockQ_n ?_ | refine AW_skip ?_ | refine AW_seq ?_ | refine AW_ops ?_ | refine AW_blockS ?_ | refine AW_blockR ?_ | refine AW_blockD ?_ | refine AW_blockC ?_ | refine AO_nil ?_ | refine AW_draw ?_ | refine AW_draw3 ?_ | refine AW_blockD3 ?_ | refine AHd_nil ?_ | ((first | with_reducible apply AO_pre | with_reducible apply AHd_pre); focus (simp only [Sm, wantedA, execA, stepA, List.getElem?_cons_zero, List.getElem?_cons_succ, if_true, if_false, binA, binInt, unA, eqA, Option.map, eq_self, reduceCtorEq, ite_true, ite_false, cellsAV, fitsAll, CK.fits, fillA, AV.cells, writeN, readN, sliceCells, appendA, lenA, i64, loA, hiA, Nat.reduceAdd, Nat.reduceMul, Nat.reduceDiv, Nat.reduceSub, Nat.reduceLeDiff, Nat.reduceLT, Int.reduceLE, Int.reduceLT, foldA, maxA, minA, Int.reduceBEq, Int.reduceBNe, Int.reduceGT, Int.reduceGE, Int.reduceEq, Int.reduceNe, Int.reduceToNat, AOp.stops, ↓want_eq, ↓exec_lenX]; with_reducible rfl))))
    exact AW_ret ⟨_, rfl, .inr ⟨by omega, by omega, rfl, rfl⟩⟩

section
variable (H : AHeap) (p : Nat) (x : Cell) (size : Nat) (lazy : Bool) (held : List UInt8) (total : Nat)

theorem AC_feed_full (hF : FeedAt H p x size lazy held total) : AC A H.length F_feed_Feed_full [.c (.ptr p 0)] H (fun v H' => v = .c (.bool (if lazy then decide (held.length > size) else decide (held.length ≥ size))) ∧ H = H') := by
  obtain ⟨h1, h2, h3⟩ := hF
  have hp := hcells_own h1
  have hl := h2.rd.len1 held.length B8_length
  refine AC_enter t_feed_Feed_full ?_; simp only [c_feed_Feed_full, enterA, List.replicate, List.length_cons, List.length_nil, Nat.reduceAdd, Nat.reduceSub, List.cons_append, List.nil_append]
  cases lazy with
  | true =>
    (repeat (first | with_reducible refine thenQ_n ?_ | with_reducible refine blockQ_n ?_ | refine AW_skip ?_ | refine AW_seq ?_ | refine AW_ops ?_ | refine AW_blockS ?_ | refine AW_blockR ?_ | refine AW_blockD ?_ | refine AW_blockC ?_ | refine AO_nil ?_ | refine AW_draw ?_ | refine AW_draw3 ?_ | refine AW_blockD3 ?_ | refine AHd_nil ?_ | ((first | with_reducible apply AO_pre | with_reducible apply AHd_pre); focus (simp only [Sm, wantedA, execA, stepA, List.getElem?_cons_zero, List.getElem?_cons_succ, if_true, if_false, binA, binInt, unA, eqA, Option.map, eq_self, reduceCtorEq, ite_true, ite_false, cellsAV, fitsAll, CK.fits, fillA, AV.cells, writeN, readN, sliceCells, appendA, lenA, i64, loA, hiA, Nat.reduceAdd, Nat.reduceMul, Nat.reduceDiv, Nat.reduceSub, Nat.reduceLeDiff, Nat.reduceLT, Int.reduceLE, Int.reduceLT, foldA, maxA, minA, Int.reduceBEq, Int.reduceBNe, Int.reduceGT, Int.reduceGE, Int.reduceEq, Int.reduceNe, Int.reduceToNat, AOp.stops, ↓want_eq, ↓exec_lenX, hp]; with_reducible rfl))))
    refine AW_cond (t := true) rfl (fun _ => ?_) (fun h => by cases h)
    (repeat (first | with_reducible refine thenQ_n ?_ | with_reducible refine blockQ_n ?_ | refine AW_skip ?_ | refine AW_seq ?_ | refine AW_ops ?_ | refine AW_blockS ?_ | refine AW_blockR ?_ | refine AW_blockD ?_ | refine AW_blockC ?_ | refine AO_nil ?_ | refine AW_draw ?_ | refine AW_draw3 ?_ | refine AW_blockD3 ?_ | refine AHd_nil ?_ | ((first | with_reducible apply AO_pre | with_reducible apply AHd_pre); focus (simp only [Sm, wantedA, execA, stepA, List.getElem?_cons_zero, List.getElem?_cons_succ, if_true, if_false, binA, binInt, unA, eqA, Option.map, eq_self, reduceCtorEq, ite_true, ite_false, cellsAV, fitsAll, CK.fits, fillA, AV.cells, writeN, readN, sliceCells, appendA, lenA, i64, loA, hiA, Nat.reduceAdd, Nat.reduceMul, Nat.reduceDiv, Nat.reduceSub, Nat.reduceLeDiff, Nat.reduceLT, Int.reduceLE, Int.reduceLT, foldA, maxA, minA, Int.reduceBEq, Int.reduceBNe, Int.reduceGT, Int.reduceGE, Int.reduceEq, Int.reduceNe, Int.reduceToNat, AOp.stops, ↓want_eq, ↓exec_lenX, hp, hl]; with_reducible rfl))))
    refine AW_ret ⟨_, rfl, ?_, rfl⟩
    simp only [if_true, Int.ofNat_lt, gt_iff_lt]; rfl
  | false =>
    (repeat (first | with_reducible refine thenQ_n ?_ | with_reducible refine blockQ_n ?_ | refine AW_skip ?_ | refine AW_seq ?_ | refine AW_ops ?_ | refine AW_blockS ?_ | refine AW_blockR ?_ | refine AW_blockD ?_ | refine AW_blockC ?_ | refine AO_nil ?_ | refine AW_draw ?_ | refine AW_draw3 ?_ | refine AW_blockD3 ?_ | refine AHd_nil ?_ | ((first | with_reducible apply AO_pre | with_reducible apply AHd_pre); focus (simp only [Sm, wantedA, execA, stepA, List.getElem?_cons_zero, List.getElem?_cons_succ, if_true, if_false, binA, binInt, unA, eqA, Option.map, eq_self, reduceCtorEq, ite_true, ite_false, cellsAV, fitsAll, CK.fits, fillA, AV.cells, writeN, readN, sliceCells, appendA, lenA, i64, loA, hiA, Nat.reduceAdd, Nat.reduceMul, Nat.reduceDiv, Nat.reduceSub, Nat.reduceLeDiff, Nat.reduceLT, Int.reduceLE, Int.reduceLT, foldA, maxA, minA, Int.reduceBEq, Int.reduceBNe, Int.reduceGT, Int.reduceGE, Int.reduceEq, Int.reduceNe, Int.reduceToNat, AOp.stops, ↓want_eq, ↓exec_lenX, hp]; with_reducible rfl))))
    refine AW_cond (t := false) rfl (fun h => by cases h) fun _ => ?_
    (repeat (first | with_reducible refine thenQ_n ?_ | with_reducible refine blockQ_n ?_ | refine AW_skip ?_ | refine AW_seq ?_ | refine AW_ops ?_ | refine AW_blockS ?_ | refine AW_blockR ?_ | refine AW_blockD ?_ | refine AW_blockC ?_ | refine AO_nil ?_ | refine AW_draw ?_ | refine AW_draw3 ?_ | refine AW_blockD3 ?_ | refine AHd_nil ?_ | ((first | with_reducible apply AO_pre | with_reducible apply AHd_pre); focus (simp only [Sm, wantedA, execA, stepA, List.getElem?_cons_zero, List.getElem?_cons_succ, if_true, if_false, binA, binInt, unA, eqA, Option.map, eq_self, reduceCtorEq, ite_true, ite_false, cellsAV, fitsAll, CK.fits, fillA, AV.cells, writeN, readN, sliceCells, appendA, lenA, i64, loA, hiA, Nat.reduceAdd, Nat.reduceMul, Nat.reduceDiv, Nat.reduceSub, Nat.reduceLeDiff, Nat.reduceLT, Int.reduceLE, Int.reduceLT, foldA, maxA, minA, Int.reduceBEq, Int.reduceBNe, Int.reduceGT, Int.reduceGE, Int.reduceEq, Int.reduceNe, Int.reduceToNat, AOp.stops, ↓want_eq, ↓exec_lenX, hp, hl]; with_reducible rfl))))
    refine AW_ret ⟨_, rfl, ?_, rfl⟩
    simp only [Bool.false_eq_true, if_false, ge_iff_le, Int.ofNat_le]; rfl

theorem AC_feed_Total (hF : FeedAt H p x size lazy held total) : AC A H.length F_feed_Feed_Total [.c (.ptr p 0)] H (fun v H' => v = .c (.int .i64 (total : Int)) ∧ H = H') := by
  have hp := hcells_own hF.1
  refine AC_enter t_feed_Feed_Total ?_; simp only [c_feed_Feed_Total, enterA, List.replicate, List.length_cons, List.length_nil, Nat.reduceAdd, Nat.reduceSub, List.cons_append, List.nil_append]
  (repeat (first | with_reducible refine thenQ_n ?_ | with_reducible refine blockQ_n ?_ | refine AW_skip ?_ | refine AW_seq ?_ | refine AW_ops ?_ | refine AW_blockS ?_ | refine AW_blockR ?_ | refine AW_blockD ?_ | refine AW_blockC ?_ | refine AO_nil ?_ | refine AW_draw ?_ | refine AW_draw3 ?_ | refine AW_blockD3 ?_ | refine AHd_nil ?_ | ((first | with_reducible apply AO_pre | with_reducible apply AHd_pre); focus (simp only [Sm, wantedA, execA, stepA, List.getElem?_cons_zero, List.getElem?_cons_succ, if_true, if_false, binA, binInt, unA, eqA, Option.map, eq_self, reduceCtorEq, ite_true, ite_false, cellsAV, fitsAll, CK.fits, fillA, AV.cells, writeN, readN, sliceCells, appendA, lenA, i64, loA, hiA, Nat.reduceAdd, Nat.reduceMul, Nat.reduceDiv, Nat.reduceSub, Nat.reduceLeDiff, Nat.reduceLT, Int.reduceLE, Int.reduceLT, foldA, maxA, minA, Int.reduceBEq, Int.reduceBNe, Int.reduceGT, Int.reduceGE, Int.reduceEq, Int.reduceNe, Int.reduceToNat, AOp.stops, ↓want_eq, ↓exec_lenX, hp]; with_reducible rfl))))
  refine AW_cond (t := false) rfl (fun h => by cases h) fun _ => ?_
  (repeat (first | with_reducible refine thenQ_n ?_ | with_reducible refine blockQ_n ?_ | refine AW_skip ?_ | refine AW_seq ?_ | refine AW_ops ?_ | refine AW_blockS ?_ | refine AW_blockR ?_ | refine AW_blockD ?_ | refine AW_blockC ?_ | refine AO_nil ?_ | refine AW_draw ?_ | refine AW_draw3 ?_ | refine AW_blockD3 ?_ | refine AHd_nil ?_ | ((first | with_reducible apply AO_pre | with_reducible apply AHd_pre); focus (simp only [Sm, wantedA, execA, stepA, List.getElem?_cons_zero, List.getElem?_cons_succ, if_true, if_false, binA, binInt, unA, eqA, Option.map, eq_self, reduceCtorEq, ite_true, ite_false, cellsAV, fitsAll, CK.fits, fillA, AV.cells, writeN, readN, sliceCells, appendA, lenA, i64, loA, hiA, Nat.reduceAdd, Nat.reduceMul, Nat.reduceDiv, Nat.reduceSub, Nat.reduceLeDiff, Nat.reduceLT, Int.reduceLE, Int.reduceLT, foldA, maxA, minA, Int.reduceBEq, Int.reduceBNe, Int.reduceGT, Int.reduceGE, Int.reduceEq, Int.reduceNe, Int.reduceToNat, AOp.stops, ↓want_eq, ↓exec_lenX, hp]; with_reducible rfl))))
  exact AW_ret ⟨_, rfl, rfl, rfl⟩
theorem AC_feed_Rest (hF : FeedAt H p x size lazy held total) (hb : held.length ≤ 100000000000) : AC A H.length F_feed_Feed_Rest [.c (.ptr p 0)] H (fun v H' => v = .c (.slc H.length 0 held.length 1) ∧ H' = H ++ [.own (B8 held)]) := by
  have hp := hcells_own hF.1
  have hr := hF.2.1.rd.cells
  refine AC_enter t_feed_Feed_Rest ?_; simp only [c_feed_Feed_Rest, enterA, List.replicate, List.length_cons, List.length_nil, Nat.reduceAdd, Nat.reduceSub, List.cons_append, List.nil_append]
  (repeat (first | with_reducible refine thenQ_n ?_ | with_reducible refine blockQ_n ?_ | refine AW_skip ?_ | refine AW_seq ?_ | refine AW_ops ?_ | refine AW_blockS ?_ | refine AW_blockR ?_ | refine AW_blockD ?_ | refine AW_blockC ?_ | refine AO_nil ?_ | refine AW_draw ?_ | refine AW_draw3 ?_ | refine AW_blockD3 ?_ | refine AHd_nil ?_ | ((first | with_reducible apply AO_pre | with_reducible apply AHd_pre); focus (simp only [Sm, wantedA, execA, stepA, List.getElem?_cons_zero, List.getElem?_cons_succ, if_true, if_false, binA, binInt, unA, eqA, Option.map, eq_self, reduceCtorEq, ite_true, ite_false, cellsAV, fitsAll, CK.fits, fillA, AV.cells, writeN, readN, sliceCells, appendA, lenA, i64, loA, hiA, Nat.reduceAdd, Nat.reduceMul, Nat.reduceDiv, Nat.reduceSub, Nat.reduceLeDiff, Nat.reduceLT, Int.reduceLE, Int.reduceLT, foldA, maxA, minA, Int.reduceBEq, Int.reduceBNe, Int.reduceGT, Int.reduceGE, Int.reduceEq, Int.reduceNe, Int.reduceToNat, AOp.stops, ↓want_eq, ↓exec_lenX, hp]; with_reducible rfl))))
  refine AW_cond (t := false) rfl (fun h => by cases h) fun _ => ?_
  (repeat (first | with_reducible refine thenQ_n ?_ | with_reducible refine blockQ_n ?_ | refine AW_skip ?_ | refine AW_seq ?_ | refine AW_ops ?_ | refine AW_blockS ?_ | refine AW_blockR ?_ | refine AW_blockD ?_ | refine AW_blockC ?_ | refine AO_nil ?_ | refine AW_draw ?_ | refine AW_draw3 ?_ | refine AW_blockD3 ?_ | refine AHd_nil ?_ | ((first | with_reducible apply AO_pre | with_reducible apply AHd_pre); focus (simp only [Sm, wantedA, execA, stepA, List.getElem?_cons_zero, List.getElem?_cons_succ, if_true, if_false, binA, binInt, unA, eqA, Option.map, eq_self, reduceCtorEq, ite_true, ite_false, cellsAV, fitsAll, CK.fits, fillA, AV.cells, writeN, readN, sliceCells, appendA, lenA, i64, loA, hiA, Nat.reduceAdd, Nat.reduceMul, Nat.reduceDiv, Nat.reduceSub, Nat.reduceLeDiff, Nat.reduceLT, Int.reduceLE, Int.reduceLT, foldA, maxA, minA, Int.reduceBEq, Int.reduceBNe, Int.reduceGT, Int.reduceGE, Int.reduceEq, Int.reduceNe, Int.reduceToNat, AOp.stops, ↓want_eq, ↓exec_lenX, hp, ↓exec_appNil, appNil_one hr B8_length (show held.length * 1 ≤ 140737488355328 by omega)]; with_reducible rfl))))
  refine AW_ret ⟨_, rfl, rfl, rfl⟩
end
end PK
