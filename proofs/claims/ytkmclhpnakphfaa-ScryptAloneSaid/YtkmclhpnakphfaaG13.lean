/- Texts of this claim, put together: L25b L25c KPestlelaw25 L25d. -/
import Derived.Test.YtkmclhpnakphfaaG8
import Derived.Test.YtkmclhpnakphfaaG11
import Derived.Test.YtkmclhpnakphfaaG12
import Derived.Test.YtkmclhpnakphfaaG10
/- Package scrypt: rows, text, Key. -/
namespace PK
open Go PAbs
set_option linter.unusedSimpArgs false
set_option linter.unusedVariables false
set_option maxRecDepth 100000
set_option maxHeartbeats 4000000

def subT (B : List UInt8) (r i : Nat) : List UInt8 := (B.drop (128 * r * i)).take (128 * r)
def wrdT (B : List UInt8) (r i : Nat) : List Nat := wordsL ((subT B r i).map UInt8.toNat) 4 (32 * r)
def inT (B : List UInt8) (r : Nat) (rows : List (List Nat)) : Nat → List (List Nat)
  | 0 => rows
  | i + 1 => (inT B r rows i).set i (wrdT B r i)
def mixT (r p m : Nat) (rows : List (List Nat)) : Nat → List (List Nat)
  | 0 => rows
  | i + 1 => mixR r i p m (mixT r p m rows i)
def outT (r : Nat) (rows : List (List Nat)) (p : Nat) : List UInt8 := (joinN (fun i => flat (leB 4) (rows.getD i []) (32 * r)) p).map UInt8.ofNat
def scO (pw salt : List UInt8) (N m r p n : Nat) : List UInt8 :=
  kyO (maskO pw 54) (maskO pw 92) (outT r (mixT r p m (inT (kyO (maskO pw 54) (maskO pw 92) salt 0 (128 * r * p)) r (rowsO (List.replicate (N * 256) 0) (32 * r) (N * 256 / (32 * r))) p) p) p) 0 n
theorem subT_length {B : List UInt8} {r i p : Nat} (hB : B.length = 128 * r * p) (hi : i < p) : (subT B r i).length = 128 * r := by
  have : 128 * r * (i + 1) ≤ 128 * r * p := Nat.mul_le_mul_left _ hi
  rw [Nat.mul_add, Nat.mul_one] at this
  simp only [subT, List.length_take, List.length_drop]; omega
theorem W8_str (s : List UInt8) : (s.map fun u => Cell.int .u8 (u.toNat : Int)) = W8 (s.map UInt8.toNat) := by simp [W8, List.map_map, Function.comp_def]
theorem mapNat_lt (s : List UInt8) (k : Nat) : (s.map UInt8.toNat).getD k 0 < 256 := by
  rw [List.getD_eq_getElem?_getD, List.getElem?_map]
  cases h : s[k]? with
  | none => simp
  | some u => simpa using u.toNat_lt
theorem wrdT_row {B : List UInt8} {r i p : Nat} (hB : B.length = 128 * r * p) (hi : i < p) (h1 : 1 ≤ r) (h2 : r ≤ 512) : wrdT B r i = tk 4 id ((subT B r i).map UInt8.toNat) ((subT B r i).map UInt8.toNat).length ∧ Row r (wrdT B r i) := by
  have hl : ((subT B r i).map UInt8.toNat).length = 128 * r := by rw [List.length_map, subT_length hB hi]
  have e : wrdT B r i = tk 4 id ((subT B r i).map UInt8.toNat) ((subT B r i).map UInt8.toNat).length := by
    rw [tk_words (by omega) _ (mapNat_lt _) (by rw [hl]; omega), hl, wrdT]; congr 1; omega
  refine ⟨e, ?_, h1, h2, fun k => ?_⟩
  · rw [wrdT, wordsL_length]
  · rw [e]; exact tk_lt 4 id _ _ k

section
variable {so p a q n r R : Nat}

def rsI24 (so p a q n r R m : Nat) (B : List UInt8) (rows : List (List Nat)) (H0 : AHeap) (i : Nat) (fr : AFrame) (H : AHeap) : Prop := Chg (· = q) H0 H ∧ (∃ ws, StoreAt H so p a q n r R true ws ∧ rowsO ws (32 * r) R = inT B r rows i) ∧ (∃ s : Nat → AV, fr = [.c (.ptr so 0), .c (.str B), .c (.int .i64 (r : Int)), s 3, s 4, s 5, s 6, s 7, s 8, s 9, s 10, .c (.int .i64 (m : Int)), .c (.int .i64 (i : Int)), s 13, s 14, s 15, s 16, s 17, s 18, s 19, s 20, s 21, s 22, s 23, s 24, s 25, s 26, s 27, s 28, s 29, s 30, s 31, s 32, s 33, s 34, s 35])
theorem AC_scRows (fl : Nat) (H : AHeap) {ws : List Nat} (B : List UInt8) (m : Nat) (h : StoreAt H so p a q n r R true ws) (hf : fl ≤ q) (hB : B.length = 128 * r * m) (hm : m ≤ R) (hm2 : m ≤ 512) :
    AC A fl F_scrypt_rows [.c (.ptr so 0), .c (.str B), .c (.int .i64 (r : Int)), .c (.int .i64 (m : Int))] H (fun v H' => Chg (· = q) H H' ∧ ∃ ws', StoreAt H' so p a q n r R true ws' ∧ rowsO ws' (32 * r) R = inT B r (rowsO ws (32 * r) R) m) := by
  have hr1 := h.r1; have hr2 := h.r2
  have ql := hown_lt h.pc.blk
  have e1 : IntKind.i64.wrap (128 * (r : Int)) = ((128 * r : Nat) : Int) := by rw [i64_of (by omega) (by omega)]; omega
  refine AC_enter t_scrypt_rows ?_; simp only [c_scrypt_rows, enterA, List.replicate, List.length_cons, List.length_nil, Nat.reduceAdd, Nat.reduceSub, List.cons_append, List.nil_append]
  refine GO ?_
  refine AW_mid (fun e fr H' => e = .normal ∧ rsI24 so p a q n r R m B (rowsO ws (32 * r) R) H m fr H') ?_ ?_
  · refine AW_block (AW_up (rsI24 so p a q n r R m B (rowsO ws (32 * r) R) H) m ⟨Chg.refl _ _, ⟨ws, h, rfl⟩, stale _ _ rfl⟩ ?_)
    rintro i fr H2 hi ⟨c2, ⟨ws2, h2, hr⟩, st, rfl⟩
    have l2 := c2.1
    refine GO ?_
    refine AW_cond rfl ?_ ?_ <;> intro ht
    · have ht : (i : Int) < (m : Int) := of_decide_eq_true ht
      have hi2 : i < m := by omega
      obtain ⟨w1, w2⟩ := wrdT_row hB hi2 hr1 hr2
      have sl := subT_length hB hi2
      have hst : inT B r (rowsO ws (32 * r) R) (i + 1) = (inT B r (rowsO ws (32 * r) R) i).set i (wrdT B r i) := rfl
      have b1 : 128 * r * i ≤ 128 * r * m := Nat.mul_le_mul_left _ hi
      have b2 : 128 * r * (i + 1) ≤ 128 * r * m := Nat.mul_le_mul_left _ hi2
      have b3 : 128 * r * m ≤ 65536 * 512 := Nat.mul_le_mul (by omega) hm2
      have b4 : 128 * r * (i + 1) = 128 * r * i + 128 * r := Nat.mul_succ _ _
      have e2 : IntKind.i64.wrap (((128 * r : Nat) : Int) * (i : Int)) = ((128 * r * i : Nat) : Int) := by rw [← Int.natCast_mul]; exact i64_of (by omega) (by omega)
      have e3 := i64_succ (show i < 9223372036854775807 by omega)
      have e4 : IntKind.i64.wrap (((128 * r : Nat) : Int) * ((i + 1 : Nat) : Int)) = ((128 * r * (i + 1) : Nat) : Int) := by rw [← Int.natCast_mul]; exact i64_of (by omega) (by omega)
      have hsub : subT B r i = (B.drop (128 * r * i)).take (128 * r * (i + 1) - 128 * r * i) := by rw [subT]; congr 1; omega
      rw [← hB] at b1 b2
      generalize 128 * r * i = lo at *
      generalize 128 * r * (i + 1) = hi_ at *
      have d1 : (0 : Int) ≤ ((hi_ : Nat) : Int) ∧ ((hi_ : Nat) : Int) ≤ ((B.length : Nat) : Int) := ⟨by omega, by omega⟩
      have d3 : (0 : Int) ≤ ((lo : Nat) : Int) := by omega
      have d4 : lo ≤ hi_ := by omega
      (repeat (first | refine GOS ?_ | (with_reducible (first | apply AO_any | apply AHd_any | apply AP_go | apply AHP_go); focus (simp only [Sm, wantedA, execA, stepA, List.getElem?_cons_zero, List.getElem?_cons_succ, if_true, if_false, binA, binInt, unA, eqA, Option.map, eq_self, reduceCtorEq, ite_true, ite_false, cellsAV, fitsAll, CK.fits, fillA, AV.cells, writeN, sliceCells, appendA, lenA, i64, loA, hiA, Nat.reduceAdd, Nat.reduceMul, Nat.reduceDiv, Nat.reduceSub, Nat.reduceLeDiff, Nat.reduceLT, Int.reduceLE, Int.reduceLT, foldA, maxA, minA, Int.reduceBEq, Int.reduceBNe, Int.reduceGT, Int.reduceGE, Int.reduceEq, Int.reduceNe, Int.reduceToNat, AOp.stops, ↓want_eq, ↓exec_lenX, ↓exec_storeX, ↓exec_storeN, storeN_one, ↓exec_bsX, ↓exec_sliceX, ↓exec_copyX, ↓exec_appNil, ↓exec_carryX, Nat.sub_zero, rep_len, e1, e2, e3, e4, d1, d3, d4, Int.toNat_natCast]; with_reducible first | exact EqP.at_ | exact EqP.cont | exact EqP.hcont | exact EqP.gate | exact EqP.hgate))))
      rw [← hsub, W8_str]
      have y3 : Rd (H2 ++ [Blk.own (W8 ((subT B r i).map UInt8.toNat))]) (.slc H2.length 0 (subT B r i).length 1) 1 (W8 ((subT B r i).map UInt8.toNat)) := Rd.all (hcells_own hown_last) (by simp [W8])
      have k3 := Kept.push H2.length H2 [Blk.own (W8 ((subT B r i).map UInt8.toNat))]
      have l3 : (H2 ++ [Blk.own (W8 ((subT B r i).map UInt8.toNat))]).length = H2.length + 1 := by simp
      have h3 := h2.kept k3
      generalize H2 ++ [Blk.own (W8 ((subT B r i).map UInt8.toNat))] = H3 at *
      have ql3 := hown_lt h.pc.blk
      refine AO_call rfl ((AC_Take32 H3 _ _ y3 (by rw [List.length_map, sl]; omega) (mapNat_lt _)).kept (by have := hown_lt h2.pc.blk; omega)) ?_
      rintro _ H4 ⟨h4, k4⟩
      rcases h4 with ⟨hbad, _⟩ | ⟨_, x, rfl, o4⟩
      · rw [List.length_map, sl] at hbad; omega
      rw [← w1] at o4
      have h4 := h3.kept k4
      (repeat (first | refine GOS ?_ | (with_reducible (first | apply AO_any | apply AHd_any | apply AP_go | apply AHP_go); focus (simp only [Sm, wantedA, execA, stepA, List.getElem?_cons_zero, List.getElem?_cons_succ, if_true, if_false, binA, binInt, unA, eqA, Option.map, eq_self, reduceCtorEq, ite_true, ite_false, cellsAV, fitsAll, CK.fits, fillA, AV.cells, writeN, sliceCells, appendA, lenA, i64, loA, hiA, Nat.reduceAdd, Nat.reduceMul, Nat.reduceDiv, Nat.reduceSub, Nat.reduceLeDiff, Nat.reduceLT, Int.reduceLE, Int.reduceLT, foldA, maxA, minA, Int.reduceBEq, Int.reduceBNe, Int.reduceGT, Int.reduceGE, Int.reduceEq, Int.reduceNe, Int.reduceToNat, AOp.stops, ↓want_eq, ↓exec_lenX, ↓exec_storeX, ↓exec_storeN, storeN_one, ↓exec_bsX, ↓exec_sliceX, ↓exec_copyX, ↓exec_appNil, ↓exec_carryX, Nat.sub_zero, rep_len, e3]; with_reducible first | exact EqP.at_ | exact EqP.cont | exact EqP.hcont | exact EqP.gate | exact EqP.hgate))))
      refine AO_call rfl (AC_roPut fl H4 i x (wrdT B r i) h4 (by omega) o4.rd (fun hi => by have := o4.le hi; omega) w2.len w2.lt hf) ?_
      rintro _ H5 ⟨rfl, h5, c5, l5⟩
      (repeat (first | refine GOS ?_ | (with_reducible (first | apply AO_any | apply AHd_any | apply AP_go | apply AHP_go); focus (simp only [Sm, wantedA, execA, stepA, List.getElem?_cons_zero, List.getElem?_cons_succ, if_true, if_false, binA, binInt, unA, eqA, Option.map, eq_self, reduceCtorEq, ite_true, ite_false, cellsAV, fitsAll, CK.fits, fillA, AV.cells, writeN, sliceCells, appendA, lenA, i64, loA, hiA, Nat.reduceAdd, Nat.reduceMul, Nat.reduceDiv, Nat.reduceSub, Nat.reduceLeDiff, Nat.reduceLT, Int.reduceLE, Int.reduceLT, foldA, maxA, minA, Int.reduceBEq, Int.reduceBNe, Int.reduceGT, Int.reduceGE, Int.reduceEq, Int.reduceNe, Int.reduceToNat, AOp.stops, ↓want_eq, ↓exec_lenX, ↓exec_storeX, ↓exec_storeN, storeN_one, ↓exec_bsX, ↓exec_sliceX, ↓exec_copyX, ↓exec_appNil, ↓exec_carryX, Nat.sub_zero, rep_len, e3]; with_reducible first | exact EqP.at_ | exact EqP.cont | exact EqP.hcont | exact EqP.gate | exact EqP.hgate))))
      refine ⟨hi2, ((c2.trans (Chg.of_kept k3) (fun _ _ h => h.elim)).trans (Chg.of_kept k4) (fun _ _ h => h.elim)).trans c5 (fun _ _ h => h), ⟨_, h5, ?_⟩, stale _ _ rfl⟩
      rw [rowsO_put h4.room (by omega) w2.len, hr, hst]
    · obtain rfl : i = m := by have : ¬ (i : Int) < (m : Int) := of_decide_eq_false ht; omega
      exact AW_exit ⟨rfl, c2, ⟨ws2, h2, hr⟩, stale _ _ rfl⟩
  rintro e fr H2 ⟨rfl, c2, ⟨ws2, h2, hr⟩, st, rfl⟩
  refine GO ?_
  exact ⟨_, rfl, c2, ws2, h2, hr⟩

def txI24 (so r m : Nat) (rows : List (List Nat)) (H0 : AHeap) (i : Nat) (fr : AFrame) (H : AHeap) : Prop := Kept H0.length H0 H ∧ (∃ x, Own H0.length H x 1 (W8 (joinN (fun i => flat (leB 4) (rows.getD i []) (32 * r)) i)) ∧ (∃ s : Nat → AV, fr = [.c (.ptr so 0), s 1, s 2, s 3, s 4, .c x, s 6, s 7, s 8, .c (.int .i64 (m : Int)), .c (.int .i64 (i : Int)), s 11, s 12, s 13, s 14, s 15, s 16, s 17, s 18, s 19, s 20, s 21, s 22, s 23, s 24, s 25]))
theorem joinN_lt {rows : List (List Nat)} {r : Nat} : ∀ p, ∀ b ∈ joinN (fun i => flat (leB 4) (rows.getD i []) (32 * r)) p, b < 256
  | 0, b, hb => by simp [joinN] at hb
  | p + 1, b, hb => by
    rw [joinN, List.mem_append] at hb
    rcases hb with hb | hb
    · exact joinN_lt p b hb
    · have hf : ∀ n, ∀ b ∈ flat (leB 4) (rows.getD p []) n, b < 256 := by
        intro n
        induction n with
        | zero => intro b hb; simp [flat] at hb
        | succ n ih =>
          intro b hb
          rw [flat, List.mem_append] at hb
          rcases hb with hb | hb
          · exact ih b hb
          · simp only [leB, List.mem_map] at hb
            obtain ⟨i, _, rfl⟩ := hb
            exact Nat.mod_lt _ (by decide)
      exact hf _ b hb
theorem flat_len4 (xs : List Nat) (n : Nat) : (flat (leB 4) xs n).length = n * 4 := flat_length (fun w => by simp [leB]) xs n
theorem AC_scText (H : AHeap) {ws : List Nat} (m : Nat) (h : StoreAt H so p a q n r R true ws) (hm : m ≤ R) (hm2 : m ≤ 512) :
    AC A H.length F_scrypt_text [.c (.ptr so 0), .c (.int .i64 (m : Int))] H (fun v H' => v = .c (.str (outT r (rowsO ws (32 * r) R) m)) ∧ Kept H.length H H') := by
  refine AC.kept ?_ (Nat.le_refl _)
  have hr1 := h.r1; have hr2 := h.r2
  refine AC_enter t_scrypt_text ?_; simp only [c_scrypt_text, enterA, List.replicate, List.length_cons, List.length_nil, Nat.reduceAdd, Nat.reduceSub, List.cons_append, List.nil_append]
  refine GO ?_
  refine AW_mid (fun e fr H' => e = .normal ∧ txI24 so r m (rowsO ws (32 * r) R) H m fr H') ?_ ?_
  · refine AW_block (AW_up (txI24 so r m (rowsO ws (32 * r) R) H) m ⟨Kept.refl _ _, .snil, Own.nil, stale _ _ rfl⟩ ?_)
    rintro i fr H2 hi ⟨k2, x, hx, st, rfl⟩
    have l2 := k2.1
    refine GO ?_
    refine AW_cond rfl ?_ ?_ <;> intro ht
    · have ht : (i : Int) < (m : Int) := of_decide_eq_true ht
      have hi2 : i < m := by omega
      have h2 := h.kept k2
      have hrow := h.row (k := i) (by omega)
      refine GO ?_
      refine AO_call rfl ((AC_roRow H2 i h2 (by omega)).floor (by omega)) ?_
      rintro _ H3 ⟨⟨x7, rfl, o7⟩, k3⟩
      have l3 := k3.1
      refine GO ?_
      refine AO_call rfl ((AC_Little32 H3 x7 _ o7.rd (by rw [hrow.len]; omega)).kept (by omega)) ?_
      rintro _ H4 ⟨⟨x8, rfl, o8⟩, k4⟩
      have l4 := k4.1
      have hx4 := (hx.kept k3).kept k4
      have hjl : (joinN (fun i => flat (leB 4) ((rowsO ws (32 * r) R).getD i []) (32 * r)) i).length = i * (32 * r * 4) := joinN_length (fun i => flat_len4 _ _) i
      have hjs : joinN (fun i => flat (leB 4) ((rowsO ws (32 * r) R).getD i []) (32 * r)) (i + 1) = joinN (fun i => flat (leB 4) ((rowsO ws (32 * r) R).getD i []) (32 * r)) i ++ flat (leB 4) (rowO ws (32 * r) i) (rowO ws (32 * r) i).length := by
        rw [joinN, hrow.len]; congr 2; exact rowsO_getD (by omega)
      have hb1 : i * (32 * r * 4) ≤ 512 * 65536 := Nat.mul_le_mul (by omega) (by omega)
      have hfl := flat_len4 (rowO ws (32 * r) i) (rowO ws (32 * r) i).length
      rw [hrow.len] at hfl
      refine GO ?_
      refine AO_appendT (bytes := 1) (f := H.length) hx4.t o8.rd.cells rfl (by omega) (Nat.mod_one _) (Nat.le_refl _) (by omega) (by rw [W8_length, W8_length, hjl, hrow.len, hfl]; omega) rfl rfl ?_
      rintro q' n' H5 hq' hx5 c5
      have e5 : W8 (joinN (fun i => flat (leB 4) ((rowsO ws (32 * r) R).getD i []) (32 * r)) i) ++ W8 (flat (leB 4) (rowO ws (32 * r) i) (rowO ws (32 * r) i).length) = W8 (joinN (fun i => flat (leB 4) ((rowsO ws (32 * r) R).getD i []) (32 * r)) (i + 1)) := by rw [hjs]; simp [W8]
      rw [e5] at hx5
      (repeat (first | refine GOS ?_ | (with_reducible (first | apply AO_any | apply AHd_any | apply AP_go | apply AHP_go); focus (simp only [Sm, wantedA, execA, stepA, List.getElem?_cons_zero, List.getElem?_cons_succ, if_true, if_false, binA, binInt, unA, eqA, Option.map, eq_self, reduceCtorEq, ite_true, ite_false, cellsAV, fitsAll, CK.fits, fillA, AV.cells, writeN, sliceCells, appendA, lenA, i64, loA, hiA, Nat.reduceAdd, Nat.reduceMul, Nat.reduceDiv, Nat.reduceSub, Nat.reduceLeDiff, Nat.reduceLT, Int.reduceLE, Int.reduceLT, foldA, maxA, minA, Int.reduceBEq, Int.reduceBNe, Int.reduceGT, Int.reduceGE, Int.reduceEq, Int.reduceNe, Int.reduceToNat, AOp.stops, ↓want_eq, ↓exec_lenX, ↓exec_storeX, ↓exec_storeN, storeN_one, ↓exec_bsX, ↓exec_sliceX, ↓exec_copyX, ↓exec_appNil, ↓exec_carryX, Nat.sub_zero, rep_len, i64_succ (show i < 9223372036854775807 by omega)]; with_reducible first | exact EqP.at_ | exact EqP.cont | exact EqP.hcont | exact EqP.gate | exact EqP.hgate))))
      exact ⟨hi2, kept_app ((k2.trans (k3.mono l2)).trans (k4.mono (by omega))) hx4 c5, _, hx5, stale _ _ rfl⟩
    · obtain rfl : i = m := by have : ¬ (i : Int) < (m : Int) := of_decide_eq_false ht; omega
      exact AW_exit ⟨rfl, k2, x, hx, stale _ _ rfl⟩
  rintro e fr H2 ⟨rfl, k2, x, hx, st, rfl⟩
  rw [W8B8 (joinN_lt m)] at hx
  (repeat (first | refine GOS ?_ | (with_reducible (first | apply AO_any | apply AHd_any | apply AP_go | apply AHP_go); focus (simp only [Sm, wantedA, execA, stepA, List.getElem?_cons_zero, List.getElem?_cons_succ, if_true, if_false, binA, binInt, unA, eqA, Option.map, eq_self, reduceCtorEq, ite_true, ite_false, cellsAV, fitsAll, CK.fits, fillA, AV.cells, writeN, sliceCells, appendA, lenA, i64, loA, hiA, Nat.reduceAdd, Nat.reduceMul, Nat.reduceDiv, Nat.reduceSub, Nat.reduceLeDiff, Nat.reduceLT, Int.reduceLE, Int.reduceLT, foldA, maxA, minA, Int.reduceBEq, Int.reduceBNe, Int.reduceGT, Int.reduceGE, Int.reduceEq, Int.reduceNe, Int.reduceToNat, AOp.stops, ↓want_eq, ↓exec_lenX, ↓exec_storeX, ↓exec_storeN, storeN_one, ↓exec_bsX, ↓exec_sliceX, ↓exec_copyX, ↓exec_appNil, ↓exec_carryX, Nat.sub_zero, rep_len, bsX_rd hx.rd]; with_reducible first | exact EqP.at_ | exact EqP.cont | exact EqP.hcont | exact EqP.gate | exact EqP.hgate))))
  exact AW_ret ⟨_, rfl, rfl⟩
end
theorem pk_zerosT {n : Nat} : W64 (pk (List.replicate (n * 256) 0) n) = zB n := by
  have hg : ∀ k, (List.replicate (n * 256) 0).getD k 0 = 0 := fun k => by
    rw [List.getD_eq_getElem?_getD, List.getElem?_replicate]; split <;> rfl
  have : pk (List.replicate (n * 256) 0) n = List.replicate (n * 128) 0 := by
    apply List.ext_getElem (by rw [pk_length, List.length_replicate])
    intro i h1 h2
    simp only [pk, List.getElem_map, hg, List.getElem_replicate]
  rw [this, W64, zB, List.map_replicate]; rfl
theorem AC_pbkdfKey1 (H : AHeap) (w sx : List UInt8) (n : Nat) (hw : w.length ≤ 1000000) (hs : sx.length ≤ 1000000) (hn1 : 1 ≤ n) (hn : n ≤ 65536) :
    AC A H.length F_pbkdf_Key [.c (.str w), .c (.str sx), .c (.int .i64 1), .c (.int .i64 (n : Int))] H
      (fun v H' => v = .tup [.c (.str (kyO (maskO w 54) (maskO w 92) sx 0 n)), .c (.int .i64 0)] ∧ Kept H.length H H') := AC_pbkdfKey H w sx 0 n hw hs (by omega) hn1 hn


def kyI24 (pw : List UInt8) (l n so pc a q N r R p m : Nat) (rows : List (List Nat)) (H0 : AHeap) (i : Nat) (fr : AFrame) (H : AHeap) : Prop := Chg (· = q) H0 H ∧ (∃ ws, StoreAt H so pc a q N r R true ws ∧ rowsO ws (32 * r) R = mixT r p m rows i) ∧ (∃ s : Nat → AV, fr = [s 0, .c (.str pw), s 2, .c (.int .i64 (l : Int)), s 4, .c (.int .i64 (p : Int)), .c (.int .i64 (n : Int)), s 7, s 8, s 9, s 10, s 11, s 12, s 13, s 14, s 15, s 16, s 17, s 18, s 19, .c (.ptr so 0), s 21, s 22, s 23, s 24, s 25, s 26, s 27, s 28, s 29, s 30, s 31, s 32, s 33, s 34, s 35, s 36, s 37, s 38, s 39, s 40, s 41, s 42, s 43, s 44, s 45, s 46, s 47, s 48, s 49, s 50, s 51, s 52, s 53, s 54, s 55, s 56, s 57, s 58, s 59, s 60, s 61, s 62, s 63, s 64, s 65, s 66, s 67, s 68, s 69, s 70, s 71, s 72, s 73, s 74, .c (.int .i64 (p : Int)), .c (.int .i64 (i : Int)), s 77, s 78, s 79, s 80, s 81, s 82, s 83, s 84, s 85, s 86, s 87, s 88, s 89, s 90, s 91, s 92])
theorem AC_scKey_nil (H : AHeap) (pw salt : List UInt8) (l r p n : Nat) (hc : chkS l r p n) :
    AC A H.length F_scrypt_Key [.c .pnil, .c (.str pw), .c (.str salt), .c (.int .i64 (l : Int)), .c (.int .i64 (r : Int)), .c (.int .i64 (p : Int)), .c (.int .i64 (n : Int))] H (fun v H' => v = .tup [.c (.str []), .c (.int .i64 11)] ∧ Kept H.length H H') := by
  have hc1 : chkS l r p 1 := ⟨hc.1, hc.2.1, hc.2.2.1, hc.2.2.2.1, hc.2.2.2.2.1, by omega, by omega⟩
  refine AC.kept ?_ (Nat.le_refl _)
  refine AC_enter t_scrypt_Key ?_; simp only [c_scrypt_Key, enterA, List.replicate, List.length_cons, List.length_nil, Nat.reduceAdd, Nat.reduceSub, List.cons_append, List.nil_append]
  refine GO ?_
  refine AO_call rfl (AC_scCheck H.length H l r p n) ?_
  rintro _ _ ⟨rfl, rfl⟩
  rw [if_pos hc]
  refine GO ?_
  refine AO_call rfl (AC_scNeed H l r p hc1) ?_
  rintro _ H1 ⟨rfl, k1⟩
  refine GO ?_
  refine AO_call rfl (AC_arReserve_nil H.length H1 _) ?_
  rintro _ _ ⟨rfl, rfl⟩
  refine GO ?_
  exact AW_ret ⟨_, rfl, rfl⟩
theorem AC_scKey (fl : Nat) (H : AHeap) (a b u hh lt : Nat) (pw salt : List UInt8) (l r p n N m : Nat) (ho : hown H a = some (arC b u hh lt)) (hf : fl ≤ a) (hc : chkS l r p n) (hl4 : l ≤ 4) (hr3 : r ≤ 3) (hp3 : p ≤ 3) (hN : needO l r p = N) (hm : 2 ^ l = m)
    (hneed : N ≤ b - u) (hb : b ≤ 4194304) (hu : u ≤ b) (hhh : hh ≤ 4194304) (hlt : lt ≤ 900000) (hpw : pw.length ≤ 1000000) (hsa : salt.length ≤ 1000000) :
    AC A fl F_scrypt_Key [.c (.ptr a 0), .c (.str pw), .c (.str salt), .c (.int .i64 (l : Int)), .c (.int .i64 (r : Int)), .c (.int .i64 (p : Int)), .c (.int .i64 (n : Int))] H
      (fun v H' => v = .tup [.c (.str (scO pw salt N m r p n)), .c (.int .i64 0)] ∧ (∃ h', hown H' a = some (arC b u h' lt) ∧ h' ≤ 4194304) ∧ Chg (· = a) H H') := by
  have hc1 : chkS l r p 1 := ⟨hc.1, hc.2.1, hc.2.2.1, hc.2.2.2.1, hc.2.2.2.2.1, by omega, by omega⟩
  obtain ⟨c1, c2, c3, c4, c5, c6⟩ := id hc
  have hal := hown_lt ho
  have hm1 : 1 ≤ m := by rw [← hm]; exact Nat.two_pow_pos _
  have hm2 : m ≤ 16 := by rw [← hm]; have : 2 ^ l ≤ 2 ^ 4 := Nat.pow_le_pow_right (by omega) hl4; omega
  have hNv : N = upO (128 * r * (m + p + 2)) 1024 := by rw [← hN, needO, hm]
  have hb1 : 128 * r * (m + p + 2) ≤ 384 * 21 := Nat.mul_le_mul (by omega) (by omega)
  have hN2 : N ≤ 8 := by rw [hNv]; simp only [upO]; omega
  have hNR : m + p ≤ N * 256 / (32 * r) := by
    rw [Nat.le_div_iff_mul_le (by omega)]
    have e1 : 128 * r * (m + p + 2) ≤ N * 1024 := by rw [hNv]; simp only [upO]; omega
    have e2 : (m + p) * (32 * r) ≤ (m + p + 2) * (32 * r) := Nat.mul_le_mul_right _ (by omega)
    have e3 : 128 * r * (m + p + 2) = 4 * ((m + p + 2) * (32 * r)) := by
      rw [Nat.mul_comm (128 * r), show 128 * r = 4 * (32 * r) by omega, Nat.mul_left_comm]
    omega
  have hRb : N * 256 / (32 * r) ≤ 2048 := Nat.le_trans (Nat.div_le_self _ _) (by omega)
  refine AC_enter t_scrypt_Key ?_; simp only [c_scrypt_Key, enterA, List.replicate, List.length_cons, List.length_nil, Nat.reduceAdd, Nat.reduceSub, List.cons_append, List.nil_append]
  refine GO ?_
  refine AO_call rfl (AC_scCheck fl H l r p n) ?_
  rintro _ _ ⟨rfl, rfl⟩
  rw [if_pos hc]
  refine GO ?_
  refine AO_call rfl ((AC_scNeed H l r p hc1).floor (by omega)) ?_
  rintro _ H1 ⟨rfl, k1⟩
  rw [hN]
  have l1 := k1.1
  have o1 := (k1.hown hal hal).trans ho
  refine GO ?_
  refine AO_call rfl (AC_arReserve fl H1 a b u hh lt N o1 hf (by omega) hb hu hhh (by omega) hneed) ?_
  rintro _ H2 ⟨rfl, p2, o2, c2', l2⟩
  refine GO ?_
  refine AW_defers ?_
  refine GO ?_
  rw [← pk_zerosT] at p2
  have p2l := hown_lt p2.own
  have ha2 : a < H2.length := by omega
  refine AO_call rfl (AC_roNew fl H2 (H1.length + 1) a H1.length N r true (List.replicate (N * 256) 0) p2 (by simp) (fun k => by rw [List.getD_eq_getElem?_getD, List.getElem?_replicate]; split <;> decide) (by omega) (by omega) (by omega) ha2) ?_
  rintro _ H3 ⟨rfl, h3, k3, l3⟩
  have o3 := (k3.hown ha2 ha2).trans o2
  have e1 : IntKind.i64.wrap (128 * (r : Int)) = ((128 * r : Nat) : Int) := by rw [i64_of (by omega) (by omega)]; omega
  have hb2 : 128 * r * p ≤ 384 * 3 := Nat.mul_le_mul (by omega) (by omega)
  have hb3 : 1 * 1 ≤ 128 * r * p := Nat.mul_le_mul (by omega) (by omega)
  have e2 : IntKind.i64.wrap (((128 * r : Nat) : Int) * (p : Int)) = ((128 * r * p : Nat) : Int) := by rw [← Int.natCast_mul]; exact i64_of (by omega) (by omega)
  (repeat (first | refine GOS ?_ | (with_reducible (first | apply AO_any | apply AHd_any | apply AP_go | apply AHP_go); focus (simp only [Sm, wantedA, execA, stepA, List.getElem?_cons_zero, List.getElem?_cons_succ, if_true, if_false, binA, binInt, unA, eqA, Option.map, eq_self, reduceCtorEq, ite_true, ite_false, cellsAV, fitsAll, CK.fits, fillA, AV.cells, writeN, sliceCells, appendA, lenA, i64, loA, hiA, Nat.reduceAdd, Nat.reduceMul, Nat.reduceDiv, Nat.reduceSub, Nat.reduceLeDiff, Nat.reduceLT, Int.reduceLE, Int.reduceLT, foldA, maxA, minA, Int.reduceBEq, Int.reduceBNe, Int.reduceGT, Int.reduceGE, Int.reduceEq, Int.reduceNe, Int.reduceToNat, AOp.stops, ↓want_eq, ↓exec_lenX, ↓exec_storeX, ↓exec_storeN, storeN_one, ↓exec_bsX, ↓exec_sliceX, ↓exec_copyX, ↓exec_appNil, ↓exec_carryX, Nat.sub_zero, rep_len, e1, e2]; with_reducible first | exact EqP.at_ | exact EqP.cont | exact EqP.hcont | exact EqP.gate | exact EqP.hgate))))
  refine AO_call rfl ((AC_pbkdfKey1 H3 pw salt (128 * r * p) hpw hsa (by omega) (by omega)).floor (by omega)) ?_
  rintro _ H4 ⟨rfl, k4⟩
  have hB := kyO_length (maskO pw 54) (maskO pw 92) salt 0 (128 * r * p)
  have hsc : scO pw salt N m r p n = kyO (maskO pw 54) (maskO pw 92) (outT r (mixT r p m (inT (kyO (maskO pw 54) (maskO pw 92) salt 0 (128 * r * p)) r (rowsO (List.replicate (N * 256) 0) (32 * r) (N * 256 / (32 * r))) p) p) p) 0 n := rfl
  rw [hsc]
  generalize kyO (maskO pw 54) (maskO pw 92) salt 0 (128 * r * p) = B at *
  generalize hR : N * 256 / (32 * r) = R at *
  have h4 := h3.kept k4
  have o4 := (k4.hown (hown_lt o3) (hown_lt o3)).trans o3
  have l4 := k4.1
  refine GO ?_
  refine AO_call rfl (AC_scRows fl H4 B p h4 (by omega) hB (by omega) (by omega)) ?_
  rintro _ H5 ⟨c5', ws5, h5, hr5⟩
  have l5 := c5'.1
  have o5 := c5'.hown (show ¬ a = H1.length by omega) o4
  have ql := hown_lt h5.pc.blk
  generalize rowsO (List.replicate (N * 256) 0) (32 * r) R = rows0 at *
  refine GO ?_
  refine AW_mid (fun e fr H' => e = .normal ∧ kyI24 pw l n H2.length (H1.length + 1) a H1.length N r R p m (inT B r rows0 p) H5 p fr H') ?_ ?_
  · refine AW_block (AW_up (kyI24 pw l n H2.length (H1.length + 1) a H1.length N r R p m (inT B r rows0 p) H5) p ⟨Chg.refl _ _, ⟨ws5, h5, hr5⟩, stale _ _ rfl⟩ ?_)
    rintro i fr H6 hi ⟨c6', ⟨ws6, h6, hr6⟩, st, rfl⟩
    refine GO ?_
    refine AW_cond rfl ?_ ?_ <;> intro ht
    · have ht : (i : Int) < (p : Int) := of_decide_eq_true ht
      have hi2 : i < p := by omega
      refine GO ?_
      refine AO_call rfl (AC_roMix fl H6 i p m l h6 (by omega) (by rw [powO_small (by omega), hm]) hm1 (by omega) (by omega) (by omega) (by omega)) ?_
      rintro _ H7 ⟨rfl, c7, ws7, h7, hr7⟩
      (repeat (first | refine GOS ?_ | (with_reducible (first | apply AO_any | apply AHd_any | apply AP_go | apply AHP_go); focus (simp only [Sm, wantedA, execA, stepA, List.getElem?_cons_zero, List.getElem?_cons_succ, if_true, if_false, binA, binInt, unA, eqA, Option.map, eq_self, reduceCtorEq, ite_true, ite_false, cellsAV, fitsAll, CK.fits, fillA, AV.cells, writeN, sliceCells, appendA, lenA, i64, loA, hiA, Nat.reduceAdd, Nat.reduceMul, Nat.reduceDiv, Nat.reduceSub, Nat.reduceLeDiff, Nat.reduceLT, Int.reduceLE, Int.reduceLT, foldA, maxA, minA, Int.reduceBEq, Int.reduceBNe, Int.reduceGT, Int.reduceGE, Int.reduceEq, Int.reduceNe, Int.reduceToNat, AOp.stops, ↓want_eq, ↓exec_lenX, ↓exec_storeX, ↓exec_storeN, storeN_one, ↓exec_bsX, ↓exec_sliceX, ↓exec_copyX, ↓exec_appNil, ↓exec_carryX, Nat.sub_zero, rep_len, i64_succ (show i < 9223372036854775807 by omega)]; with_reducible first | exact EqP.at_ | exact EqP.cont | exact EqP.hcont | exact EqP.gate | exact EqP.hgate))))
      refine ⟨hi2, c6'.trans c7 (fun _ _ h => h), ⟨ws7, h7, ?_⟩, stale _ _ rfl⟩
      rw [hr7, hr6]; rfl
    · obtain rfl : i = p := by have : ¬ (i : Int) < (p : Int) := of_decide_eq_false ht; omega
      exact AW_exit ⟨rfl, c6', ⟨ws6, h6, hr6⟩, stale _ _ rfl⟩
  rintro e fr H6 ⟨rfl, c6', ⟨ws6, h6, hr6⟩, st, rfl⟩
  have l6 := c6'.1
  have o6 := c6'.hown (show ¬ a = H1.length by omega) o5
  refine GO ?_
  refine AO_call rfl ((AC_scText H6 p h6 (by omega) (by omega)).floor (by omega)) ?_
  rintro _ H7 ⟨rfl, k7⟩
  rw [hr6]
  have l7 := k7.1
  have o7 := (k7.hown (hown_lt o6) (hown_lt o6)).trans o6
  have h7 := h6.kept k7
  have htl : (outT r (mixT r p m (inT B r rows0 p) p) p).length = p * (32 * r * 4) := by rw [outT, List.length_map]; exact joinN_length (fun i => flat_len4 _ _) p
  have hb4 : p * (32 * r * 4) ≤ 3 * 384 := Nat.mul_le_mul (by omega) (by omega)
  generalize outT r (mixT r p m (inT B r rows0 p) p) p = tx at *
  refine GO ?_
  refine AO_call rfl ((AC_pbkdfKey1 H7 pw tx n hpw (by omega) (by omega) (by omega)).floor (by omega)) ?_
  rintro _ H8 ⟨rfl, k8⟩
  have l8 := k8.1
  have o8 := (k8.hown (hown_lt o7) (hown_lt o7)).trans o7
  have h8 := h7.kept k8
  refine GO ?_
  refine AW_ret ?_
  refine (AC_arRelease fl H8 a b (u + N) (max hh (u + N)) (lt + 1) (H1.length + 1) H1.length N _ o8 h8.pc hf (by omega) (by omega) (by omega) (by omega) (by omega) (by omega)).mono ?_
  rintro _ H9 ⟨rfl, o9, p9, c9⟩
  refine ⟨_, rfl, rfl, ⟨max hh (u + N), ?_, by omega⟩, ?_⟩
  · rw [show u + N - N = u by omega, show lt + 1 - 1 = lt by omega] at o9; exact o9
  · refine ⟨?_, fun b' hb1 hb2 => ?_⟩
    · have := c9.1; omega
    · rw [c9.2 b' (by omega) (by rintro (e | e | e); exact hb2 e; omega; omega), k8.2 b' (by omega) (by omega), k7.2 b' (by omega) (by omega), c6'.2 b' (by omega) (by omega), c5'.2 b' (by omega) (by omega), k4.2 b' (by omega) (by omega), k3.2 b' (by omega) (by omega), c2'.2 b' (by omega) hb2, k1.2 b' hb1 hb1]
end PK

/- The value of Key that the law's awake asks for: by stages. -/
namespace PK
open Go PAbs
set_option linter.unusedSimpArgs false
set_option linter.unusedVariables false
set_option maxRecDepth 1000000
set_option maxHeartbeats 4000000

def stV (r : Nat) (x : List Nat) : Nat → List Nat
  | 0 => x
  | i + 1 => mixW r (stV r x i)
theorem fillR_snd (r first : Nat) (rows : List (List Nat)) (x : List Nat) : ∀ i, (fillR r first rows x i).2 = stV r x i
  | 0 => rfl
  | i + 1 => by rw [fillR, stV, fillR_snd r first rows x i]
theorem fillR_len (r first : Nat) (rows : List (List Nat)) (x : List Nat) : ∀ i, (fillR r first rows x i).1.length = rows.length
  | 0 => rfl
  | i + 1 => by rw [fillR, List.length_set, fillR_len r first rows x i]
theorem fillR_get (r first : Nat) (rows : List (List Nat)) (x : List Nat) : ∀ i j, j < i → first + i ≤ rows.length → (fillR r first rows x i).1.getD (first + j) [] = stV r x j
  | 0, j, h, _ => by omega
  | i + 1, j, h, hl => by
    rw [fillR, List.getD_eq_getElem?_getD, List.getElem?_set]
    by_cases e : i = j
    · subst e; rw [if_pos rfl, if_pos (by rw [fillR_len]; omega), fillR_snd]; rfl
    · rw [if_neg (by omega), ← List.getD_eq_getElem?_getD]; exact fillR_get r first rows x i j (by omega) (by omega)
theorem turnR_step {r first m : Nat} {rows : List (List Nat)} {x x1 T T' Y : List Nat} {i j : Nat} (hl : first + m ≤ rows.length) (hm : 0 < m) (hT : turnR r first m (fillR r first rows x m).1 x1 i = T) (hj : intV r T % m = j) (hY : stV r x j = Y) (hs : mixW r (xorW T Y (32 * r)) = T') :
    turnR r first m (fillR r first rows x m).1 x1 (i + 1) = T' := by
  have hlt := Nat.mod_lt (intV r T) hm
  rw [turnR, hT, fillR_get r first rows x m _ hlt hl, hj, hY, hs]

def bL : List UInt8 := [247, 206, 11, 101, 61, 45, 114, 164, 16, 140, 245, 171, 233, 18, 255, 221, 119, 118, 22, 219, 187, 39, 167, 14, 130, 4, 243, 174, 45, 15, 111, 173, 137, 246, 143, 72, 17, 209, 232, 123, 204, 59, 215, 64, 10, 159, 253, 41, 9, 79, 1, 132, 99, 149, 116, 243, 154, 229, 161, 49, 82, 23, 188, 215, 137, 73, 145, 68, 114, 19, 187, 34, 108, 37, 181, 77, 168, 99, 112, 251, 205, 152, 67, 128, 55, 70, 102, 187, 143, 252, 181, 191, 64, 194, 84, 176, 103, 210, 124, 81, 206, 74, 213, 254, 216, 41, 201, 11, 80, 90, 87, 27, 127, 77, 28, 173, 106, 82, 60, 218, 119, 14, 103, 188, 234, 175, 126, 137]
def vL0 : List Nat := [1695272695, 2758946109, 2884996112, 3724481257, 3675682423, 245835707, 2935161986, 2909736749, 1217394313, 2078855441, 1087847372, 704487178, 2214678281, 4084503907, 832693658, 3619428178, 1150372233, 582685554, 1303717228, 4218446760, 2151913677, 3144042039, 3216374927, 2958344768, 1367134823, 4275391182, 197732824, 458709584, 2904313215, 3661386346, 3160870519, 2306781162]
def vL1 : List Nat := [2625970084, 2580285542, 3419046203, 99552258, 2166442756, 2100559266, 1662811133, 690972822, 1748056500, 3169241571, 3083168766, 3130420640, 281814244, 1551143212, 1030204708, 2173657543, 1976167712, 2827040818, 1291206661, 1020079382, 4269541153, 3797912927, 2400625841, 3078108821, 2151496573, 2883870779, 3851815314, 3058912667, 1478634077, 4126004599, 4055444612, 635760462]
def vL2 : List Nat := [1673557521, 4215741316, 1515745860, 987819372, 2787875166, 1722731898, 684584507, 3017474299, 3420994565, 3539366932, 151511251, 3701474900, 3764564954, 2701407961, 1349767263, 3716667148, 1194374842, 2250350105, 1471822144, 39998754, 2648627895, 2617236227, 4248370969, 2984627201, 1730096537, 1054892400, 1712620350, 955120501, 337048133, 4140291235, 1586658468, 3626984213]
def vL3 : List Nat := [2312346144, 3492843632, 218126960, 3648393592, 2215645902, 1194431623, 3308956541, 805671541, 2485784711, 2414428683, 56336863, 1770924174, 3916422203, 1555486518, 3696678743, 35140985, 1411402049, 2898419329, 3913581493, 349570283, 3093684119, 4219707528, 2312259166, 2724124674, 1587211943, 1754669839, 1330001001, 1465524566, 2310705846, 3802117366, 1752256807, 1526866470]
def vL4 : List Nat := [2528794853, 1333358016, 780698752, 2242357987, 2456357169, 2672715565, 1451336196, 3280027766, 3079195590, 1890836416, 95246443, 2783507405, 4026191450, 1800843912, 3686387713, 1846921375, 1708557706, 288245308, 232506708, 1670458399, 2506417865, 1561993187, 2669074693, 2871613523, 3414596002, 814431323, 2408415825, 3804306479, 2738994695, 3363831491, 464503039, 4201675]
def vL5 : List Nat := [1079732860, 1126325595, 1005814564, 3782197024, 2160210343, 2279407726, 3797736044, 661027523, 357915487, 3492775525, 1030478044, 2607282064, 49847652, 1674044380, 1455280661, 4172406738, 3036656438, 1279483997, 1361725876, 1367920170, 3187667286, 456110709, 3620088682, 357243228, 2639550146, 3029737124, 738399462, 1386702222, 1872349792, 802519172, 852263547, 1474699079]
def vL6 : List Nat := [3068627019, 956434183, 1508397823, 1097655757, 2585673235, 1242972812, 2892690473, 3679380397, 1883947915, 768757977, 1460523127, 2835242520, 812880174, 51357724, 2894608616, 2321873152, 2020985584, 728512555, 3298794567, 274948182, 391072146, 3642471607, 2134065188, 1759347620, 3297181826, 173370652, 3872073776, 3806526669, 1417692863, 3142316858, 28325162, 1437723945]
def vL7 : List Nat := [1218338794, 3540033105, 3331867278, 2969325277, 1242284674, 1734370105, 2254403945, 1907716094, 1552308031, 4121079791, 1723535638, 2622656923, 4056423588, 506242737, 3722736628, 3633349631, 1019789590, 59071599, 3515253240, 3879429543, 1301677028, 576050980, 3278784684, 3320293134, 1105172186, 3846060024, 50086476, 2725372168, 2979789945, 2132358308, 3310699651, 1797231568]
def vL8 : List Nat := [2722137378, 1500248818, 1947945554, 4230556679, 126957222, 2331488360, 1412389796, 4021618997, 3430253205, 3306310019, 925750148, 2728282547, 1179498821, 3330011361, 2977313437, 962814805, 4108972032, 854270506, 3058426024, 2594328661, 300339622, 2765058748, 4150871641, 3307305543, 737317561, 4076167237, 1185486014, 1202846874, 4195578853, 737833773, 44037367, 2228002775]
def vL9 : List Nat := [2823879942, 1234526313, 2153687713, 2397269279, 219905763, 2649719431, 3434361451, 656447557, 3609149005, 2678853794, 1489967008, 2967490219, 763728692, 2706002963, 2949574701, 2555346611, 1222752492, 4244814141, 40867858, 2921084796, 406228037, 3451930478, 2843289939, 1891762776, 3430360671, 824042050, 903768403, 1950727492, 1653639392, 2099761013, 3180926512, 3074428922]
def vL10 : List Nat := [4035971445, 1883409035, 857521662, 1056863557, 2336894916, 2825071055, 2341869111, 2444255840, 1497466184, 3225270033, 1342513956, 2077351670, 2913156639, 473469581, 3049666619, 110442237, 451651802, 1033913787, 420071850, 1284373353, 3703911529, 3732847981, 3102447244, 1844322147, 3533292794, 16831077, 3802759316, 2032206546, 577167959, 3609119216, 2222586615, 1514988345]
def vL11 : List Nat := [1758397096, 2463900911, 20603415, 3661673047, 4103917507, 791068145, 2939144102, 179493731, 86575061, 27672452, 4034310811, 2968927330, 1460888875, 2120916034, 2563607636, 2932240682, 2412863344, 3133280253, 2427864418, 4227891647, 1214253840, 276165973, 1179017802, 242280165, 3353991073, 333864887, 87138870, 1087399440, 3446092442, 3310945329, 1676685481, 3519645778]
def vL12 : List Nat := [2274580950, 537508854, 464677375, 3342388989, 1727828241, 469448371, 3906005039, 2852865864, 2734887232, 113842305, 2081415763, 2083226973, 1795779882, 2699451254, 3355424096, 540954627, 2902161496, 4239598035, 3313249477, 1768053084, 4179186101, 3682965816, 3877981277, 1741908927, 3814466612, 723449332, 3893080685, 3255830209, 2054911790, 4040385540, 3417972472, 406162526]
def vL13 : List Nat := [676796954, 1846385271, 3416223519, 2142587759, 4200502963, 255974086, 4099449234, 1022182763, 1893057340, 3229570186, 51766831, 248229737, 3002745721, 965731146, 2207471742, 2463005943, 3136274289, 4144584832, 985564813, 3527417176, 1103418572, 2661311622, 883561823, 3754904323, 1054199102, 742286473, 3930415199, 973300436, 4291457740, 1748552996, 2679522713, 1181045810]
def vL14 : List Nat := [175768209, 3183064815, 2032689037, 79455037, 1178275607, 952008333, 1350463179, 2353323089, 3391329853, 189112016, 2265371784, 4099161631, 257963636, 720338784, 1099216199, 1085070978, 503519196, 853421627, 1690955870, 1103766704, 1634913047, 3777361072, 3060674377, 2150661838, 3720828585, 995211383, 2060440901, 15277976, 2842125190, 2773247051, 1719883337, 700501247]
def vL15 : List Nat := [2913794699, 1159824026, 3640027400, 3997225121, 2278137064, 2924478448, 2111040701, 3129898832, 2502356841, 1146297684, 1706710304, 682761781, 1500380589, 559833001, 2712772596, 1489005574, 2745812126, 139022323, 2842368152, 293690183, 3163041300, 1526740303, 1320496697, 2879775863, 3142123654, 3537148006, 3507892492, 1868461614, 837435436, 3178222257, 599850552, 2611421238]
def vL16 : List Nat := [1166298878, 4108673807, 3802044658, 1482636923, 1428601080, 2033832974, 1811307944, 2173391228, 3277904002, 4119441475, 375392581, 2977198936, 845714037, 3250761980, 3720772994, 2835748027, 84978020, 3803637973, 4293369755, 854624992, 3729046390, 1630496256, 3634924534, 3499267088, 2140262613, 3471167455, 2647917258, 2830772042, 2272119268, 3337597186, 805213182, 4245448413]
def tL0 : List Nat := [1166298878, 4108673807, 3802044658, 1482636923, 1428601080, 2033832974, 1811307944, 2173391228, 3277904002, 4119441475, 375392581, 2977198936, 845714037, 3250761980, 3720772994, 2835748027, 84978020, 3803637973, 4293369755, 854624992, 3729046390, 1630496256, 3634924534, 3499267088, 2140262613, 3471167455, 2647917258, 2830772042, 2272119268, 3337597186, 805213182, 4245448413]
def tL1 : List Nat := [1169934917, 516717403, 1758267036, 264641848, 3780397501, 1984345399, 1411670451, 3898194884, 2950602554, 1346453314, 3260754376, 1316402758, 2607778713, 694813741, 2834058007, 1298042863, 3471132738, 1221372921, 2190937170, 2909558304, 2546417801, 2395795120, 2134697509, 1230570605, 2487347415, 211634868, 3045283432, 3580550551, 1865682343, 617214094, 1555928660, 1521432067]
def tL2 : List Nat := [1056622828, 3671680833, 1465977986, 1424004545, 1533165202, 3040658817, 2284173970, 684421114, 705389080, 3185761348, 864737517, 2475412676, 1830085936, 879434677, 1856403851, 524820513, 2388429781, 4099096991, 2834559611, 4140578939, 3303986582, 2707626612, 701646379, 2559184901, 1945163638, 2821441321, 1127622512, 299263739, 2699070227, 338839893, 3519390057, 259673862]
def tL3 : List Nat := [1925966342, 3514342095, 790687511, 2335139830, 206995103, 3831061024, 2783287954, 4070868848, 3585751695, 3116496970, 2027685149, 3018457163, 2434678395, 3944446261, 3815415858, 423968226, 4023834167, 90878970, 1597697545, 4020511567, 494816939, 585764696, 3180136952, 2725501847, 3848904517, 373964385, 1113207777, 169701240, 2946036464, 1541075444, 2126132159, 1140138780]
def tL4 : List Nat := [3632174251, 19915996, 1298809971, 1758603780, 3539135844, 101106435, 198115358, 72837348, 3232249675, 2498358392, 1195282680, 2509312866, 2778012275, 478818427, 587345533, 3792739651, 3464339081, 966554529, 141642266, 546218219, 3575541439, 2063318736, 1880044436, 2927156803, 2533930955, 1879964078, 3488262676, 3163637088, 461866830, 2341897345, 1151552297, 2512033231]
def tL5 : List Nat := [2171707384, 3125932472, 2925192014, 614490034, 1346334164, 86974490, 1045953203, 286699808, 4058914390, 841636135, 4068473952, 2746387456, 1573234653, 3419398574, 3501149243, 1920524295, 3210976225, 2560189866, 40618734, 3689956108, 892625548, 100648637, 749023316, 3936307571, 3880168069, 718082827, 1380686577, 2493079332, 312146739, 534748293, 1051797104, 3928866436]
def tL6 : List Nat := [3190718768, 3657272595, 2970972797, 104511428, 1990902975, 2743536500, 356620813, 3852823050, 2448002730, 1880921161, 3510320369, 2910051826, 274496332, 2203998548, 414122376, 3480655768, 3842768135, 3595096851, 754411529, 3784128581, 4283319126, 3617284044, 4086533038, 2856876410, 3613199229, 2860860777, 3500191242, 200085765, 814470896, 1483521403, 2664447742, 1591160033]
def tL7 : List Nat := [2369921542, 2995180808, 852798946, 1393931123, 1231961293, 2091764832, 2622535123, 3640509514, 2047576721, 78241328, 3164031746, 435518, 3726453182, 4144734476, 90153213, 2591240274, 3604190322, 2641825699, 787586407, 861700879, 3780478961, 3989387236, 1822382253, 842013407, 909726559, 3025554175, 1295239969, 3385339905, 1820219992, 529604690, 272101708, 1570763620]
def tL8 : List Nat := [1905192790, 1735386967, 3801976275, 3947958202, 3877083510, 934069175, 3137607366, 977870727, 1941430790, 3060557839, 4247568598, 2450048188, 987565841, 3613975070, 2163035567, 3346764563, 2074166221, 592722708, 1793464702, 488381721, 2708772457, 1734330646, 1262807121, 3287962843, 450749473, 20547768, 817312665, 3499706540, 137776478, 1908576168, 1046272646, 3359552335]
def tL9 : List Nat := [1935249631, 3639170062, 2216510981, 4025905232, 3071859920, 2275408866, 3159628566, 2485777707, 3660552161, 4196704655, 2558100142, 3612476835, 1133320977, 1504406627, 3182692260, 4188877489, 2871452466, 2074339035, 204095709, 620706929, 3509586955, 782679394, 283876156, 2496692384, 1393444856, 1280759888, 3022465520, 2689084923, 728684269, 88883497, 3654639129, 3187332658]
def tL10 : List Nat := [1251832486, 4151999668, 2605679261, 2916672845, 3028414581, 1585699701, 2255275522, 2450483684, 3212837264, 1111051435, 2466152502, 1334819730, 492996362, 3820628672, 4239279057, 4275703844, 739742859, 1964670309, 2485276574, 2996107587, 2517725599, 2495890582, 3743622224, 922262302, 1746757290, 4053797003, 3687866436, 2113456762, 2135103424, 1152616690, 3489573546, 2044175463]
def tL11 : List Nat := [3390466813, 467102308, 2728049122, 1121807332, 3908047873, 3130204819, 154599451, 2817784715, 901582117, 3415514263, 2150656631, 3895263893, 593391810, 4149268664, 2078503516, 994868574, 2751985418, 1970397813, 747088711, 4283987755, 2406398308, 2754287313, 2255936045, 121733354, 3750388168, 2910182629, 2344732717, 3746857210, 3605428276, 2664357425, 4026332995, 4222387014]
def tL12 : List Nat := [2777876233, 3142422673, 1657110720, 3536620707, 1029520051, 356587298, 1364956492, 191049610, 1439921143, 651620776, 966765492, 2415256939, 3037440167, 167464578, 923136336, 3708732373, 3257037034, 1845043061, 2286893444, 3343572240, 3682381336, 3103526489, 387417101, 2906807680, 1891573645, 3221840811, 3989910313, 4119728586, 3706700682, 2134878417, 181985363, 2971196678]
def tL13 : List Nat := [304416160, 332510865, 680278423, 3363223729, 3024887309, 2038501808, 2181093095, 3084179516, 1274653575, 2355394721, 239948247, 1893965545, 4181382380, 4257382732, 2582529041, 2171226171, 1396256063, 3789417117, 1911712706, 3732706994, 2550624404, 1362917314, 800874616, 3288628925, 3938347360, 1434216382, 2111373528, 2761162079, 4144390330, 80222799, 196673456, 2889788929]
def tL14 : List Nat := [2852861179, 3111543654, 640691961, 1699934051, 3273973455, 720107564, 3054195499, 106526886, 2742771109, 1141979615, 54298140, 1411761090, 1283252005, 2504923507, 501684155, 3501133598, 3600423197, 2670320893, 1969694509, 4005023451, 2721752403, 4221210933, 1704353360, 3998784688, 1887611396, 3306858818, 2606664260, 3850559611, 287571145, 3314616684, 2138988438, 3624370214]
def tL15 : List Nat := [3562047289, 2602583622, 1434985627, 2488825531, 2994817474, 2574665318, 663774801, 175672453, 1330445184, 1452628514, 951275838, 770266442, 2900956106, 3338180508, 2321486237, 2588488245, 262923426, 776432019, 3117837516, 1768631806, 2626052128, 608495151, 1079741095, 2109408898, 3689378532, 408379032, 685194277, 1861783464, 3511478683, 1298698313, 2369371889, 1371322442]
def tL16 : List Nat := [2478951545, 3404438882, 1879801604, 3069594464, 1256055596, 1440949910, 2556558586, 1177283302, 1729332437, 699439419, 1472423382, 649338720, 3153375904, 2683175074, 2614182666, 1906055767, 3863089647, 1864784477, 746834653, 2091556837, 4053535660, 3405720510, 3993046320, 3290003000, 1157436078, 2684613176, 2126832100, 528880835, 3414659150, 1751791923, 3539593331, 2387319379]
def oL : List UInt8 := [121, 204, 193, 147, 98, 157, 235, 202, 4, 127, 11, 112, 96, 75, 246, 182, 44, 227, 221, 74, 150, 38, 227, 85, 250, 252, 97, 152, 230, 234, 43, 70, 213, 132, 19, 103, 59, 153, 176, 41, 214, 101, 195, 87, 96, 31, 180, 38, 160, 178, 244, 187, 162, 0, 238, 159, 10, 67, 209, 155, 87, 26, 156, 113, 239, 17, 66, 230, 93, 90, 38, 111, 221, 202, 131, 44, 229, 159, 170, 124, 172, 11, 156, 241, 190, 43, 255, 202, 48, 13, 1, 238, 56, 118, 25, 196, 174, 18, 253, 68, 56, 242, 3, 160, 228, 225, 196, 126, 195, 20, 134, 31, 78, 144, 135, 203, 51, 57, 106, 104, 115, 232, 249, 210, 83, 154, 75, 142]
theorem bL_of : kyO (maskO [] 54) (maskO [] 92) [] 0 128 = bL := by
  rw [← kyO_of (n := 128) (i := 4) _ _ _ _ (by decide) (by decide)]; decide +kernel
theorem vL0_of : wrdT bL 1 0 = vL0 := by decide +kernel
theorem mV0 : mixW 1 vL0 = vL1 := by decide +kernel
theorem mV1 : mixW 1 vL1 = vL2 := by decide +kernel
theorem mV2 : mixW 1 vL2 = vL3 := by decide +kernel
theorem mV3 : mixW 1 vL3 = vL4 := by decide +kernel
theorem mV4 : mixW 1 vL4 = vL5 := by decide +kernel
theorem mV5 : mixW 1 vL5 = vL6 := by decide +kernel
theorem mV6 : mixW 1 vL6 = vL7 := by decide +kernel
theorem mV7 : mixW 1 vL7 = vL8 := by decide +kernel
theorem mV8 : mixW 1 vL8 = vL9 := by decide +kernel
theorem mV9 : mixW 1 vL9 = vL10 := by decide +kernel
theorem mV10 : mixW 1 vL10 = vL11 := by decide +kernel
theorem mV11 : mixW 1 vL11 = vL12 := by decide +kernel
theorem mV12 : mixW 1 vL12 = vL13 := by decide +kernel
theorem mV13 : mixW 1 vL13 = vL14 := by decide +kernel
theorem mV14 : mixW 1 vL14 = vL15 := by decide +kernel
theorem mV15 : mixW 1 vL15 = vL16 := by decide +kernel
theorem sV0 : stV 1 vL0 0 = vL0 := rfl
theorem sV1 : stV 1 vL0 1 = vL1 := by rw [stV, sV0, mV0]
theorem sV2 : stV 1 vL0 2 = vL2 := by rw [stV, sV1, mV1]
theorem sV3 : stV 1 vL0 3 = vL3 := by rw [stV, sV2, mV2]
theorem sV4 : stV 1 vL0 4 = vL4 := by rw [stV, sV3, mV3]
theorem sV5 : stV 1 vL0 5 = vL5 := by rw [stV, sV4, mV4]
theorem sV6 : stV 1 vL0 6 = vL6 := by rw [stV, sV5, mV5]
theorem sV7 : stV 1 vL0 7 = vL7 := by rw [stV, sV6, mV6]
theorem sV8 : stV 1 vL0 8 = vL8 := by rw [stV, sV7, mV7]
theorem sV9 : stV 1 vL0 9 = vL9 := by rw [stV, sV8, mV8]
theorem sV10 : stV 1 vL0 10 = vL10 := by rw [stV, sV9, mV9]
theorem sV11 : stV 1 vL0 11 = vL11 := by rw [stV, sV10, mV10]
theorem sV12 : stV 1 vL0 12 = vL12 := by rw [stV, sV11, mV11]
theorem sV13 : stV 1 vL0 13 = vL13 := by rw [stV, sV12, mV12]
theorem sV14 : stV 1 vL0 14 = vL14 := by rw [stV, sV13, mV13]
theorem sV15 : stV 1 vL0 15 = vL15 := by rw [stV, sV14, mV14]
theorem sV16 : stV 1 vL0 16 = vL16 := by rw [stV, sV15, mV15]
theorem jT0 : intV 1 tL0 % 16 = 4 := by decide +kernel
theorem mT0 : mixW 1 (xorW tL0 vL4 (32 * 1)) = tL1 := by decide +kernel
theorem jT1 : intV 1 tL1 % 16 = 2 := by decide +kernel
theorem mT1 : mixW 1 (xorW tL1 vL2 (32 * 1)) = tL2 := by decide +kernel
theorem jT2 : intV 1 tL2 % 16 = 5 := by decide +kernel
theorem mT2 : mixW 1 (xorW tL2 vL5 (32 * 1)) = tL3 := by decide +kernel
theorem jT3 : intV 1 tL3 % 16 = 7 := by decide +kernel
theorem mT3 : mixW 1 (xorW tL3 vL7 (32 * 1)) = tL4 := by decide +kernel
theorem jT4 : intV 1 tL4 % 16 = 9 := by decide +kernel
theorem mT4 : mixW 1 (xorW tL4 vL9 (32 * 1)) = tL5 := by decide +kernel
theorem jT5 : intV 1 tL5 % 16 = 1 := by decide +kernel
theorem mT5 : mixW 1 (xorW tL5 vL1 (32 * 1)) = tL6 := by decide +kernel
theorem jT6 : intV 1 tL6 % 16 = 7 := by decide +kernel
theorem mT6 : mixW 1 (xorW tL6 vL7 (32 * 1)) = tL7 := by decide +kernel
theorem jT7 : intV 1 tL7 % 16 = 2 := by decide +kernel
theorem mT7 : mixW 1 (xorW tL7 vL2 (32 * 1)) = tL8 := by decide +kernel
theorem jT8 : intV 1 tL8 % 16 = 13 := by decide +kernel
theorem mT8 : mixW 1 (xorW tL8 vL13 (32 * 1)) = tL9 := by decide +kernel
theorem jT9 : intV 1 tL9 % 16 = 2 := by decide +kernel
theorem mT9 : mixW 1 (xorW tL9 vL2 (32 * 1)) = tL10 := by decide +kernel
theorem jT10 : intV 1 tL10 % 16 = 11 := by decide +kernel
theorem mT10 : mixW 1 (xorW tL10 vL11 (32 * 1)) = tL11 := by decide +kernel
theorem jT11 : intV 1 tL11 % 16 = 10 := by decide +kernel
theorem mT11 : mixW 1 (xorW tL11 vL10 (32 * 1)) = tL12 := by decide +kernel
theorem jT12 : intV 1 tL12 % 16 = 10 := by decide +kernel
theorem mT12 : mixW 1 (xorW tL12 vL10 (32 * 1)) = tL13 := by decide +kernel
theorem jT13 : intV 1 tL13 % 16 = 15 := by decide +kernel
theorem mT13 : mixW 1 (xorW tL13 vL15 (32 * 1)) = tL14 := by decide +kernel
theorem jT14 : intV 1 tL14 % 16 = 13 := by decide +kernel
theorem mT14 : mixW 1 (xorW tL14 vL13 (32 * 1)) = tL15 := by decide +kernel
theorem jT15 : intV 1 tL15 % 16 = 2 := by decide +kernel
theorem mT15 : mixW 1 (xorW tL15 vL2 (32 * 1)) = tL16 := by decide +kernel
theorem oL_of : (flat (leB 4) tL16 (32 * 1)).map UInt8.ofNat = oL := by decide +kernel
theorem fL_of : (kyO (maskO [] 54) (maskO [] 92) oL 0 64).take 8 = [119, 214, 87, 98, 56, 101, 123, 32] := by
  rw [← kyO_of (n := 64) (i := 2) _ _ _ _ (by decide) (by decide)]; decide +kernel
theorem turned {rows : List (List Nat)} (hl : 17 ≤ rows.length) : turnR 1 1 16 (fillR 1 1 rows vL0 16).1 tL0 16 = tL16 := by
  have h0 : turnR 1 1 16 (fillR 1 1 rows vL0 16).1 tL0 0 = tL0 := rfl
  have h1 := turnR_step (r := 1) (first := 1) (m := 16) (by omega) (by decide) h0 jT0 sV4 mT0
  have h2 := turnR_step (r := 1) (first := 1) (m := 16) (by omega) (by decide) h1 jT1 sV2 mT1
  have h3 := turnR_step (r := 1) (first := 1) (m := 16) (by omega) (by decide) h2 jT2 sV5 mT2
  have h4 := turnR_step (r := 1) (first := 1) (m := 16) (by omega) (by decide) h3 jT3 sV7 mT3
  have h5 := turnR_step (r := 1) (first := 1) (m := 16) (by omega) (by decide) h4 jT4 sV9 mT4
  have h6 := turnR_step (r := 1) (first := 1) (m := 16) (by omega) (by decide) h5 jT5 sV1 mT5
  have h7 := turnR_step (r := 1) (first := 1) (m := 16) (by omega) (by decide) h6 jT6 sV7 mT6
  have h8 := turnR_step (r := 1) (first := 1) (m := 16) (by omega) (by decide) h7 jT7 sV2 mT7
  have h9 := turnR_step (r := 1) (first := 1) (m := 16) (by omega) (by decide) h8 jT8 sV13 mT8
  have h10 := turnR_step (r := 1) (first := 1) (m := 16) (by omega) (by decide) h9 jT9 sV2 mT9
  have h11 := turnR_step (r := 1) (first := 1) (m := 16) (by omega) (by decide) h10 jT10 sV11 mT10
  have h12 := turnR_step (r := 1) (first := 1) (m := 16) (by omega) (by decide) h11 jT11 sV10 mT11
  have h13 := turnR_step (r := 1) (first := 1) (m := 16) (by omega) (by decide) h12 jT12 sV10 mT12
  have h14 := turnR_step (r := 1) (first := 1) (m := 16) (by omega) (by decide) h13 jT13 sV15 mT13
  have h15 := turnR_step (r := 1) (first := 1) (m := 16) (by omega) (by decide) h14 jT14 sV13 mT14
  have h16 := turnR_step (r := 1) (first := 1) (m := 16) (by omega) (by decide) h15 jT15 sV2 mT15
  exact h16
theorem scO_awake : (scO [] [] 3 16 1 1 64).take 8 = [119, 214, 87, 98, 56, 101, 123, 32] := by
  have h : outT 1 (mixT 1 1 16 (inT bL 1 (rowsO (List.replicate (3 * 256) 0) (32 * 1) (3 * 256 / (32 * 1))) 1) 1) 1 = oL := by
    generalize hr : rowsO (List.replicate (3 * 256) 0) (32 * 1) (3 * 256 / (32 * 1)) = rows0
    have hl : rows0.length = 24 := by rw [← hr, rowsO_length]
    have e1 : inT bL 1 rows0 1 = rows0.set 0 vL0 := by rw [inT, vL0_of]; rfl
    have e2 : (rows0.set 0 vL0).getD 0 [] = vL0 := by rw [List.getD_eq_getElem?_getD, List.getElem?_set, if_pos rfl, if_pos (by omega)]; rfl
    have e3 : mixT 1 1 16 (rows0.set 0 vL0) 1 = mixR 1 0 1 16 (rows0.set 0 vL0) := rfl
    have hl2 : (rows0.set 0 vL0).length = 24 := by rw [List.length_set, hl]
    rw [e1, e3, mixR, e2, fillR_snd, sV16]
    generalize rows0.set 0 vL0 = rows at *
    have e5 := turned (rows := rows) (by omega)
    have e6 : vL16 = tL0 := by decide +kernel
    rw [e6, e5]
    have e7 := fillR_len 1 1 rows vL0 16
    generalize (fillR 1 1 rows vL0 16).1 = rs at *
    have e4 : (rs.set 0 tL16).getD 0 [] = tL16 := by rw [List.getD_eq_getElem?_getD, List.getElem?_set, if_pos rfl, if_pos (by omega)]; rfl
    rw [outT, joinN, joinN, List.nil_append, e4, oL_of]
  rw [scO, show 128 * 1 * 1 = 128 from rfl, bL_of, h, fL_of]
end PK

/- Package pestlelaw25 as code of the abstract machine. -/
namespace PK
open Go PAbs

noncomputable def c_pestlelaw25_ScryptAlone : AFn := AFn.mk 168 [.tmp 14]
  (.seq (.region
      [⟨some 14, .mv (.k (.c (.bool false))), none⟩])
  (.seq (.seq (.region
        [⟨some 29, .call F_pestlelaw25_awake [], none⟩,
          ⟨some 30, .un .not (.t 29), none⟩])
    (.cond (.t 30)
      (.seq (.region
          [⟨some 14, .mv (.k (.c (.bool false))), none⟩])
      (.ret))
      (.skip)))
  (.seq (.seq (.region
        [⟨some 31, .mv (.t 0), none⟩,
          ⟨some 32, .bin .lss (.t 31) (.k (.c (.int .i64 0))), none⟩,
          ⟨some 33, .mv (.t 32), none⟩,
          ⟨some 34, .mv (.t 0), some (33, false)⟩,
          ⟨some 35, .bin .gtr (.t 34) (.k (.c (.int .i64 1000))), some (33, false)⟩,
          ⟨some 36, .pick (.t 33) (.k (.c (.bool true))) (.t 35), none⟩,
          ⟨some 37, .mv (.t 36), none⟩,
          ⟨some 38, .mv (.t 1), some (37, false)⟩,
          ⟨some 39, .len true (.t 38), some (37, false)⟩,
          ⟨some 40, .bin .gtr (.t 39) (.k (.c (.int .i64 200))), some (37, false)⟩,
          ⟨some 41, .pick (.t 37) (.k (.c (.bool true))) (.t 40), none⟩,
          ⟨some 42, .mv (.t 41), none⟩,
          ⟨some 43, .mv (.t 2), some (42, false)⟩,
          ⟨some 44, .len true (.t 43), some (42, false)⟩,
          ⟨some 45, .bin .gtr (.t 44) (.k (.c (.int .i64 200))), some (42, false)⟩,
          ⟨some 46, .pick (.t 42) (.k (.c (.bool true))) (.t 45), none⟩,
          ⟨some 47, .mv (.t 46), none⟩,
          ⟨some 48, .mv (.t 3), some (47, false)⟩,
          ⟨some 49, .bin .gtr (.t 48) (.k (.c (.int .i64 4))), some (47, false)⟩,
          ⟨some 50, .pick (.t 47) (.k (.c (.bool true))) (.t 49), none⟩,
          ⟨some 51, .mv (.t 50), none⟩,
          ⟨some 52, .mv (.t 4), some (51, false)⟩,
          ⟨some 53, .bin .gtr (.t 52) (.k (.c (.int .i64 3))), some (51, false)⟩,
          ⟨some 54, .pick (.t 51) (.k (.c (.bool true))) (.t 53), none⟩,
          ⟨some 55, .mv (.t 54), none⟩,
          ⟨some 56, .mv (.t 5), some (55, false)⟩,
          ⟨some 57, .bin .gtr (.t 56) (.k (.c (.int .i64 3))), some (55, false)⟩,
          ⟨some 58, .pick (.t 55) (.k (.c (.bool true))) (.t 57), none⟩,
          ⟨some 59, .mv (.t 58), none⟩,
          ⟨some 60, .mv (.t 3), some (59, false)⟩,
          ⟨some 61, .mv (.t 4), some (59, false)⟩,
          ⟨some 62, .mv (.t 5), some (59, false)⟩,
          ⟨some 63, .mv (.t 6), some (59, false)⟩,
          ⟨some 64, .call F_scrypt_Check [.t 60, .t 61, .t 62, .t 63], some (59, false)⟩,
          ⟨some 65, .bin .neq (.t 64) (.k (.c (.int .i64 0))), some (59, false)⟩,
          ⟨some 66, .pick (.t 59) (.k (.c (.bool true))) (.t 65), none⟩])
    (.cond (.t 66)
      (.seq (.region
          [⟨some 14, .mv (.k (.c (.bool true))), none⟩])
      (.ret))
      (.skip)))
  (.seq (.region
      [⟨some 68, .mv (.t 3), none⟩,
        ⟨some 69, .mv (.t 4), none⟩,
        ⟨some 70, .mv (.t 5), none⟩,
        ⟨some 71, .call F_scrypt_Need [.t 68, .t 69, .t 70], none⟩,
        ⟨some 67, .mv (.t 71), none⟩,
        ⟨some 72, .extract (.t 67) 0, none⟩,
        ⟨some 73, .extract (.t 67) 1, none⟩,
        ⟨some 15, .mv (.t 72), none⟩,
        ⟨some 16, .mv (.t 73), none⟩])
  (.seq (.region
      [⟨some 75, .mv (.t 15), none⟩,
        ⟨some 76, .call F_arena_New [.t 75], none⟩,
        ⟨some 74, .mv (.t 76), none⟩,
        ⟨some 77, .extract (.t 74) 0, none⟩,
        ⟨some 78, .extract (.t 74) 1, none⟩,
        ⟨some 17, .mv (.t 77), none⟩,
        ⟨some 18, .mv (.t 78), none⟩])
  (.seq (.region
      [⟨some 80, .mv (.t 15), none⟩,
        ⟨some 81, .mv (.t 0), none⟩,
        ⟨some 82, .bin .add (.t 80) (.t 81), none⟩,
        ⟨some 83, .call F_arena_New [.t 82], none⟩,
        ⟨some 79, .mv (.t 83), none⟩,
        ⟨some 84, .extract (.t 79) 0, none⟩,
        ⟨some 85, .extract (.t 79) 1, none⟩,
        ⟨some 19, .mv (.t 84), none⟩,
        ⟨some 20, .mv (.t 85), none⟩])
  (.seq (.region
      [⟨some 86, .mv (.t 19), none⟩,
        ⟨some 87, .mv (.t 0), none⟩,
        ⟨some 88, .call F_arena_Arena_Reserve [.t 86, .t 87], none⟩])
  (.seq (.region
      [⟨some 90, .mv (.t 17), none⟩,
        ⟨some 91, .mv (.t 1), none⟩,
        ⟨some 92, .mv (.t 2), none⟩,
        ⟨some 93, .mv (.t 3), none⟩,
        ⟨some 94, .mv (.t 4), none⟩,
        ⟨some 95, .mv (.t 5), none⟩,
        ⟨some 96, .mv (.t 6), none⟩,
        ⟨some 97, .call F_scrypt_Key [.t 90, .t 91, .t 92, .t 93, .t 94, .t 95, .t 96], none⟩,
        ⟨some 89, .mv (.t 97), none⟩,
        ⟨some 98, .extract (.t 89) 0, none⟩,
        ⟨some 99, .extract (.t 89) 1, none⟩,
        ⟨some 21, .mv (.t 98), none⟩,
        ⟨some 22, .mv (.t 99), none⟩])
  (.seq (.region
      [⟨some 101, .mv (.t 19), none⟩,
        ⟨some 102, .mv (.t 1), none⟩,
        ⟨some 103, .mv (.t 2), none⟩,
        ⟨some 104, .mv (.t 3), none⟩,
        ⟨some 105, .mv (.t 4), none⟩,
        ⟨some 106, .mv (.t 5), none⟩,
        ⟨some 107, .mv (.t 6), none⟩,
        ⟨some 108, .call F_scrypt_Key [.t 101, .t 102, .t 103, .t 104, .t 105, .t 106, .t 107], none⟩,
        ⟨some 100, .mv (.t 108), none⟩,
        ⟨some 109, .extract (.t 100) 0, none⟩,
        ⟨some 110, .extract (.t 100) 1, none⟩,
        ⟨some 23, .mv (.t 109), none⟩,
        ⟨some 24, .mv (.t 110), none⟩])
  (.seq (.region
      [⟨some 112, .mv (.t 17), none⟩,
        ⟨some 113, .mv (.t 1), none⟩,
        ⟨some 114, .mv (.t 2), none⟩,
        ⟨some 115, .mv (.t 3), none⟩,
        ⟨some 116, .mv (.t 4), none⟩,
        ⟨some 117, .mv (.t 5), none⟩,
        ⟨some 118, .mv (.t 6), none⟩,
        ⟨some 119, .call F_scrypt_Key [.t 112, .t 113, .t 114, .t 115, .t 116, .t 117, .t 118], none⟩,
        ⟨some 111, .mv (.t 119), none⟩,
        ⟨some 120, .extract (.t 111) 0, none⟩,
        ⟨some 121, .extract (.t 111) 1, none⟩,
        ⟨some 25, .mv (.t 120), none⟩,
        ⟨some 26, .mv (.t 121), none⟩])
  (.seq (.region
      [⟨some 123, .mv (.t 1), none⟩,
        ⟨some 124, .mv (.t 2), none⟩,
        ⟨some 125, .mv (.t 3), none⟩,
        ⟨some 126, .mv (.t 4), none⟩,
        ⟨some 127, .mv (.t 5), none⟩,
        ⟨some 128, .mv (.t 6), none⟩,
        ⟨some 129, .call F_scrypt_Key [.k (.c (.pnil)), .t 123, .t 124, .t 125, .t 126, .t 127, .t 128], none⟩,
        ⟨some 122, .mv (.t 129), none⟩,
        ⟨some 130, .extract (.t 122) 0, none⟩,
        ⟨some 131, .extract (.t 122) 1, none⟩,
        ⟨some 27, .mv (.t 130), none⟩,
        ⟨some 28, .mv (.t 131), none⟩])
  (.seq (.region
      [⟨some 132, .mv (.t 22), none⟩,
        ⟨some 133, .bin .eql (.t 132) (.k (.c (.int .i64 0))), none⟩,
        ⟨some 134, .mv (.t 133), none⟩,
        ⟨some 135, .mv (.t 24), some (134, true)⟩,
        ⟨some 136, .bin .eql (.t 135) (.k (.c (.int .i64 0))), some (134, true)⟩,
        ⟨some 137, .pick (.t 134) (.t 136) (.k (.c (.bool false))), none⟩,
        ⟨some 138, .mv (.t 137), none⟩,
        ⟨some 139, .mv (.t 26), some (138, true)⟩,
        ⟨some 140, .bin .eql (.t 139) (.k (.c (.int .i64 0))), some (138, true)⟩,
        ⟨some 141, .pick (.t 138) (.t 140) (.k (.c (.bool false))), none⟩,
        ⟨some 142, .mv (.t 141), none⟩,
        ⟨some 143, .mv (.t 28), some (142, true)⟩,
        ⟨some 144, .bin .eql (.t 143) (.k (.c (.int .i64 11))), some (142, true)⟩,
        ⟨some 145, .pick (.t 142) (.t 144) (.k (.c (.bool false))), none⟩,
        ⟨some 146, .mv (.t 145), none⟩,
        ⟨some 147, .mv (.t 21), some (146, true)⟩,
        ⟨some 148, .mv (.t 23), some (146, true)⟩,
        ⟨some 149, .bin .eql (.t 147) (.t 148), some (146, true)⟩,
        ⟨some 150, .pick (.t 146) (.t 149) (.k (.c (.bool false))), none⟩,
        ⟨some 151, .mv (.t 150), none⟩,
        ⟨some 152, .mv (.t 21), some (151, true)⟩,
        ⟨some 153, .mv (.t 25), some (151, true)⟩,
        ⟨some 154, .bin .eql (.t 152) (.t 153), some (151, true)⟩,
        ⟨some 155, .pick (.t 151) (.t 154) (.k (.c (.bool false))), none⟩,
        ⟨some 156, .mv (.t 155), none⟩,
        ⟨some 157, .mv (.t 21), some (156, true)⟩,
        ⟨some 158, .len true (.t 157), some (156, true)⟩,
        ⟨some 159, .mv (.t 6), some (156, true)⟩,
        ⟨some 160, .bin .eql (.t 158) (.t 159), some (156, true)⟩,
        ⟨some 161, .pick (.t 156) (.t 160) (.k (.c (.bool false))), none⟩,
        ⟨some 162, .mv (.t 161), none⟩,
        ⟨some 163, .mv (.t 19), some (162, true)⟩,
        ⟨some 164, .call F_arena_Arena_Used [.t 163], some (162, true)⟩,
        ⟨some 165, .mv (.t 0), some (162, true)⟩,
        ⟨some 166, .bin .eql (.t 164) (.t 165), some (162, true)⟩,
        ⟨some 167, .pick (.t 162) (.t 166) (.k (.c (.bool false))), none⟩,
        ⟨some 14, .mv (.t 167), none⟩])
  (.ret)))))))))))))
theorem t_pestlelaw25_ScryptAlone : A F_pestlelaw25_ScryptAlone = some c_pestlelaw25_ScryptAlone := by kernel_rfl

noncomputable def c_pestlelaw25_awake : AFn := AFn.mk 40 [.tmp 0]
  (.seq (.region
      [⟨some 0, .mv (.k (.c (.bool false))), none⟩])
  (.seq (.region
      [⟨some 8, .call F_arena_New [.k (.c (.int .i64 3))], none⟩,
        ⟨some 7, .mv (.t 8), none⟩,
        ⟨some 9, .extract (.t 7) 0, none⟩,
        ⟨some 10, .extract (.t 7) 1, none⟩,
        ⟨some 1, .mv (.t 9), none⟩,
        ⟨some 2, .mv (.t 10), none⟩])
  (.seq (.region
      [⟨some 12, .mv (.t 1), none⟩,
        ⟨some 13, .call F_scrypt_Key [.t 12, .k (.c (.str [])), .k (.c (.str [])), .k (.c (.int .i64 4)), .k (.c (.int .i64 1)), .k (.c (.int .i64 1)), .k (.c (.int .i64 64))], none⟩,
        ⟨some 11, .mv (.t 13), none⟩,
        ⟨some 14, .extract (.t 11) 0, none⟩,
        ⟨some 15, .extract (.t 11) 1, none⟩,
        ⟨some 3, .mv (.t 14), none⟩,
        ⟨some 4, .mv (.t 15), none⟩])
  (.seq (.region
      [⟨some 17, .call F_scrypt_Need [.k (.c (.int .i64 4)), .k (.c (.int .i64 1)), .k (.c (.int .i64 1))], none⟩,
        ⟨some 16, .mv (.t 17), none⟩,
        ⟨some 18, .extract (.t 16) 0, none⟩,
        ⟨some 19, .extract (.t 16) 1, none⟩,
        ⟨some 5, .mv (.t 18), none⟩,
        ⟨some 6, .mv (.t 19), none⟩])
  (.seq (.region
      [⟨some 20, .mv (.t 4), none⟩,
        ⟨some 21, .bin .eql (.t 20) (.k (.c (.int .i64 0))), none⟩,
        ⟨some 22, .mv (.t 21), none⟩,
        ⟨some 23, .mv (.t 3), some (22, true)⟩,
        ⟨some 24, .len true (.t 23), some (22, true)⟩,
        ⟨some 25, .bin .eql (.t 24) (.k (.c (.int .i64 64))), some (22, true)⟩,
        ⟨some 26, .pick (.t 22) (.t 25) (.k (.c (.bool false))), none⟩,
        ⟨some 27, .mv (.t 26), none⟩,
        ⟨some 28, .mv (.t 3), some (27, true)⟩,
        ⟨some 29, .sliceStr (.t 28) none (some (.k (.c (.int .i64 8)))), some (27, true)⟩,
        ⟨some 30, .bin .eql (.t 29) (.k (.c (.str [119, 214, 87, 98, 56, 101, 123, 32]))), some (27, true)⟩,
        ⟨some 31, .pick (.t 27) (.t 30) (.k (.c (.bool false))), none⟩,
        ⟨some 32, .mv (.t 31), none⟩,
        ⟨some 33, .mv (.t 6), some (32, true)⟩,
        ⟨some 34, .bin .eql (.t 33) (.k (.c (.int .i64 0))), some (32, true)⟩,
        ⟨some 35, .pick (.t 32) (.t 34) (.k (.c (.bool false))), none⟩,
        ⟨some 36, .mv (.t 35), none⟩,
        ⟨some 37, .mv (.t 5), some (36, true)⟩,
        ⟨some 38, .bin .eql (.t 37) (.k (.c (.int .i64 3))), some (36, true)⟩,
        ⟨some 39, .pick (.t 36) (.t 38) (.k (.c (.bool false))), none⟩,
        ⟨some 0, .mv (.t 39), none⟩])
  (.ret))))))
theorem t_pestlelaw25_awake : A F_pestlelaw25_awake = some c_pestlelaw25_awake := by kernel_rfl
end PK

/- ScryptNeeds, ScryptAlone. -/
namespace PK
open Go PAbs
set_option linter.unusedSimpArgs false
set_option linter.unusedVariables false
set_option maxRecDepth 100000
set_option maxHeartbeats 4000000

theorem bin_eq (s : List UInt8) : binStr .eql s s = some (.bool true) := by simp [binStr]
theorem scO_length (pw salt : List UInt8) (N m r p n : Nat) : (scO pw salt N m r p n).length = n := kyO_length _ _ _ _ _
theorem AC_awake25 (H : AHeap) : AC A H.length F_pestlelaw25_awake [] H (fun v _ => v = .c (.bool true)) := by
  refine AC_enter t_pestlelaw25_awake ?_; simp only [c_pestlelaw25_awake, enterA, List.replicate, List.length_cons, List.length_nil, Nat.reduceAdd, Nat.reduceSub, List.cons_append, List.nil_append]
  refine GO ?_
  refine AO_call rfl (AC_arNew H.length H 3 (by omega)) ?_
  rintro _ _ ⟨rfl, rfl⟩
  refine GO ?_
  have oa : hown (H ++ [Blk.own (arC 3 0 0 0)]) H.length = some (arC 3 0 0 0) := hown_last
  have l1 : (H ++ [Blk.own (arC 3 0 0 0)]).length = H.length + 1 := by simp
  generalize H ++ [Blk.own (arC 3 0 0 0)] = H1 at *
  refine AO_call rfl (AC_scKey H.length H1 H.length 3 0 0 0 [] [] 4 1 1 64 3 16 oa (Nat.le_refl _) (by decide) (by omega) (by omega) (by omega) rfl rfl (by omega) (by omega) (by omega) (by omega) (by omega) (by decide) (by decide)) ?_
  rintro _ H2 ⟨rfl, ⟨h', o2, hh'⟩, c2⟩
  have l2 := c2.1
  refine GO ?_
  refine AO_call rfl ((AC_scNeed H2 4 1 1 (by decide)).floor (by omega)) ?_
  rintro _ H3 ⟨rfl, k3⟩
  have hsl := scO_length [] [] 3 16 1 1 64
  have htk := scO_awake
  have hn : needO 4 1 1 = 3 := rfl
  rw [hn]
  generalize scO [] [] 3 16 1 1 64 = tx at *
  have tl : ((tx.length : Nat) : Int) = 64 := by omega
  have d8 : (0 : Int) ≤ 8 ∧ (8 : Int) ≤ ((tx.length : Nat) : Int) := ⟨by omega, by omega⟩
  have t8 : Int.toNat 8 = 8 := rfl
  (repeat (first | refine GOS ?_ | (with_reducible (first | apply AO_any | apply AHd_any | apply AP_go | apply AHP_go); focus (simp only [Sm, wantedA, execA, stepA, List.getElem?_cons_zero, List.getElem?_cons_succ, if_true, if_false, binA, binInt, unA, eqA, Option.map, eq_self, reduceCtorEq, ite_true, ite_false, cellsAV, fitsAll, CK.fits, fillA, AV.cells, writeN, sliceCells, appendA, lenA, i64, loA, hiA, Nat.reduceAdd, Nat.reduceMul, Nat.reduceDiv, Nat.reduceSub, Nat.reduceLeDiff, Nat.reduceLT, Int.reduceLE, Int.reduceLT, foldA, maxA, minA, Int.reduceBEq, Int.reduceBNe, Int.reduceGT, Int.reduceGE, Int.reduceEq, Int.reduceNe, Int.reduceToNat, AOp.stops, ↓want_eq, ↓exec_lenX, ↓exec_storeX, ↓exec_storeN, storeN_one, ↓exec_bsX, ↓exec_sliceX, ↓exec_copyX, ↓exec_appNil, ↓exec_carryX, Nat.sub_zero, rep_len, decide_eq_true tl, (beq_iff_eq.mpr tl : (((tx.length : Nat) : Int) == (64 : Int)) = true), d8, t8, Nat.zero_le, htk, bin_eq]; with_reducible first | exact EqP.at_ | exact EqP.cont | exact EqP.hcont | exact EqP.gate | exact EqP.hgate))))
  exact AW_ret ⟨_, rfl, rfl⟩

theorem need_small {l r p : Nat} (h : chkS l r p 1) (hl : l ≤ 4) (hr : r ≤ 3) (hp : p ≤ 3) : needO l r p ≤ 8 := by
  have hm : 2 ^ l ≤ 2 ^ 4 := Nat.pow_le_pow_right (by omega) hl
  unfold needO
  generalize 2 ^ l = m at *
  have hb1 : 128 * r * (m + p + 2) ≤ 384 * 21 := Nat.mul_le_mul (by omega) (by omega)
  simp only [upO]; omega
theorem AC_ScryptAlone (oz : Int) (pw salt : List UInt8) (lz rz pz nz : Int) : AC A 0 F_pestlelaw25_ScryptAlone [.c (.int .i64 oz), .c (.str pw), .c (.str salt), .c (.int .i64 lz), .c (.int .i64 rz), .c (.int .i64 pz), .c (.int .i64 nz)] [] (fun v _ => v = .c (.bool true)) := by
  refine AC_enter t_pestlelaw25_ScryptAlone ?_; simp only [c_pestlelaw25_ScryptAlone, enterA, List.replicate, List.length_cons, List.length_nil, Nat.reduceAdd, Nat.reduceSub, List.cons_append, List.nil_append]
  refine GO ?_
  refine AO_call rfl ((AC_awake25 _).kept (Nat.zero_le _)) ?_
  rintro _ H ⟨rfl, _⟩
  by_cases c1 : oz < 0
  · (repeat (first | refine GOS ?_ | (with_reducible (first | apply AO_any | apply AHd_any | apply AP_go | apply AHP_go); focus (simp only [Sm, wantedA, execA, stepA, List.getElem?_cons_zero, List.getElem?_cons_succ, if_true, if_false, binA, binInt, unA, eqA, Option.map, eq_self, reduceCtorEq, ite_true, ite_false, cellsAV, fitsAll, CK.fits, fillA, AV.cells, writeN, sliceCells, appendA, lenA, i64, loA, hiA, Nat.reduceAdd, Nat.reduceMul, Nat.reduceDiv, Nat.reduceSub, Nat.reduceLeDiff, Nat.reduceLT, Int.reduceLE, Int.reduceLT, foldA, maxA, minA, Int.reduceBEq, Int.reduceBNe, Int.reduceGT, Int.reduceGE, Int.reduceEq, Int.reduceNe, Int.reduceToNat, AOp.stops, ↓want_eq, ↓exec_lenX, ↓exec_storeX, ↓exec_storeN, storeN_one, ↓exec_bsX, ↓exec_sliceX, ↓exec_copyX, ↓exec_appNil, ↓exec_carryX, Nat.sub_zero, rep_len, decide_eq_true c1]; with_reducible first | exact EqP.at_ | exact EqP.cont | exact EqP.hcont | exact EqP.gate | exact EqP.hgate))))
    exact AW_ret ⟨_, rfl, rfl⟩
  by_cases c2 : oz > 1000
  · (repeat (first | refine GOS ?_ | (with_reducible (first | apply AO_any | apply AHd_any | apply AP_go | apply AHP_go); focus (simp only [Sm, wantedA, execA, stepA, List.getElem?_cons_zero, List.getElem?_cons_succ, if_true, if_false, binA, binInt, unA, eqA, Option.map, eq_self, reduceCtorEq, ite_true, ite_false, cellsAV, fitsAll, CK.fits, fillA, AV.cells, writeN, sliceCells, appendA, lenA, i64, loA, hiA, Nat.reduceAdd, Nat.reduceMul, Nat.reduceDiv, Nat.reduceSub, Nat.reduceLeDiff, Nat.reduceLT, Int.reduceLE, Int.reduceLT, foldA, maxA, minA, Int.reduceBEq, Int.reduceBNe, Int.reduceGT, Int.reduceGE, Int.reduceEq, Int.reduceNe, Int.reduceToNat, AOp.stops, ↓want_eq, ↓exec_lenX, ↓exec_storeX, ↓exec_storeN, storeN_one, ↓exec_bsX, ↓exec_sliceX, ↓exec_copyX, ↓exec_appNil, ↓exec_carryX, Nat.sub_zero, rep_len, decide_eq_false c1, decide_eq_true c2]; with_reducible first | exact EqP.at_ | exact EqP.cont | exact EqP.hcont | exact EqP.gate | exact EqP.hgate))))
    exact AW_ret ⟨_, rfl, rfl⟩
  by_cases c3 : ((pw.length : Nat) : Int) > 200
  · (repeat (first | refine GOS ?_ | (with_reducible (first | apply AO_any | apply AHd_any | apply AP_go | apply AHP_go); focus (simp only [Sm, wantedA, execA, stepA, List.getElem?_cons_zero, List.getElem?_cons_succ, if_true, if_false, binA, binInt, unA, eqA, Option.map, eq_self, reduceCtorEq, ite_true, ite_false, cellsAV, fitsAll, CK.fits, fillA, AV.cells, writeN, sliceCells, appendA, lenA, i64, loA, hiA, Nat.reduceAdd, Nat.reduceMul, Nat.reduceDiv, Nat.reduceSub, Nat.reduceLeDiff, Nat.reduceLT, Int.reduceLE, Int.reduceLT, foldA, maxA, minA, Int.reduceBEq, Int.reduceBNe, Int.reduceGT, Int.reduceGE, Int.reduceEq, Int.reduceNe, Int.reduceToNat, AOp.stops, ↓want_eq, ↓exec_lenX, ↓exec_storeX, ↓exec_storeN, storeN_one, ↓exec_bsX, ↓exec_sliceX, ↓exec_copyX, ↓exec_appNil, ↓exec_carryX, Nat.sub_zero, rep_len, decide_eq_false c1, decide_eq_false c2, decide_eq_true c3]; with_reducible first | exact EqP.at_ | exact EqP.cont | exact EqP.hcont | exact EqP.gate | exact EqP.hgate))))
    exact AW_ret ⟨_, rfl, rfl⟩
  by_cases c4 : ((salt.length : Nat) : Int) > 200
  · (repeat (first | refine GOS ?_ | (with_reducible (first | apply AO_any | apply AHd_any | apply AP_go | apply AHP_go); focus (simp only [Sm, wantedA, execA, stepA, List.getElem?_cons_zero, List.getElem?_cons_succ, if_true, if_false, binA, binInt, unA, eqA, Option.map, eq_self, reduceCtorEq, ite_true, ite_false, cellsAV, fitsAll, CK.fits, fillA, AV.cells, writeN, sliceCells, appendA, lenA, i64, loA, hiA, Nat.reduceAdd, Nat.reduceMul, Nat.reduceDiv, Nat.reduceSub, Nat.reduceLeDiff, Nat.reduceLT, Int.reduceLE, Int.reduceLT, foldA, maxA, minA, Int.reduceBEq, Int.reduceBNe, Int.reduceGT, Int.reduceGE, Int.reduceEq, Int.reduceNe, Int.reduceToNat, AOp.stops, ↓want_eq, ↓exec_lenX, ↓exec_storeX, ↓exec_storeN, storeN_one, ↓exec_bsX, ↓exec_sliceX, ↓exec_copyX, ↓exec_appNil, ↓exec_carryX, Nat.sub_zero, rep_len, decide_eq_false c1, decide_eq_false c2, decide_eq_false c3, decide_eq_true c4]; with_reducible first | exact EqP.at_ | exact EqP.cont | exact EqP.hcont | exact EqP.gate | exact EqP.hgate))))
    exact AW_ret ⟨_, rfl, rfl⟩
  by_cases c5 : lz > 4
  · (repeat (first | refine GOS ?_ | (with_reducible (first | apply AO_any | apply AHd_any | apply AP_go | apply AHP_go); focus (simp only [Sm, wantedA, execA, stepA, List.getElem?_cons_zero, List.getElem?_cons_succ, if_true, if_false, binA, binInt, unA, eqA, Option.map, eq_self, reduceCtorEq, ite_true, ite_false, cellsAV, fitsAll, CK.fits, fillA, AV.cells, writeN, sliceCells, appendA, lenA, i64, loA, hiA, Nat.reduceAdd, Nat.reduceMul, Nat.reduceDiv, Nat.reduceSub, Nat.reduceLeDiff, Nat.reduceLT, Int.reduceLE, Int.reduceLT, foldA, maxA, minA, Int.reduceBEq, Int.reduceBNe, Int.reduceGT, Int.reduceGE, Int.reduceEq, Int.reduceNe, Int.reduceToNat, AOp.stops, ↓want_eq, ↓exec_lenX, ↓exec_storeX, ↓exec_storeN, storeN_one, ↓exec_bsX, ↓exec_sliceX, ↓exec_copyX, ↓exec_appNil, ↓exec_carryX, Nat.sub_zero, rep_len, decide_eq_false c1, decide_eq_false c2, decide_eq_false c3, decide_eq_false c4, decide_eq_true c5]; with_reducible first | exact EqP.at_ | exact EqP.cont | exact EqP.hcont | exact EqP.gate | exact EqP.hgate))))
    exact AW_ret ⟨_, rfl, rfl⟩
  by_cases c6 : pz > 3 ∨ rz > 3
  · by_cases c7 : rz > 3
    · (repeat (first | refine GOS ?_ | (with_reducible (first | apply AO_any | apply AHd_any | apply AP_go | apply AHP_go); focus (simp only [Sm, wantedA, execA, stepA, List.getElem?_cons_zero, List.getElem?_cons_succ, if_true, if_false, binA, binInt, unA, eqA, Option.map, eq_self, reduceCtorEq, ite_true, ite_false, cellsAV, fitsAll, CK.fits, fillA, AV.cells, writeN, sliceCells, appendA, lenA, i64, loA, hiA, Nat.reduceAdd, Nat.reduceMul, Nat.reduceDiv, Nat.reduceSub, Nat.reduceLeDiff, Nat.reduceLT, Int.reduceLE, Int.reduceLT, foldA, maxA, minA, Int.reduceBEq, Int.reduceBNe, Int.reduceGT, Int.reduceGE, Int.reduceEq, Int.reduceNe, Int.reduceToNat, AOp.stops, ↓want_eq, ↓exec_lenX, ↓exec_storeX, ↓exec_storeN, storeN_one, ↓exec_bsX, ↓exec_sliceX, ↓exec_copyX, ↓exec_appNil, ↓exec_carryX, Nat.sub_zero, rep_len, decide_eq_false c1, decide_eq_false c2, decide_eq_false c3, decide_eq_false c4, decide_eq_false c5, decide_eq_true c7]; with_reducible first | exact EqP.at_ | exact EqP.cont | exact EqP.hcont | exact EqP.gate | exact EqP.hgate))))
      exact AW_ret ⟨_, rfl, rfl⟩
    · (repeat (first | refine GOS ?_ | (with_reducible (first | apply AO_any | apply AHd_any | apply AP_go | apply AHP_go); focus (simp only [Sm, wantedA, execA, stepA, List.getElem?_cons_zero, List.getElem?_cons_succ, if_true, if_false, binA, binInt, unA, eqA, Option.map, eq_self, reduceCtorEq, ite_true, ite_false, cellsAV, fitsAll, CK.fits, fillA, AV.cells, writeN, sliceCells, appendA, lenA, i64, loA, hiA, Nat.reduceAdd, Nat.reduceMul, Nat.reduceDiv, Nat.reduceSub, Nat.reduceLeDiff, Nat.reduceLT, Int.reduceLE, Int.reduceLT, foldA, maxA, minA, Int.reduceBEq, Int.reduceBNe, Int.reduceGT, Int.reduceGE, Int.reduceEq, Int.reduceNe, Int.reduceToNat, AOp.stops, ↓want_eq, ↓exec_lenX, ↓exec_storeX, ↓exec_storeN, storeN_one, ↓exec_bsX, ↓exec_sliceX, ↓exec_copyX, ↓exec_appNil, ↓exec_carryX, Nat.sub_zero, rep_len, decide_eq_false c1, decide_eq_false c2, decide_eq_false c3, decide_eq_false c4, decide_eq_false c5, decide_eq_false c7, decide_eq_true (show pz > 3 by omega)]; with_reducible first | exact EqP.at_ | exact EqP.cont | exact EqP.hcont | exact EqP.gate | exact EqP.hgate))))
      exact AW_ret ⟨_, rfl, rfl⟩
  have c7 : ¬ rz > 3 := by omega
  have c8 : ¬ pz > 3 := by omega
  (repeat (first | refine GOS ?_ | (with_reducible (first | apply AO_any | apply AHd_any | apply AP_go | apply AHP_go); focus (simp only [Sm, wantedA, execA, stepA, List.getElem?_cons_zero, List.getElem?_cons_succ, if_true, if_false, binA, binInt, unA, eqA, Option.map, eq_self, reduceCtorEq, ite_true, ite_false, cellsAV, fitsAll, CK.fits, fillA, AV.cells, writeN, sliceCells, appendA, lenA, i64, loA, hiA, Nat.reduceAdd, Nat.reduceMul, Nat.reduceDiv, Nat.reduceSub, Nat.reduceLeDiff, Nat.reduceLT, Int.reduceLE, Int.reduceLT, foldA, maxA, minA, Int.reduceBEq, Int.reduceBNe, Int.reduceGT, Int.reduceGE, Int.reduceEq, Int.reduceNe, Int.reduceToNat, AOp.stops, ↓want_eq, ↓exec_lenX, ↓exec_storeX, ↓exec_storeN, storeN_one, ↓exec_bsX, ↓exec_sliceX, ↓exec_copyX, ↓exec_appNil, ↓exec_carryX, Nat.sub_zero, rep_len, decide_eq_false c1, decide_eq_false c2, decide_eq_false c3, decide_eq_false c4, decide_eq_false c5, decide_eq_false c7, decide_eq_false c8]; with_reducible first | exact EqP.at_ | exact EqP.cont | exact EqP.hcont | exact EqP.gate | exact EqP.hgate))))
  refine AO_call rfl (AC_scCheck 0 H lz rz pz nz) ?_
  rintro _ _ ⟨rfl, rfl⟩
  by_cases hc : ¬ chkS lz rz pz nz
  · rw [if_neg hc]
    refine GO ?_
    exact AW_ret ⟨_, rfl, rfl⟩
  have hc : chkS lz rz pz nz := Decidable.of_not_not hc
  rw [if_pos hc]
  refine GO ?_
  obtain ⟨o, rfl⟩ := Int.eq_ofNat_of_zero_le (show 0 ≤ oz by omega)
  obtain ⟨l, rfl⟩ := Int.eq_ofNat_of_zero_le (show 0 ≤ lz by have := hc.2.2.2.1; omega)
  obtain ⟨r, rfl⟩ := Int.eq_ofNat_of_zero_le (show 0 ≤ rz by have := hc.1; omega)
  obtain ⟨p, rfl⟩ := Int.eq_ofNat_of_zero_le (show 0 ≤ pz by have := hc.2.1; omega)
  obtain ⟨n, rfl⟩ := Int.eq_ofNat_of_zero_le (show 0 ≤ nz by have := hc.2.2.2.2.2; omega)
  have hc1 : chkS l r p 1 := ⟨hc.1, hc.2.1, hc.2.2.1, hc.2.2.2.1, hc.2.2.2.2.1, by omega, by omega⟩
  have hl4 : l ≤ 4 := by omega
  have hr3 : r ≤ 3 := by omega
  have hp3 : p ≤ 3 := by omega
  have hNs := need_small hc1 hl4 hr3 hp3
  refine AO_call rfl ((AC_scNeed H l r p hc1).floor (Nat.zero_le _)) ?_
  rintro _ H2 ⟨rfl, k2⟩
  generalize hN : needO l r p = N at *
  generalize hm : 2 ^ l = m at *
  refine GO ?_
  refine AO_call rfl (AC_arNew 0 H2 N (by omega)) ?_
  rintro _ _ ⟨rfl, rfl⟩
  have o3 : hown (H2 ++ [Blk.own (arC N 0 0 0)]) H2.length = some (arC N 0 0 0) := hown_last
  have l3 : (H2 ++ [Blk.own (arC N 0 0 0)]).length = H2.length + 1 := by simp
  generalize H2 ++ [Blk.own (arC N 0 0 0)] = H3 at *
  generalize H2.length = a1 at *
  have e1 : IntKind.i64.wrap ((N : Int) + (o : Int)) = ((N + o : Nat) : Int) := i64_add (by omega)
  (repeat (first | refine GOS ?_ | (with_reducible (first | apply AO_any | apply AHd_any | apply AP_go | apply AHP_go); focus (simp only [Sm, wantedA, execA, stepA, List.getElem?_cons_zero, List.getElem?_cons_succ, if_true, if_false, binA, binInt, unA, eqA, Option.map, eq_self, reduceCtorEq, ite_true, ite_false, cellsAV, fitsAll, CK.fits, fillA, AV.cells, writeN, sliceCells, appendA, lenA, i64, loA, hiA, Nat.reduceAdd, Nat.reduceMul, Nat.reduceDiv, Nat.reduceSub, Nat.reduceLeDiff, Nat.reduceLT, Int.reduceLE, Int.reduceLT, foldA, maxA, minA, Int.reduceBEq, Int.reduceBNe, Int.reduceGT, Int.reduceGE, Int.reduceEq, Int.reduceNe, Int.reduceToNat, AOp.stops, ↓want_eq, ↓exec_lenX, ↓exec_storeX, ↓exec_storeN, storeN_one, ↓exec_bsX, ↓exec_sliceX, ↓exec_copyX, ↓exec_appNil, ↓exec_carryX, Nat.sub_zero, rep_len, e1]; with_reducible first | exact EqP.at_ | exact EqP.cont | exact EqP.hcont | exact EqP.gate | exact EqP.hgate))))
  refine AO_call rfl (AC_arNew 0 H3 (N + o) (by omega)) ?_
  rintro _ _ ⟨rfl, rfl⟩
  have o4 : hown (H3 ++ [Blk.own (arC (N + o) 0 0 0)]) H3.length = some (arC (N + o) 0 0 0) := hown_last
  have o4' := hown_app (l := [Blk.own (arC (N + o) 0 0 0)]) o3
  have l4 : (H3 ++ [Blk.own (arC (N + o) 0 0 0)]).length = H3.length + 1 := by simp
  generalize H3 ++ [Blk.own (arC (N + o) 0 0 0)] = H4 at *
  have h12 : a1 ≠ H3.length := by omega
  generalize H3.length = a2 at *
  refine GO ?_
  refine AO_call rfl (AC_arReserve 0 H4 a2 (N + o) 0 0 0 o o4 (Nat.zero_le _) (Nat.zero_le _) (by omega) (by omega) (by omega) (by omega) (by omega)) ?_
  rintro _ H5 ⟨rfl, p5, o5, c5', l5⟩
  have o5' := c5'.hown h12 o4'
  refine GO ?_
  refine AO_call rfl (AC_scKey 0 H5 a1 N 0 0 0 pw salt l r p n N m o5' (Nat.zero_le _) hc hl4 hr3 hp3 hN hm (by omega) (by omega) (by omega) (by omega) (by omega) (by omega) (by omega)) ?_
  rintro _ H6 ⟨rfl, ⟨h6, o6, hh6⟩, c6'⟩
  have o6' := c6'.hown (fun e => h12 e.symm) o5
  refine GO ?_
  refine AO_call rfl (AC_scKey 0 H6 a2 (N + o) (0 + o) (max 0 (0 + o)) (0 + 1) pw salt l r p n N m o6' (Nat.zero_le _) hc hl4 hr3 hp3 hN hm (by omega) (by omega) (by omega) (by omega) (by omega) (by omega) (by omega)) ?_
  rintro _ H7 ⟨rfl, ⟨h7, o7, hh7⟩, c7'⟩
  have o7' := c7'.hown h12 o6
  refine GO ?_
  refine AO_call rfl (AC_scKey 0 H7 a1 N 0 h6 0 pw salt l r p n N m o7' (Nat.zero_le _) hc hl4 hr3 hp3 hN hm (by omega) (by omega) (by omega) (by omega) (by omega) (by omega) (by omega)) ?_
  rintro _ H8 ⟨rfl, ⟨h8, o8, hh8⟩, c8'⟩
  have o8' := c8'.hown (fun e => h12 e.symm) o7
  refine GO ?_
  refine AO_call rfl ((AC_scKey_nil H8 pw salt l r p n hc).floor (Nat.zero_le _)) ?_
  rintro _ H9 ⟨rfl, k9⟩
  have o9 := (k9.hown (hown_lt o8') (hown_lt o8')).trans o8'
  have hsl := scO_length pw salt N m r p n
  generalize scO pw salt N m r p n = tx at *
  have tl : ((tx.length : Nat) : Int) = (n : Int) := by omega
  (repeat (first | refine GOS ?_ | (with_reducible (first | apply AO_any | apply AHd_any | apply AP_go | apply AHP_go); focus (simp only [Sm, wantedA, execA, stepA, List.getElem?_cons_zero, List.getElem?_cons_succ, if_true, if_false, binA, binInt, unA, eqA, Option.map, eq_self, reduceCtorEq, ite_true, ite_false, cellsAV, fitsAll, CK.fits, fillA, AV.cells, writeN, sliceCells, appendA, lenA, i64, loA, hiA, Nat.reduceAdd, Nat.reduceMul, Nat.reduceDiv, Nat.reduceSub, Nat.reduceLeDiff, Nat.reduceLT, Int.reduceLE, Int.reduceLT, foldA, maxA, minA, Int.reduceBEq, Int.reduceBNe, Int.reduceGT, Int.reduceGE, Int.reduceEq, Int.reduceNe, Int.reduceToNat, AOp.stops, ↓want_eq, ↓exec_lenX, ↓exec_storeX, ↓exec_storeN, storeN_one, ↓exec_bsX, ↓exec_sliceX, ↓exec_copyX, ↓exec_appNil, ↓exec_carryX, Nat.sub_zero, rep_len, bin_eq, decide_eq_true tl, (beq_iff_eq.mpr tl : (((tx.length : Nat) : Int) == (n : Int)) = true)]; with_reducible first | exact EqP.at_ | exact EqP.cont | exact EqP.hcont | exact EqP.gate | exact EqP.hgate))))
  refine AO_call rfl (AC_arUsed 0 H9 a2 (N + o) (0 + o) h7 (0 + 1) o9) ?_
  rintro _ _ ⟨rfl, rfl⟩
  have tu : ((0 + o : Nat) : Int) = (o : Int) := by omega
  (repeat (first | refine GOS ?_ | (with_reducible (first | apply AO_any | apply AHd_any | apply AP_go | apply AHP_go); focus (simp only [Sm, wantedA, execA, stepA, List.getElem?_cons_zero, List.getElem?_cons_succ, if_true, if_false, binA, binInt, unA, eqA, Option.map, eq_self, reduceCtorEq, ite_true, ite_false, cellsAV, fitsAll, CK.fits, fillA, AV.cells, writeN, sliceCells, appendA, lenA, i64, loA, hiA, Nat.reduceAdd, Nat.reduceMul, Nat.reduceDiv, Nat.reduceSub, Nat.reduceLeDiff, Nat.reduceLT, Int.reduceLE, Int.reduceLT, foldA, maxA, minA, Int.reduceBEq, Int.reduceBNe, Int.reduceGT, Int.reduceGE, Int.reduceEq, Int.reduceNe, Int.reduceToNat, AOp.stops, ↓want_eq, ↓exec_lenX, ↓exec_storeX, ↓exec_storeN, storeN_one, ↓exec_bsX, ↓exec_sliceX, ↓exec_copyX, ↓exec_appNil, ↓exec_carryX, Nat.sub_zero, rep_len, decide_eq_true tu, (beq_iff_eq.mpr tu : (((0 + o : Nat) : Int) == (o : Int)) = true)]; with_reducible first | exact EqP.at_ | exact EqP.cont | exact EqP.hcont | exact EqP.gate | exact EqP.hgate))))
  exact AW_ret ⟨_, rfl, rfl⟩
end PK
