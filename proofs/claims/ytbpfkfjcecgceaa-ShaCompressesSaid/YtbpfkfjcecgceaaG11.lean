/- Texts of this claim, put together: L05j L05k KPestleref03 L03a. -/
import Derived.Test.YtbpfkfjcecgceaaG8
import Derived.Test.YtbpfkfjcecgceaaG10
/- SHA-256, the document's: Compress. -/
namespace PK
open Go PAbs
set_option linter.unusedSimpArgs false
set_option linter.unusedVariables false
set_option maxRecDepth 100000
set_option maxHeartbeats 4000000

def shU (s : List Nat) : Nat → List Nat
  | 0 => s
  | j + 1 => (shU s j).set (7 - j) ((shU s j).getD (6 - j) 0)
theorem shU_wd {s : List Nat} (h : Wd 8 s) : ∀ j, Wd 8 (shU s j)
  | 0 => h
  | j + 1 => (shU_wd h j).set ((shU_wd h j).2 _)
theorem addW_comm (s t : List Nat) : addW s t = addW t s := by
  simp only [addW]; rw [List.zipWith_comm]; congr 1; funext a b; simp only [ad, Nat.add_comm]
theorem Wd.app {n m : Nat} {l k : List Nat} (h : Wd n l) (h2 : Wd m k) : Wd (n + m) (l ++ k) := by
  refine ⟨by rw [List.length_append, h.1, h2.1], fun i => ?_⟩
  simp only [List.getD_eq_getElem?_getD, List.getElem?_append]
  split
  · have := h.2 i; rwa [List.getD_eq_getElem?_getD] at this
  · have := h2.2 (i - l.length); rwa [List.getD_eq_getElem?_getD] at this
theorem sub32 {e : Nat} (h : e < 4294967296) : IntKind.u32.wrap (4294967295 - (e : Int)) = ((4294967295 - e : Nat) : Int) := by rw [wrap32]; omega


def rcI (p3 p7 : Nat) (ks ws s : List Nat) (H0 : AHeap) (i : Nat) (fr : AFrame) (H : AHeap) : Prop := Chg (· = p7 + 1) H0 H ∧ hown H (p7 + 1) = some (W32 (rnds ks ws s i)) ∧ (∃ s : Nat → AV, fr = [s 0, s 1, s 2, .c (.ptr p3 0), .c (.ptr (p3 + 1) 0), s 5, .c (.ptr (p3 + 2) 0), .c (.ptr p7 0), .c (.ptr (p7 + 1) 0), .c (.int .i64 (i : Int)), s 10, s 11, s 12, s 13, s 14, s 15, s 16, s 17, s 18, s 19, s 20, s 21, s 22, s 23, s 24, s 25, s 26, s 27, s 28, s 29, s 30, s 31, s 32, s 33, s 34, s 35, s 36, s 37, s 38, s 39, s 40, s 41, s 42, s 43, s 44, s 45, s 46, s 47, s 48, s 49, s 50, s 51, s 52, s 53, s 54, s 55, s 56, s 57, s 58, s 59, s 60, s 61, s 62, s 63, s 64, s 65, s 66, s 67, s 68, s 69, s 70, s 71, s 72, s 73, s 74, s 75, s 76, s 77, s 78, s 79, s 80, s 81, s 82, s 83, s 84, s 85, s 86, s 87, s 88, s 89, s 90, s 91, s 92, s 93, s 94, s 95, s 96, s 97, s 98, s 99, s 100, s 101, s 102, s 103, s 104, s 105, s 106, s 107, s 108, s 109, s 110, s 111, s 112, s 113, s 114, s 115, s 116, s 117, s 118])

def rdI (p3 p7 i t1 t2 : Nat) (s : List Nat) (H0 : AHeap) (j : Nat) (fr : AFrame) (H : AHeap) : Prop := Chg (· = p7 + 1) H0 H ∧ hown H (p7 + 1) = some (W32 (shU s j)) ∧ (∃ s : Nat → AV, fr = [s 0, s 1, s 2, .c (.ptr p3 0), .c (.ptr (p3 + 1) 0), s 5, .c (.ptr (p3 + 2) 0), .c (.ptr p7 0), .c (.ptr (p7 + 1) 0), .c (.int .i64 (i : Int)), s 10, s 11, .c (.int .u32 (t1 : Int)), s 13, s 14, .c (.int .u32 (t2 : Int)), .c (.int .i64 ((7 - j : Nat) : Int)), s 17, s 18, s 19, s 20, s 21, s 22, s 23, s 24, s 25, s 26, s 27, s 28, s 29, s 30, s 31, s 32, s 33, s 34, s 35, s 36, s 37, s 38, s 39, s 40, s 41, s 42, s 43, s 44, s 45, s 46, s 47, s 48, s 49, s 50, s 51, s 52, s 53, s 54, s 55, s 56, s 57, s 58, s 59, s 60, s 61, s 62, s 63, s 64, s 65, s 66, s 67, s 68, s 69, s 70, s 71, s 72, s 73, s 74, s 75, s 76, s 77, s 78, s 79, s 80, s 81, s 82, s 83, s 84, s 85, s 86, s 87, s 88, s 89, s 90, s 91, s 92, s 93, s 94, s 95, s 96, s 97, s 98, s 99, s 100, s 101, s 102, s 103, s 104, s 105, s 106, s 107, s 108, s 109, s 110, s 111, s 112, s 113, s 114, s 115, s 116, s 117, s 118])

def reI (p3 p7 : Nat) (us s : List Nat) (H0 : AHeap) (i : Nat) (fr : AFrame) (H : AHeap) : Prop := Chg (· = p7 + 1) H0 H ∧ hown H (p7 + 1) = some (W32 (addTo us s i)) ∧ (∃ s : Nat → AV, fr = [s 0, s 1, s 2, s 3, .c (.ptr (p3 + 1) 0), s 5, .c (.ptr (p3 + 2) 0), s 7, .c (.ptr (p7 + 1) 0), s 9, s 10, s 11, s 12, s 13, s 14, s 15, s 16, .c (.int .i64 (i : Int)), s 18, s 19, s 20, s 21, s 22, s 23, s 24, s 25, s 26, s 27, s 28, s 29, s 30, s 31, s 32, s 33, s 34, s 35, s 36, s 37, s 38, s 39, s 40, s 41, s 42, s 43, s 44, s 45, s 46, s 47, s 48, s 49, s 50, s 51, s 52, s 53, s 54, s 55, s 56, s 57, s 58, s 59, s 60, s 61, s 62, s 63, s 64, s 65, s 66, s 67, s 68, s 69, s 70, s 71, s 72, s 73, s 74, s 75, s 76, s 77, s 78, s 79, s 80, s 81, s 82, s 83, s 84, s 85, s 86, s 87, s 88, s 89, s 90, s 91, s 92, s 93, s 94, s 95, s 96, s 97, s 98, s 99, s 100, s 101, s 102, s 103, s 104, s 105, s 106, s 107, s 108, s 109, s 110, s 111, s 112, s 113, s 114, s 115, s 116, s 117, s 118])

theorem AC_refCompress (H : AHeap) (s : List Nat) (bs : List UInt8) (hs : Wd 8 s) (hl : bs.length = 64) :
    AC A H.length F_pestleref05_Compress [.agg (W32 (Ks ++ Is)), .agg (W32 s), .c (.str bs)] H (fun v H' => v = .agg (W32 (compO s (toN bs)))) := by
  have hcomp : compO s (toN bs) = addW s (rnds Ks (exW (wide (tk 4 (3 - ·) (toN bs) (toN bs).length)) 48) s 64) := rfl
  rw [hcomp]; clear hcomp
  have hwe : Wd 64 (exW (wide (tk 4 (3 - ·) (toN bs) (toN bs).length)) 48) := (tk16 (by rw [toN_length]; exact hl)).wide.ex 48
  have hK := Ks_wd
  have hkn : ∀ i, i < 64 → (W32 (Ks ++ Is))[i]? = some (.int .u32 ((Ks.getD i 0 : Nat) : Int)) := fun i hi => by
    rw [W32_app, List.getElem?_append_left (by rw [hK.len]; exact hi)]; exact hK.get hi
  have hknl : (W32 (Ks ++ Is)).length = 72 := by rw [W32_length, List.length_append, hK.1, Is_wd.1]
  refine AC_enter t_pestleref05_Compress ?_; simp only [c_pestleref05_Compress, enterA, List.replicate, List.length_cons, List.length_nil, Nat.reduceAdd, Nat.reduceSub, List.cons_append, List.nil_append]
  generalize W32 (Ks ++ Is) = kn at *
  generalize Ks = ks at *
  (repeat (first | with_reducible (first | refine thenQ_n ?_ | refine blockQ_n ?_ | refine thenQ_e ?_ | refine thenQ_r ?_ | refine blockQ_r ?_ | refine blockQ_s ?_ | refine blockQ_o rfl ?_) | refine AW_skip ?_ | refine AW_seq ?_ | refine AW_ops ?_ | refine AW_blockS ?_ | refine AW_blockR ?_ | refine AW_blockD ?_ | refine AW_blockC ?_ | refine AO_nil ?_ | refine AW_draw ?_ | refine AW_draw3 ?_ | refine AW_blockD3 ?_ | (refine AW_drawA ?_; simp only [atBlk, Sm]) | refine AHd_nil ?_ | with_reducible (first | refine AP_at ?_ | refine AHP_at ?_) | (with_reducible (first | apply AO_any | apply AHd_any | apply AP_go | apply AHP_go); focus (simp only [Sm, wantedA, execA, stepA, List.getElem?_cons_zero, List.getElem?_cons_succ, if_true, if_false, binA, binInt, unA, eqA, Option.map, eq_self, reduceCtorEq, ite_true, ite_false, fitsAll, CK.fits, fillA, AV.cells, writeN, sliceCells, appendA, lenA, i64, loA, hiA, Nat.reduceAdd, Nat.reduceMul, Nat.reduceDiv, Nat.reduceSub, Nat.reduceLeDiff, Nat.reduceLT, Int.reduceLE, Int.reduceLT, foldA, maxA, minA, Int.reduceBEq, Int.reduceBNe, Int.reduceGT, Int.reduceGE, Int.reduceEq, Int.reduceNe, Int.reduceToNat, AOp.stops, ↓want_eq, ↓exec_lenX, ↓exec_storeX, ↓exec_storeN, storeN_one, ↓exec_bsX, ↓exec_sliceX, ↓exec_copyX, ↓exec_appNil, ↓exec_carryX, Nat.sub_zero, rep_len]; with_reducible first | exact EqP.at_ | exact EqP.cont | exact EqP.hcont | exact EqP.gate | exact EqP.hgate)) | (refine AW_ift ?_ ?_; focus (simp only [Sm]; done)) | (refine AW_iff ?_ ?_; focus (simp only [Sm]; done))))
  have hp := hs.len
  obtain ⟨H1, e1, o3, o4, o6, l1⟩ : ∃ H1, H1 = H ++ [Blk.own kn] ++ [Blk.own (W32 s)] ++ [Blk.own (rep 8 (.int .u32 0))] ∧ hown H1 H.length = some kn ∧ hown H1 (H.length + 1) = some (W32 s) ∧ hown H1 (H.length + 2) = some (rep 8 (.int .u32 0)) ∧ H1.length = H.length + 3 := by
    refine ⟨_, rfl, hown_app (hown_app hown_last), ?_, ?_, by simp⟩
    · have := hown_last (H := H ++ [Blk.own kn]) (cs := W32 s); simp only [List.length_append, List.length_cons, List.length_nil] at this; exact hown_app this
    · have := hown_last (H := H ++ [Blk.own kn] ++ [Blk.own (W32 s)]) (cs := rep 8 (.int .u32 0)); simp only [List.length_append, List.length_cons, List.length_nil] at this; exact this
  rw [← e1]
  clear e1
  refine AO_call rfl (((AC_refSpread H1 bs hl).kept (Nat.le_refl _)).floor (by omega)) ?_
  rintro _ H2 ⟨rfl, k2⟩
  generalize exW (wide (tk 4 (3 - ·) (toN bs) (toN bs).length)) 48 = ws at *
  have l2 := k2.1
  have o32 := (Chg.of_kept k2).hown (fun h => h) o3
  have o42 := (Chg.of_kept k2).hown (fun h => h) o4
  have o62 := (Chg.of_kept k2).hown (fun h => h) o6
  clear o3 o4 o6 k2
  have o7 : hown (H2 ++ [Blk.own (rep 64 (.int .u32 0))]) H2.length = some (rep 64 (.int .u32 0)) := hown_last
  obtain ⟨H3, s3, u7, c3, l3⟩ := storeN_ex (n := 64) o7 (by omega : H.length ≤ H2.length) rep_len (W32 ws) hwe.len
  have l3 : H3.length = H2.length + 1 := by rw [l3]; simp
  have u3 := c3.hown (by omega : ¬ H.length = H2.length) (hown_app o32)
  have u4 := c3.hown (by omega : ¬ H.length + 1 = H2.length) (hown_app o42)
  have u6 := c3.hown (by omega : ¬ H.length + 2 = H2.length) (hown_app o62)
  have r4 : readN H3 (H.length + 1) 0 8 = some (W32 s) := by have := readN_all (hcells_own u4); rw [hp] at this; exact this
  have o8 : hown (H3 ++ [Blk.own (rep 8 (.int .u32 0))]) H3.length = some (rep 8 (.int .u32 0)) := hown_last
  obtain ⟨H4, s4, v8, c4, l4⟩ := storeN_ex (n := 8) o8 (by omega : H.length ≤ H3.length) rep_len (W32 s) hp
  have l4 : H4.length = H3.length + 1 := by rw [l4]; simp
  have v3 := c4.hown (by omega : ¬ H.length = H3.length) (hown_app u3)
  have v4 := c4.hown (by omega : ¬ H.length + 1 = H3.length) (hown_app u4)
  have v6 := c4.hown (by omega : ¬ H.length + 2 = H3.length) (hown_app u6)
  have v7 := c4.hown (by omega : ¬ H2.length = H3.length) (hown_app u7)
  (repeat (first | with_reducible (first | refine thenQ_n ?_ | refine blockQ_n ?_ | refine thenQ_e ?_ | refine thenQ_r ?_ | refine blockQ_r ?_ | refine blockQ_s ?_ | refine blockQ_o rfl ?_) | refine AW_skip ?_ | refine AW_seq ?_ | refine AW_ops ?_ | refine AW_blockS ?_ | refine AW_blockR ?_ | refine AW_blockD ?_ | refine AW_blockC ?_ | refine AO_nil ?_ | refine AW_draw ?_ | refine AW_draw3 ?_ | refine AW_blockD3 ?_ | (refine AW_drawA ?_; simp only [atBlk, Sm]) | refine AHd_nil ?_ | with_reducible (first | refine AP_at ?_ | refine AHP_at ?_) | (with_reducible (first | apply AO_any | apply AHd_any | apply AP_go | apply AHP_go); focus (simp only [Sm, wantedA, execA, stepA, List.getElem?_cons_zero, List.getElem?_cons_succ, if_true, if_false, binA, binInt, unA, eqA, Option.map, eq_self, reduceCtorEq, ite_true, ite_false, fitsAll, CK.fits, fillA, AV.cells, writeN, sliceCells, appendA, lenA, i64, loA, hiA, Nat.reduceAdd, Nat.reduceMul, Nat.reduceDiv, Nat.reduceSub, Nat.reduceLeDiff, Nat.reduceLT, Int.reduceLE, Int.reduceLT, foldA, maxA, minA, Int.reduceBEq, Int.reduceBNe, Int.reduceGT, Int.reduceGE, Int.reduceEq, Int.reduceNe, Int.reduceToNat, AOp.stops, ↓want_eq, ↓exec_lenX, ↓exec_storeX, ↓exec_storeN, storeN_one, ↓exec_bsX, ↓exec_sliceX, ↓exec_copyX, ↓exec_appNil, ↓exec_carryX, Nat.sub_zero, rep_len, s3, ↓r4, s4]; with_reducible first | exact EqP.at_ | exact EqP.cont | exact EqP.hcont | exact EqP.gate | exact EqP.hgate)) | (refine AW_ift ?_ ?_; focus (simp only [Sm]; done)) | (refine AW_iff ?_ ?_; focus (simp only [Sm]; done))))
  rw [l3] at v8 ⊢
  generalize hp3 : H.length = p3 at *
  generalize hp7 : H2.length = p7 at *
  refine AW_mid (fun e fr H' => e = .normal ∧ rcI p3 p7 ks ws s H4 64 fr H') ?_ ?_
  · refine AW_block (AW_up (rcI p3 p7 ks ws s H4) 64 ⟨Chg.refl _ _, v8, stale _ _ rfl⟩ ?_)
    rintro i fr H5 hi ⟨c5, o5, st, rfl⟩
    have hwd := rnds_wd (ks := ks) (ws := ws) hs i
    have hsucc : rnds ks ws s (i + 1) = rndO (ks.getD i 0) (ws.getD i 0) (rnds ks ws s i) := rfl
    generalize hu : rnds ks ws s i = u at *
    (repeat (first | with_reducible (first | refine thenQ_n ?_ | refine blockQ_n ?_ | refine thenQ_e ?_ | refine thenQ_r ?_ | refine blockQ_r ?_ | refine blockQ_s ?_ | refine blockQ_o rfl ?_) | refine AW_skip ?_ | refine AW_seq ?_ | refine AW_ops ?_ | refine AW_blockS ?_ | refine AW_blockR ?_ | refine AW_blockD ?_ | refine AW_blockC ?_ | refine AO_nil ?_ | refine AW_draw ?_ | refine AW_draw3 ?_ | refine AW_blockD3 ?_ | (refine AW_drawA ?_; simp only [atBlk, Sm]) | refine AHd_nil ?_ | with_reducible (first | refine AP_at ?_ | refine AHP_at ?_) | (with_reducible (first | apply AO_any | apply AHd_any | apply AP_go | apply AHP_go); focus (simp only [Sm, wantedA, execA, stepA, List.getElem?_cons_zero, List.getElem?_cons_succ, if_true, if_false, binA, binInt, unA, eqA, Option.map, eq_self, reduceCtorEq, ite_true, ite_false, fitsAll, CK.fits, fillA, AV.cells, writeN, sliceCells, appendA, lenA, i64, loA, hiA, Nat.reduceAdd, Nat.reduceMul, Nat.reduceDiv, Nat.reduceSub, Nat.reduceLeDiff, Nat.reduceLT, Int.reduceLE, Int.reduceLT, foldA, maxA, minA, Int.reduceBEq, Int.reduceBNe, Int.reduceGT, Int.reduceGE, Int.reduceEq, Int.reduceNe, Int.reduceToNat, AOp.stops, ↓want_eq, ↓exec_lenX, ↓exec_storeX, ↓exec_storeN, storeN_one, ↓exec_bsX, ↓exec_sliceX, ↓exec_copyX, ↓exec_appNil, ↓exec_carryX, Nat.sub_zero, rep_len]; with_reducible first | exact EqP.at_ | exact EqP.cont | exact EqP.hcont | exact EqP.gate | exact EqP.hgate)) | (refine AW_ift ?_ ?_; focus (simp only [Sm]; done)) | (refine AW_iff ?_ ?_; focus (simp only [Sm]; done))))
    refine AW_cond rfl ?_ ?_ <;> intro ht
    · have ht : (i : Int) < 64 := of_decide_eq_true ht
      have hi2 : i < 64 := by omega
      obtain ⟨a, b, c, d, e, f, g, h, hse, b0, b1, b2, b3, b4, b5, b6, b7⟩ := Wd8 hwd
      have g0 : (W32 u)[0]? = some (.int .u32 (a : Int)) := by rw [hse]; rfl
      have g1 : (W32 u)[1]? = some (.int .u32 (b : Int)) := by rw [hse]; rfl
      have g2 : (W32 u)[2]? = some (.int .u32 (c : Int)) := by rw [hse]; rfl
      have g4 : (W32 u)[4]? = some (.int .u32 (e : Int)) := by rw [hse]; rfl
      have g5 : (W32 u)[5]? = some (.int .u32 (f : Int)) := by rw [hse]; rfl
      have g6 : (W32 u)[6]? = some (.int .u32 (g : Int)) := by rw [hse]; rfl
      have g7 : (W32 u)[7]? = some (.int .u32 (h : Int)) := by rw [hse]; rfl
      have hc8 := hcells_own o5
      have hc3 := hcells_own (c5.hown (by omega : ¬ p3 = p7 + 1) v3)
      have hc7 := hcells_own (c5.hown (by omega : ¬ p7 = p7 + 1) v7)
      have gk := hkn i hi2
      have gw := hwe.get (i := i) hi2
      have kk := hK.2 i
      have kw := hwe.2 i
      generalize ks.getD i 0 = kc at *
      generalize ws.getD i 0 = wc at *
      have r6 := rt_lt (n := 6) (by omega) b4
      have r11 := rt_lt (n := 11) (by omega) b4
      have r25 := rt_lt (n := 25) (by omega) b4
      have r2 := rt_lt (n := 2) (by omega) b0
      have r13 := rt_lt (n := 13) (by omega) b0
      have r22 := rt_lt (n := 22) (by omega) b0
      have x1 := xo32 r6 r11
      have x2 : bitsA .xor .u32 ((rt 6 e ^^^ rt 11 e : Nat) : Int) ((rt 25 e : Nat) : Int) = ((sB1 e : Nat) : Int) := xo32 (xo_lt r6 r11) r25
      have x3 := xo32 r2 r13
      have x4 : bitsA .xor .u32 ((rt 2 a ^^^ rt 13 a : Nat) : Int) ((rt 22 a : Nat) : Int) = ((sB0 a : Nat) : Int) := xo32 (xo_lt r2 r13) r22
      have y1 := an32 b4 b5
      have yn := sub32 b4
      have y2 := an32 (a := 4294967295 - e) (b := g) (by omega) b6
      have y3 : bitsA .xor .u32 ((e &&& f : Nat) : Int) (((4294967295 - e) &&& g : Nat) : Int) = ((chO e f g : Nat) : Int) := xo32 (an_lt b4) (an_lt (by omega))
      have z1 := an32 b0 b1
      have z2 := an32 b0 b2
      have z3 := an32 b1 b2
      have z4 := xo32 (an_lt (b := b) b0) (an_lt (b := c) b0)
      have z5 : bitsA .xor .u32 (((a &&& b) ^^^ (a &&& c) : Nat) : Int) ((b &&& c : Nat) : Int) = ((mjO a b c : Nat) : Int) := xo32 (xo_lt (an_lt b0) (an_lt b0)) (an_lt b1)
      have l5 : p7 + 2 ≤ H5.length := by have := c5.1; omega
      (repeat (first | with_reducible (first | refine thenQ_n ?_ | refine blockQ_n ?_ | refine thenQ_e ?_ | refine thenQ_r ?_ | refine blockQ_r ?_ | refine blockQ_s ?_ | refine blockQ_o rfl ?_) | refine AW_skip ?_ | refine AW_seq ?_ | refine AW_ops ?_ | refine AW_blockS ?_ | refine AW_blockR ?_ | refine AW_blockD ?_ | refine AW_blockC ?_ | refine AO_nil ?_ | refine AW_draw ?_ | refine AW_draw3 ?_ | refine AW_blockD3 ?_ | (refine AW_drawA ?_; simp only [atBlk, Sm]) | refine AHd_nil ?_ | with_reducible (first | refine AP_at ?_ | refine AHP_at ?_) | (with_reducible (first | apply AO_any | apply AHd_any | apply AP_go | apply AHP_go); focus (simp only [Sm, wantedA, execA, stepA, List.getElem?_cons_zero, List.getElem?_cons_succ, if_true, if_false, binA, binInt, unA, eqA, Option.map, eq_self, reduceCtorEq, ite_true, ite_false, fitsAll, CK.fits, fillA, AV.cells, writeN, sliceCells, appendA, lenA, i64, loA, hiA, Nat.reduceAdd, Nat.reduceMul, Nat.reduceDiv, Nat.reduceSub, Nat.reduceLeDiff, Nat.reduceLT, Int.reduceLE, Int.reduceLT, foldA, maxA, minA, Int.reduceBEq, Int.reduceBNe, Int.reduceGT, Int.reduceGE, Int.reduceEq, Int.reduceNe, Int.reduceToNat, AOp.stops, ↓want_eq, ↓exec_lenX, ↓exec_storeX, ↓exec_storeN, storeN_one, ↓exec_bsX, ↓exec_sliceX, ↓exec_copyX, ↓exec_appNil, ↓exec_carryX, Nat.sub_zero, rep_len, hc8, g4, g5, g6, g7, y1, yn, y2, y3]; with_reducible first | exact EqP.at_ | exact EqP.cont | exact EqP.hcont | exact EqP.gate | exact EqP.hgate)) | (refine AW_ift ?_ ?_; focus (simp only [Sm]; done)) | (refine AW_iff ?_ ?_; focus (simp only [Sm]; done))))
      refine AHd_call rfl (AC_refRight H5 6 e (by omega) (by omega) b4) ?_
      rintro _ _ ⟨rfl, rfl⟩ -
      (repeat (first | with_reducible (first | refine thenQ_n ?_ | refine blockQ_n ?_ | refine thenQ_e ?_ | refine thenQ_r ?_ | refine blockQ_r ?_ | refine blockQ_s ?_ | refine blockQ_o rfl ?_) | refine AW_skip ?_ | refine AW_seq ?_ | refine AW_ops ?_ | refine AW_blockS ?_ | refine AW_blockR ?_ | refine AW_blockD ?_ | refine AW_blockC ?_ | refine AO_nil ?_ | refine AW_draw ?_ | refine AW_draw3 ?_ | refine AW_blockD3 ?_ | (refine AW_drawA ?_; simp only [atBlk, Sm]) | refine AHd_nil ?_ | with_reducible (first | refine AP_at ?_ | refine AHP_at ?_) | (with_reducible (first | apply AO_any | apply AHd_any | apply AP_go | apply AHP_go); focus (simp only [Sm, wantedA, execA, stepA, List.getElem?_cons_zero, List.getElem?_cons_succ, if_true, if_false, binA, binInt, unA, eqA, Option.map, eq_self, reduceCtorEq, ite_true, ite_false, fitsAll, CK.fits, fillA, AV.cells, writeN, sliceCells, appendA, lenA, i64, loA, hiA, Nat.reduceAdd, Nat.reduceMul, Nat.reduceDiv, Nat.reduceSub, Nat.reduceLeDiff, Nat.reduceLT, Int.reduceLE, Int.reduceLT, foldA, maxA, minA, Int.reduceBEq, Int.reduceBNe, Int.reduceGT, Int.reduceGE, Int.reduceEq, Int.reduceNe, Int.reduceToNat, AOp.stops, ↓want_eq, ↓exec_lenX, ↓exec_storeX, ↓exec_storeN, storeN_one, ↓exec_bsX, ↓exec_sliceX, ↓exec_copyX, ↓exec_appNil, ↓exec_carryX, Nat.sub_zero, rep_len]; with_reducible first | exact EqP.at_ | exact EqP.cont | exact EqP.hcont | exact EqP.gate | exact EqP.hgate)) | (refine AW_ift ?_ ?_; focus (simp only [Sm]; done)) | (refine AW_iff ?_ ?_; focus (simp only [Sm]; done))))
      refine AHd_call rfl (AC_refRight H5 11 e (by omega) (by omega) b4) ?_
      rintro _ _ ⟨rfl, rfl⟩ -
      (repeat (first | with_reducible (first | refine thenQ_n ?_ | refine blockQ_n ?_ | refine thenQ_e ?_ | refine thenQ_r ?_ | refine blockQ_r ?_ | refine blockQ_s ?_ | refine blockQ_o rfl ?_) | refine AW_skip ?_ | refine AW_seq ?_ | refine AW_ops ?_ | refine AW_blockS ?_ | refine AW_blockR ?_ | refine AW_blockD ?_ | refine AW_blockC ?_ | refine AO_nil ?_ | refine AW_draw ?_ | refine AW_draw3 ?_ | refine AW_blockD3 ?_ | (refine AW_drawA ?_; simp only [atBlk, Sm]) | refine AHd_nil ?_ | with_reducible (first | refine AP_at ?_ | refine AHP_at ?_) | (with_reducible (first | apply AO_any | apply AHd_any | apply AP_go | apply AHP_go); focus (simp only [Sm, wantedA, execA, stepA, List.getElem?_cons_zero, List.getElem?_cons_succ, if_true, if_false, binA, binInt, unA, eqA, Option.map, eq_self, reduceCtorEq, ite_true, ite_false, fitsAll, CK.fits, fillA, AV.cells, writeN, sliceCells, appendA, lenA, i64, loA, hiA, Nat.reduceAdd, Nat.reduceMul, Nat.reduceDiv, Nat.reduceSub, Nat.reduceLeDiff, Nat.reduceLT, Int.reduceLE, Int.reduceLT, foldA, maxA, minA, Int.reduceBEq, Int.reduceBNe, Int.reduceGT, Int.reduceGE, Int.reduceEq, Int.reduceNe, Int.reduceToNat, AOp.stops, ↓want_eq, ↓exec_lenX, ↓exec_storeX, ↓exec_storeN, storeN_one, ↓exec_bsX, ↓exec_sliceX, ↓exec_copyX, ↓exec_appNil, ↓exec_carryX, Nat.sub_zero, rep_len, x1]; with_reducible first | exact EqP.at_ | exact EqP.cont | exact EqP.hcont | exact EqP.gate | exact EqP.hgate)) | (refine AW_ift ?_ ?_; focus (simp only [Sm]; done)) | (refine AW_iff ?_ ?_; focus (simp only [Sm]; done))))
      refine AHd_call rfl (AC_refRight H5 25 e (by omega) (by omega) b4) ?_
      rintro _ _ ⟨rfl, rfl⟩ -
      (repeat (first | with_reducible (first | refine thenQ_n ?_ | refine blockQ_n ?_ | refine thenQ_e ?_ | refine thenQ_r ?_ | refine blockQ_r ?_ | refine blockQ_s ?_ | refine blockQ_o rfl ?_) | refine AW_skip ?_ | refine AW_seq ?_ | refine AW_ops ?_ | refine AW_blockS ?_ | refine AW_blockR ?_ | refine AW_blockD ?_ | refine AW_blockC ?_ | refine AO_nil ?_ | refine AW_draw ?_ | refine AW_draw3 ?_ | refine AW_blockD3 ?_ | (refine AW_drawA ?_; simp only [atBlk, Sm]) | refine AHd_nil ?_ | with_reducible (first | refine AP_at ?_ | refine AHP_at ?_) | (with_reducible (first | apply AO_any | apply AHd_any | apply AP_go | apply AHP_go); focus (simp only [Sm, wantedA, execA, stepA, List.getElem?_cons_zero, List.getElem?_cons_succ, if_true, if_false, binA, binInt, unA, eqA, Option.map, eq_self, reduceCtorEq, ite_true, ite_false, fitsAll, CK.fits, fillA, AV.cells, writeN, sliceCells, appendA, lenA, i64, loA, hiA, Nat.reduceAdd, Nat.reduceMul, Nat.reduceDiv, Nat.reduceSub, Nat.reduceLeDiff, Nat.reduceLT, Int.reduceLE, Int.reduceLT, foldA, maxA, minA, Int.reduceBEq, Int.reduceBNe, Int.reduceGT, Int.reduceGE, Int.reduceEq, Int.reduceNe, Int.reduceToNat, AOp.stops, ↓want_eq, ↓exec_lenX, ↓exec_storeX, ↓exec_storeN, storeN_one, ↓exec_bsX, ↓exec_sliceX, ↓exec_copyX, ↓exec_appNil, ↓exec_carryX, Nat.sub_zero, rep_len, x2, wrap_ad, hc3, ht, gk, hc7, gw, Nat.zero_add, hc8, g0, g1, g2, z1, z2, z3, z4, z5]; with_reducible first | exact EqP.at_ | exact EqP.cont | exact EqP.hcont | exact EqP.gate | exact EqP.hgate)) | (refine AW_ift ?_ ?_; focus (simp only [Sm]; done)) | (refine AW_iff ?_ ?_; focus (simp only [Sm]; done))))
      refine AO_call rfl ((AC_refRight H5 2 a (by omega) (by omega) b0).floor (by omega)) ?_
      rintro _ _ ⟨rfl, rfl⟩
      (repeat (first | with_reducible (first | refine thenQ_n ?_ | refine blockQ_n ?_ | refine thenQ_e ?_ | refine thenQ_r ?_ | refine blockQ_r ?_ | refine blockQ_s ?_ | refine blockQ_o rfl ?_) | refine AW_skip ?_ | refine AW_seq ?_ | refine AW_ops ?_ | refine AW_blockS ?_ | refine AW_blockR ?_ | refine AW_blockD ?_ | refine AW_blockC ?_ | refine AO_nil ?_ | refine AW_draw ?_ | refine AW_draw3 ?_ | refine AW_blockD3 ?_ | (refine AW_drawA ?_; simp only [atBlk, Sm]) | refine AHd_nil ?_ | with_reducible (first | refine AP_at ?_ | refine AHP_at ?_) | (with_reducible (first | apply AO_any | apply AHd_any | apply AP_go | apply AHP_go); focus (simp only [Sm, wantedA, execA, stepA, List.getElem?_cons_zero, List.getElem?_cons_succ, if_true, if_false, binA, binInt, unA, eqA, Option.map, eq_self, reduceCtorEq, ite_true, ite_false, fitsAll, CK.fits, fillA, AV.cells, writeN, sliceCells, appendA, lenA, i64, loA, hiA, Nat.reduceAdd, Nat.reduceMul, Nat.reduceDiv, Nat.reduceSub, Nat.reduceLeDiff, Nat.reduceLT, Int.reduceLE, Int.reduceLT, foldA, maxA, minA, Int.reduceBEq, Int.reduceBNe, Int.reduceGT, Int.reduceGE, Int.reduceEq, Int.reduceNe, Int.reduceToNat, AOp.stops, ↓want_eq, ↓exec_lenX, ↓exec_storeX, ↓exec_storeN, storeN_one, ↓exec_bsX, ↓exec_sliceX, ↓exec_copyX, ↓exec_appNil, ↓exec_carryX, Nat.sub_zero, rep_len]; with_reducible first | exact EqP.at_ | exact EqP.cont | exact EqP.hcont | exact EqP.gate | exact EqP.hgate)) | (refine AW_ift ?_ ?_; focus (simp only [Sm]; done)) | (refine AW_iff ?_ ?_; focus (simp only [Sm]; done))))
      refine AO_call rfl ((AC_refRight H5 13 a (by omega) (by omega) b0).floor (by omega)) ?_
      rintro _ _ ⟨rfl, rfl⟩
      (repeat (first | with_reducible (first | refine thenQ_n ?_ | refine blockQ_n ?_ | refine thenQ_e ?_ | refine thenQ_r ?_ | refine blockQ_r ?_ | refine blockQ_s ?_ | refine blockQ_o rfl ?_) | refine AW_skip ?_ | refine AW_seq ?_ | refine AW_ops ?_ | refine AW_blockS ?_ | refine AW_blockR ?_ | refine AW_blockD ?_ | refine AW_blockC ?_ | refine AO_nil ?_ | refine AW_draw ?_ | refine AW_draw3 ?_ | refine AW_blockD3 ?_ | (refine AW_drawA ?_; simp only [atBlk, Sm]) | refine AHd_nil ?_ | with_reducible (first | refine AP_at ?_ | refine AHP_at ?_) | (with_reducible (first | apply AO_any | apply AHd_any | apply AP_go | apply AHP_go); focus (simp only [Sm, wantedA, execA, stepA, List.getElem?_cons_zero, List.getElem?_cons_succ, if_true, if_false, binA, binInt, unA, eqA, Option.map, eq_self, reduceCtorEq, ite_true, ite_false, fitsAll, CK.fits, fillA, AV.cells, writeN, sliceCells, appendA, lenA, i64, loA, hiA, Nat.reduceAdd, Nat.reduceMul, Nat.reduceDiv, Nat.reduceSub, Nat.reduceLeDiff, Nat.reduceLT, Int.reduceLE, Int.reduceLT, foldA, maxA, minA, Int.reduceBEq, Int.reduceBNe, Int.reduceGT, Int.reduceGE, Int.reduceEq, Int.reduceNe, Int.reduceToNat, AOp.stops, ↓want_eq, ↓exec_lenX, ↓exec_storeX, ↓exec_storeN, storeN_one, ↓exec_bsX, ↓exec_sliceX, ↓exec_copyX, ↓exec_appNil, ↓exec_carryX, Nat.sub_zero, rep_len, x3]; with_reducible first | exact EqP.at_ | exact EqP.cont | exact EqP.hcont | exact EqP.gate | exact EqP.hgate)) | (refine AW_ift ?_ ?_; focus (simp only [Sm]; done)) | (refine AW_iff ?_ ?_; focus (simp only [Sm]; done))))
      refine AO_call rfl ((AC_refRight H5 22 a (by omega) (by omega) b0).floor (by omega)) ?_
      rintro _ _ ⟨rfl, rfl⟩
      (repeat (first | with_reducible (first | refine thenQ_n ?_ | refine blockQ_n ?_ | refine thenQ_e ?_ | refine thenQ_r ?_ | refine blockQ_r ?_ | refine blockQ_s ?_ | refine blockQ_o rfl ?_) | refine AW_skip ?_ | refine AW_seq ?_ | refine AW_ops ?_ | refine AW_blockS ?_ | refine AW_blockR ?_ | refine AW_blockD ?_ | refine AW_blockC ?_ | refine AO_nil ?_ | refine AW_draw ?_ | refine AW_draw3 ?_ | refine AW_blockD3 ?_ | (refine AW_drawA ?_; simp only [atBlk, Sm]) | refine AHd_nil ?_ | with_reducible (first | refine AP_at ?_ | refine AHP_at ?_) | (with_reducible (first | apply AO_any | apply AHd_any | apply AP_go | apply AHP_go); focus (simp only [Sm, wantedA, execA, stepA, List.getElem?_cons_zero, List.getElem?_cons_succ, if_true, if_false, binA, binInt, unA, eqA, Option.map, eq_self, reduceCtorEq, ite_true, ite_false, fitsAll, CK.fits, fillA, AV.cells, writeN, sliceCells, appendA, lenA, i64, loA, hiA, Nat.reduceAdd, Nat.reduceMul, Nat.reduceDiv, Nat.reduceSub, Nat.reduceLeDiff, Nat.reduceLT, Int.reduceLE, Int.reduceLT, foldA, maxA, minA, Int.reduceBEq, Int.reduceBNe, Int.reduceGT, Int.reduceGE, Int.reduceEq, Int.reduceNe, Int.reduceToNat, AOp.stops, ↓want_eq, ↓exec_lenX, ↓exec_storeX, ↓exec_storeN, storeN_one, ↓exec_bsX, ↓exec_sliceX, ↓exec_copyX, ↓exec_appNil, ↓exec_carryX, Nat.sub_zero, rep_len, x4, wrap_ad]; with_reducible first | exact EqP.at_ | exact EqP.cont | exact EqP.hcont | exact EqP.gate | exact EqP.hgate)) | (refine AW_ift ?_ ?_; focus (simp only [Sm]; done)) | (refine AW_iff ?_ ?_; focus (simp only [Sm]; done))))
      have ht1 : ad (ad (ad (ad h (sB1 e)) (chO e f g)) kc) wc = t1O kc wc e f g h := rfl
      have ht2 : ad (sB0 a) (mjO a b c) = t2O a b c := rfl
      rw [ht1, ht2]
      generalize ht1v : t1O kc wc e f g h = t1 at *
      generalize ht2v : t2O a b c = t2 at *
      refine AW_mid (fun e fr H' => e = .normal ∧ rdI p3 p7 i t1 t2 u H5 7 fr H') ?_ ?_
      · refine AW_block (AW_up (rdI p3 p7 i t1 t2 u H5) 7 ⟨Chg.refl _ _, o5, stale _ _ rfl⟩ ?_)
        rintro j fr H6 hj ⟨c6, o6, st, rfl⟩
        have hS := shU_wd hwd j
        have hsj : shU u (j + 1) = (shU u j).set (7 - j) ((shU u j).getD (6 - j) 0) := rfl
        generalize huj : shU u j = uj at *
        (repeat (first | with_reducible (first | refine thenQ_n ?_ | refine blockQ_n ?_ | refine thenQ_e ?_ | refine thenQ_r ?_ | refine blockQ_r ?_ | refine blockQ_s ?_ | refine blockQ_o rfl ?_) | refine AW_skip ?_ | refine AW_seq ?_ | refine AW_ops ?_ | refine AW_blockS ?_ | refine AW_blockR ?_ | refine AW_blockD ?_ | refine AW_blockC ?_ | refine AO_nil ?_ | refine AW_draw ?_ | refine AW_draw3 ?_ | refine AW_blockD3 ?_ | (refine AW_drawA ?_; simp only [atBlk, Sm]) | refine AHd_nil ?_ | with_reducible (first | refine AP_at ?_ | refine AHP_at ?_) | (with_reducible (first | apply AO_any | apply AHd_any | apply AP_go | apply AHP_go); focus (simp only [Sm, wantedA, execA, stepA, List.getElem?_cons_zero, List.getElem?_cons_succ, if_true, if_false, binA, binInt, unA, eqA, Option.map, eq_self, reduceCtorEq, ite_true, ite_false, fitsAll, CK.fits, fillA, AV.cells, writeN, sliceCells, appendA, lenA, i64, loA, hiA, Nat.reduceAdd, Nat.reduceMul, Nat.reduceDiv, Nat.reduceSub, Nat.reduceLeDiff, Nat.reduceLT, Int.reduceLE, Int.reduceLT, foldA, maxA, minA, Int.reduceBEq, Int.reduceBNe, Int.reduceGT, Int.reduceGE, Int.reduceEq, Int.reduceNe, Int.reduceToNat, AOp.stops, ↓want_eq, ↓exec_lenX, ↓exec_storeX, ↓exec_storeN, storeN_one, ↓exec_bsX, ↓exec_sliceX, ↓exec_copyX, ↓exec_appNil, ↓exec_carryX, Nat.sub_zero, rep_len]; with_reducible first | exact EqP.at_ | exact EqP.cont | exact EqP.hcont | exact EqP.gate | exact EqP.hgate)) | (refine AW_ift ?_ ?_; focus (simp only [Sm]; done)) | (refine AW_iff ?_ ?_; focus (simp only [Sm]; done))))
        refine AW_cond rfl ?_ ?_ <;> intro htj
        · have htj : ((7 - j : Nat) : Int) > 0 := of_decide_eq_true htj
          have hj2 : j < 7 := by omega
          have e1 : IntKind.i64.wrap (((7 - j : Nat) : Int) - 1) = ((6 - j : Nat) : Int) := by rw [i64_of (by omega) (by omega)]; omega
          have b1 : ((6 - j : Nat) : Int) < 8 := by omega
          have b2 : ((7 - j : Nat) : Int) < 8 := by omega
          have b3 : 7 - j < 8 := by omega
          have q1 := hS.get (i := 6 - j) (by omega)
          have e2 : 7 - (j + 1) = 6 - j := by omega
          have h6 := hcells_own o6
          generalize uj.getD (6 - j) 0 = vv at *
          (repeat (first | with_reducible (first | refine thenQ_n ?_ | refine blockQ_n ?_ | refine thenQ_e ?_ | refine thenQ_r ?_ | refine blockQ_r ?_ | refine blockQ_s ?_ | refine blockQ_o rfl ?_) | refine AW_skip ?_ | refine AW_seq ?_ | refine AW_ops ?_ | refine AW_blockS ?_ | refine AW_blockR ?_ | refine AW_blockD ?_ | refine AW_blockC ?_ | refine AO_nil ?_ | refine AW_draw ?_ | refine AW_draw3 ?_ | refine AW_blockD3 ?_ | (refine AW_drawA ?_; simp only [atBlk, Sm]) | refine AHd_nil ?_ | with_reducible (first | refine AP_at ?_ | refine AHP_at ?_) | (with_reducible (first | apply AO_any | apply AHd_any | apply AP_go | apply AHP_go); focus (simp only [Sm, wantedA, execA, stepA, List.getElem?_cons_zero, List.getElem?_cons_succ, if_true, if_false, binA, binInt, unA, eqA, Option.map, eq_self, reduceCtorEq, ite_true, ite_false, fitsAll, CK.fits, fillA, AV.cells, writeN, sliceCells, appendA, lenA, i64, loA, hiA, Nat.reduceAdd, Nat.reduceMul, Nat.reduceDiv, Nat.reduceSub, Nat.reduceLeDiff, Nat.reduceLT, Int.reduceLE, Int.reduceLT, foldA, maxA, minA, Int.reduceBEq, Int.reduceBNe, Int.reduceGT, Int.reduceGE, Int.reduceEq, Int.reduceNe, Int.reduceToNat, AOp.stops, ↓want_eq, ↓exec_lenX, ↓exec_storeX, ↓exec_storeN, storeN_one, ↓exec_bsX, ↓exec_sliceX, ↓exec_copyX, ↓exec_appNil, ↓exec_carryX, Nat.sub_zero, rep_len, e1, b1, b2, h6, q1, Nat.zero_add, storeX_own o6 (by omega : p3 ≤ p7 + 1) (by rw [hS.len]; exact b3 : 7 - j < _)]; with_reducible first | exact EqP.at_ | exact EqP.cont | exact EqP.hcont | exact EqP.gate | exact EqP.hgate)) | (refine AW_ift ?_ ?_; focus (simp only [Sm]; done)) | (refine AW_iff ?_ ?_; focus (simp only [Sm]; done))))
          refine ⟨hj2, c6.trans (Chg.set (S := (· = p7 + 1)) rfl) fun _ _ h => h, ?_, stale _ _ (by rw [e2]; rfl)⟩
          rw [hown_set (hown_lt o6), W32_put, hsj]
        · obtain rfl : j = 7 := by have : ¬ ((7 - j : Nat) : Int) > 0 := of_decide_eq_false htj; omega
          subst huj
          exact AW_exit ⟨rfl, c6, o6, stale _ _ rfl⟩
      rintro x fr H6 ⟨rfl, c6, o6, st, rfl⟩
      have hsh : shU u 7 = [a, a, b, c, d, e, f, g] := by rw [hse]; rfl
      rw [hsh] at o6
      have q4 : (W32 [a, a, b, c, d, e, f, g])[4]? = some (.int .u32 (d : Int)) := rfl
      have h6 := hcells_own o6
      have hw4 : (W32 [a, a, b, c, d, e, f, g]).set 4 (.int .u32 ((ad d t1 : Nat) : Int)) = W32 [a, a, b, c, ad d t1, e, f, g] := rfl
      have hw0 : (W32 [a, a, b, c, ad d t1, e, f, g]).set 0 (.int .u32 ((ad t1 t2 : Nat) : Int)) = W32 [ad t1 t2, a, b, c, ad d t1, e, f, g] := rfl
      obtain ⟨H7, s7, o7', c7, l7⟩ := storeX_ex (o := 4) o6 (by omega : p3 ≤ p7 + 1) (by rw [W32_length]; simp) (.int .u32 ((ad d t1 : Nat) : Int))
      rw [hw4] at o7'
      obtain ⟨H8, s8, o8', c8, l8⟩ := storeX_ex (o := 0) o7' (by omega : p3 ≤ p7 + 1) (by rw [W32_length]; simp) (.int .u32 ((ad t1 t2 : Nat) : Int))
      rw [hw0] at o8'
      have esc := i64_succ (show i < 9223372036854775807 by omega)
      have h7 := hcells_own o7'
      (repeat (first | with_reducible (first | refine thenQ_n ?_ | refine blockQ_n ?_ | refine thenQ_e ?_ | refine thenQ_r ?_ | refine blockQ_r ?_ | refine blockQ_s ?_ | refine blockQ_o rfl ?_) | refine AW_skip ?_ | refine AW_seq ?_ | refine AW_ops ?_ | refine AW_blockS ?_ | refine AW_blockR ?_ | refine AW_blockD ?_ | refine AW_blockC ?_ | refine AO_nil ?_ | refine AW_draw ?_ | refine AW_draw3 ?_ | refine AW_blockD3 ?_ | (refine AW_drawA ?_; simp only [atBlk, Sm]) | refine AHd_nil ?_ | with_reducible (first | refine AP_at ?_ | refine AHP_at ?_) | (with_reducible (first | apply AO_any | apply AHd_any | apply AP_go | apply AHP_go); focus (simp only [Sm, wantedA, execA, stepA, List.getElem?_cons_zero, List.getElem?_cons_succ, if_true, if_false, binA, binInt, unA, eqA, Option.map, eq_self, reduceCtorEq, ite_true, ite_false, fitsAll, CK.fits, fillA, AV.cells, writeN, sliceCells, appendA, lenA, i64, loA, hiA, Nat.reduceAdd, Nat.reduceMul, Nat.reduceDiv, Nat.reduceSub, Nat.reduceLeDiff, Nat.reduceLT, Int.reduceLE, Int.reduceLT, foldA, maxA, minA, Int.reduceBEq, Int.reduceBNe, Int.reduceGT, Int.reduceGE, Int.reduceEq, Int.reduceNe, Int.reduceToNat, AOp.stops, ↓want_eq, ↓exec_lenX, ↓exec_storeX, ↓exec_storeN, storeN_one, ↓exec_bsX, ↓exec_sliceX, ↓exec_copyX, ↓exec_appNil, ↓exec_carryX, Nat.sub_zero, rep_len, h6, q4, wrap_ad, s7, h7, s8, esc]; with_reducible first | exact EqP.at_ | exact EqP.cont | exact EqP.hcont | exact EqP.gate | exact EqP.hgate)) | (refine AW_ift ?_ ?_; focus (simp only [Sm]; done)) | (refine AW_iff ?_ ?_; focus (simp only [Sm]; done))))
      have hfin : rnds ks ws s (i + 1) = [ad t1 t2, a, b, c, ad d t1, e, f, g] := by
        rw [hsucc, hse]; simp only [rndO, ht1v, ht2v]
      rw [← hfin] at o8'
      exact ⟨hi2, ((c5.trans c6 (fun _ _ h => h)).trans c7 (fun _ _ h => h)).trans c8 (fun _ _ h => h), o8', stale _ _ rfl⟩
    · obtain rfl : i = 64 := by have : ¬ (i : Int) < 64 := of_decide_eq_false ht; omega
      subst hu
      exact AW_exit ⟨rfl, c5, o5, stale _ _ rfl⟩
  rintro x fr H5 ⟨rfl, c5, o5, st, rfl⟩
  have hus := rnds_wd (ks := ks) (ws := ws) hs 64
  generalize rnds ks ws s 64 = us at *
  (repeat (first | with_reducible (first | refine thenQ_n ?_ | refine blockQ_n ?_ | refine thenQ_e ?_ | refine thenQ_r ?_ | refine blockQ_r ?_ | refine blockQ_s ?_ | refine blockQ_o rfl ?_) | refine AW_skip ?_ | refine AW_seq ?_ | refine AW_ops ?_ | refine AW_blockS ?_ | refine AW_blockR ?_ | refine AW_blockD ?_ | refine AW_blockC ?_ | refine AO_nil ?_ | refine AW_draw ?_ | refine AW_draw3 ?_ | refine AW_blockD3 ?_ | (refine AW_drawA ?_; simp only [atBlk, Sm]) | refine AHd_nil ?_ | with_reducible (first | refine AP_at ?_ | refine AHP_at ?_) | (with_reducible (first | apply AO_any | apply AHd_any | apply AP_go | apply AHP_go); focus (simp only [Sm, wantedA, execA, stepA, List.getElem?_cons_zero, List.getElem?_cons_succ, if_true, if_false, binA, binInt, unA, eqA, Option.map, eq_self, reduceCtorEq, ite_true, ite_false, fitsAll, CK.fits, fillA, AV.cells, writeN, sliceCells, appendA, lenA, i64, loA, hiA, Nat.reduceAdd, Nat.reduceMul, Nat.reduceDiv, Nat.reduceSub, Nat.reduceLeDiff, Nat.reduceLT, Int.reduceLE, Int.reduceLT, foldA, maxA, minA, Int.reduceBEq, Int.reduceBNe, Int.reduceGT, Int.reduceGE, Int.reduceEq, Int.reduceNe, Int.reduceToNat, AOp.stops, ↓want_eq, ↓exec_lenX, ↓exec_storeX, ↓exec_storeN, storeN_one, ↓exec_bsX, ↓exec_sliceX, ↓exec_copyX, ↓exec_appNil, ↓exec_carryX, Nat.sub_zero, rep_len]; with_reducible first | exact EqP.at_ | exact EqP.cont | exact EqP.hcont | exact EqP.gate | exact EqP.hgate)) | (refine AW_ift ?_ ?_; focus (simp only [Sm]; done)) | (refine AW_iff ?_ ?_; focus (simp only [Sm]; done))))
  have v45 := c5.hown (by omega : ¬ p3 + 1 = p7 + 1) v4
  have v65 := c5.hown (by omega : ¬ p3 + 2 = p7 + 1) v6
  refine AW_mid (fun e fr H' => e = .normal ∧ reI p3 p7 us s H5 8 fr H') ?_ ?_
  · refine AW_block (AW_up (reI p3 p7 us s H5) 8 ⟨Chg.refl _ _, o5, stale _ _ rfl⟩ ?_)
    rintro i fr H8 hi ⟨c8, o8, st, rfl⟩
    have hS := addTo_wd (us := s) hus i
    have hsucc : addTo us s (i + 1) = (addTo us s i).set i (ad ((addTo us s i).getD i 0) (s.getD i 0)) := rfl
    generalize hu : addTo us s i = u at *
    (repeat (first | with_reducible (first | refine thenQ_n ?_ | refine blockQ_n ?_ | refine thenQ_e ?_ | refine thenQ_r ?_ | refine blockQ_r ?_ | refine blockQ_s ?_ | refine blockQ_o rfl ?_) | refine AW_skip ?_ | refine AW_seq ?_ | refine AW_ops ?_ | refine AW_blockS ?_ | refine AW_blockR ?_ | refine AW_blockD ?_ | refine AW_blockC ?_ | refine AO_nil ?_ | refine AW_draw ?_ | refine AW_draw3 ?_ | refine AW_blockD3 ?_ | (refine AW_drawA ?_; simp only [atBlk, Sm]) | refine AHd_nil ?_ | with_reducible (first | refine AP_at ?_ | refine AHP_at ?_) | (with_reducible (first | apply AO_any | apply AHd_any | apply AP_go | apply AHP_go); focus (simp only [Sm, wantedA, execA, stepA, List.getElem?_cons_zero, List.getElem?_cons_succ, if_true, if_false, binA, binInt, unA, eqA, Option.map, eq_self, reduceCtorEq, ite_true, ite_false, fitsAll, CK.fits, fillA, AV.cells, writeN, sliceCells, appendA, lenA, i64, loA, hiA, Nat.reduceAdd, Nat.reduceMul, Nat.reduceDiv, Nat.reduceSub, Nat.reduceLeDiff, Nat.reduceLT, Int.reduceLE, Int.reduceLT, foldA, maxA, minA, Int.reduceBEq, Int.reduceBNe, Int.reduceGT, Int.reduceGE, Int.reduceEq, Int.reduceNe, Int.reduceToNat, AOp.stops, ↓want_eq, ↓exec_lenX, ↓exec_storeX, ↓exec_storeN, storeN_one, ↓exec_bsX, ↓exec_sliceX, ↓exec_copyX, ↓exec_appNil, ↓exec_carryX, Nat.sub_zero, rep_len]; with_reducible first | exact EqP.at_ | exact EqP.cont | exact EqP.hcont | exact EqP.gate | exact EqP.hgate)) | (refine AW_ift ?_ ?_; focus (simp only [Sm]; done)) | (refine AW_iff ?_ ?_; focus (simp only [Sm]; done))))
    refine AW_cond rfl ?_ ?_ <;> intro ht
    · have ht : (i : Int) < 8 := of_decide_eq_true ht
      have hi2 : i < 8 := by omega
      have g1 := hS.get (i := i) hi2
      have g2 := hs.get (i := i) hi2
      have h8 := hcells_own o8
      have h4 := hcells_own (c8.hown (by omega : ¬ p3 + 1 = p7 + 1) v45)
      generalize u.getD i 0 = ui at *
      generalize s.getD i 0 = vi at *
      have esc := i64_succ (show i < 9223372036854775807 by omega)
      (repeat (first | with_reducible (first | refine thenQ_n ?_ | refine blockQ_n ?_ | refine thenQ_e ?_ | refine thenQ_r ?_ | refine blockQ_r ?_ | refine blockQ_s ?_ | refine blockQ_o rfl ?_) | refine AW_skip ?_ | refine AW_seq ?_ | refine AW_ops ?_ | refine AW_blockS ?_ | refine AW_blockR ?_ | refine AW_blockD ?_ | refine AW_blockC ?_ | refine AO_nil ?_ | refine AW_draw ?_ | refine AW_draw3 ?_ | refine AW_blockD3 ?_ | (refine AW_drawA ?_; simp only [atBlk, Sm]) | refine AHd_nil ?_ | with_reducible (first | refine AP_at ?_ | refine AHP_at ?_) | (with_reducible (first | apply AO_any | apply AHd_any | apply AP_go | apply AHP_go); focus (simp only [Sm, wantedA, execA, stepA, List.getElem?_cons_zero, List.getElem?_cons_succ, if_true, if_false, binA, binInt, unA, eqA, Option.map, eq_self, reduceCtorEq, ite_true, ite_false, fitsAll, CK.fits, fillA, AV.cells, writeN, sliceCells, appendA, lenA, i64, loA, hiA, Nat.reduceAdd, Nat.reduceMul, Nat.reduceDiv, Nat.reduceSub, Nat.reduceLeDiff, Nat.reduceLT, Int.reduceLE, Int.reduceLT, foldA, maxA, minA, Int.reduceBEq, Int.reduceBNe, Int.reduceGT, Int.reduceGE, Int.reduceEq, Int.reduceNe, Int.reduceToNat, AOp.stops, ↓want_eq, ↓exec_lenX, ↓exec_storeX, ↓exec_storeN, storeN_one, ↓exec_bsX, ↓exec_sliceX, ↓exec_copyX, ↓exec_appNil, ↓exec_carryX, Nat.sub_zero, rep_len, ht, h8, g1, h4, g2, Nat.zero_add, wrap_ad, storeX_own o8 (by omega : p3 ≤ p7 + 1) (by rw [hS.len]; exact hi2 : i < _), esc]; with_reducible first | exact EqP.at_ | exact EqP.cont | exact EqP.hcont | exact EqP.gate | exact EqP.hgate)) | (refine AW_ift ?_ ?_; focus (simp only [Sm]; done)) | (refine AW_iff ?_ ?_; focus (simp only [Sm]; done))))
      refine ⟨hi2, c8.trans (Chg.set (S := (· = p7 + 1)) rfl) fun _ _ h => h, ?_, stale _ _ rfl⟩
      rw [hown_set (hown_lt o8), W32_put, hsucc]
    · obtain rfl : i = 8 := by have : ¬ (i : Int) < 8 := of_decide_eq_false ht; omega
      subst hu
      exact AW_exit ⟨rfl, c8, o8, stale _ _ rfl⟩
  have hall := addTo_all hus hs
  have hA := addW_wd hus hs
  rintro x fr H8 ⟨rfl, c8, o8, st, rfl⟩
  rw [hall] at o8
  have o86 := c8.hown (by omega : ¬ p3 + 2 = p7 + 1) v65
  rw [addW_comm s us]
  generalize addW us s = r at *
  have r8 : readN H8 (p7 + 1) 0 8 = some (W32 r) := by have := readN_all (hcells_own o8); rw [hA.len] at this; exact this
  obtain ⟨H9, s9, o9, c9, l9⟩ := storeN_ex (n := 8) o86 (by omega : p3 ≤ p3 + 2) rep_len (W32 r) hA.len
  have r9 : readN H9 (p3 + 2) 0 8 = some (W32 r) := by have := readN_all (hcells_own o9); rw [hA.len] at this; exact this
  (repeat (first | with_reducible (first | refine thenQ_n ?_ | refine blockQ_n ?_ | refine thenQ_e ?_ | refine thenQ_r ?_ | refine blockQ_r ?_ | refine blockQ_s ?_ | refine blockQ_o rfl ?_) | refine AW_skip ?_ | refine AW_seq ?_ | refine AW_ops ?_ | refine AW_blockS ?_ | refine AW_blockR ?_ | refine AW_blockD ?_ | refine AW_blockC ?_ | refine AO_nil ?_ | refine AW_draw ?_ | refine AW_draw3 ?_ | refine AW_blockD3 ?_ | (refine AW_drawA ?_; simp only [atBlk, Sm]) | refine AHd_nil ?_ | with_reducible (first | refine AP_at ?_ | refine AHP_at ?_) | (with_reducible (first | apply AO_any | apply AHd_any | apply AP_go | apply AHP_go); focus (simp only [Sm, wantedA, execA, stepA, List.getElem?_cons_zero, List.getElem?_cons_succ, if_true, if_false, binA, binInt, unA, eqA, Option.map, eq_self, reduceCtorEq, ite_true, ite_false, fitsAll, CK.fits, fillA, AV.cells, writeN, sliceCells, appendA, lenA, i64, loA, hiA, Nat.reduceAdd, Nat.reduceMul, Nat.reduceDiv, Nat.reduceSub, Nat.reduceLeDiff, Nat.reduceLT, Int.reduceLE, Int.reduceLT, foldA, maxA, minA, Int.reduceBEq, Int.reduceBNe, Int.reduceGT, Int.reduceGE, Int.reduceEq, Int.reduceNe, Int.reduceToNat, AOp.stops, ↓want_eq, ↓exec_lenX, ↓exec_storeX, ↓exec_storeN, storeN_one, ↓exec_bsX, ↓exec_sliceX, ↓exec_copyX, ↓exec_appNil, ↓exec_carryX, Nat.sub_zero, rep_len, ↓r8, s9]; with_reducible first | exact EqP.at_ | exact EqP.cont | exact EqP.hcont | exact EqP.gate | exact EqP.hgate)) | (refine AW_ift ?_ ?_; focus (simp only [Sm]; done)) | (refine AW_iff ?_ ?_; focus (simp only [Sm]; done))))
  exact AW_ret ⟨_, by simp only [outA, resA, ressA, AV.tv, Option.map_some, Sm, wantedA, execA, stepA, List.getElem?_cons_zero, List.getElem?_cons_succ, if_true, if_false, binA, binInt, unA, eqA, Option.map, eq_self, reduceCtorEq, ite_true, ite_false, fitsAll, CK.fits, fillA, AV.cells, writeN, sliceCells, appendA, lenA, i64, loA, hiA, Nat.reduceAdd, Nat.reduceMul, Nat.reduceDiv, Nat.reduceSub, Nat.reduceLeDiff, Nat.reduceLT, Int.reduceLE, Int.reduceLT, foldA, maxA, minA, r9] <;> with_reducible rfl, rfl⟩
end PK

/- SHA-256, the document's: Known, Sum; ShaSums. -/
namespace PK
open Go PAbs
set_option linter.unusedSimpArgs false
set_option linter.unusedVariables false
set_option maxRecDepth 100000
set_option maxHeartbeats 4000000

theorem KI_wd : Wd 72 (Ks ++ Is) := Wd.app Ks_wd Is_wd
theorem AC_Known (H : AHeap) : AC A H.length F_pestleref05_Known [] H (fun v H' => v = .agg (W32 (Ks ++ Is)) ∧ Kept H.length H H') := by
  refine AC.kept ?_ (Nat.le_refl _)
  refine AC_enter t_pestleref05_Known ?_; simp only [c_pestleref05_Known, enterA, List.replicate, List.length_cons, List.length_nil, Nat.reduceAdd, Nat.reduceSub, List.cons_append, List.nil_append]
  have o2 : hown (H ++ [Blk.own (rep 72 (.int .u32 0))]) H.length = some (rep 72 (.int .u32 0)) := hown_last
  obtain ⟨H5, s5, o5, c5, l5⟩ := storeN_ex (n := 72) o2 (Nat.le_refl _) rep_len (W32 (Ks ++ Is)) rfl
  have r5 : readN H5 H.length 0 72 = some (W32 (Ks ++ Is)) := readN_all (hcells_own o5)
  have s5' := s5
  simp only [W32, Ks, Is, List.map_cons, List.map_nil, rep, List.replicate, Int.cast_ofNat_Int, List.cons_append, List.nil_append] at s5'
  (repeat (first | with_reducible (first | refine thenQ_n ?_ | refine blockQ_n ?_ | refine thenQ_e ?_ | refine thenQ_r ?_ | refine blockQ_r ?_ | refine blockQ_s ?_ | refine blockQ_o rfl ?_) | refine AW_skip ?_ | refine AW_seq ?_ | refine AW_ops ?_ | refine AW_blockS ?_ | refine AW_blockR ?_ | refine AW_blockD ?_ | refine AW_blockC ?_ | refine AO_nil ?_ | refine AW_draw ?_ | refine AW_draw3 ?_ | refine AW_blockD3 ?_ | (refine AW_drawA ?_; simp only [atBlk, Sm]) | refine AHd_nil ?_ | with_reducible (first | refine AP_at ?_ | refine AHP_at ?_) | (with_reducible (first | apply AO_any | apply AHd_any | apply AP_go | apply AHP_go); focus (simp only [Sm, wantedA, execA, stepA, List.getElem?_cons_zero, List.getElem?_cons_succ, if_true, if_false, binA, binInt, unA, eqA, Option.map, eq_self, reduceCtorEq, ite_true, ite_false, fitsAll, CK.fits, fillA, AV.cells, writeN, sliceCells, appendA, lenA, i64, loA, hiA, Nat.reduceAdd, Nat.reduceMul, Nat.reduceDiv, Nat.reduceSub, Nat.reduceLeDiff, Nat.reduceLT, Int.reduceLE, Int.reduceLT, foldA, maxA, minA, Int.reduceBEq, Int.reduceBNe, Int.reduceGT, Int.reduceGE, Int.reduceEq, Int.reduceNe, Int.reduceToNat, AOp.stops, ↓want_eq, ↓exec_lenX, ↓exec_storeX, ↓exec_storeN, storeN_one, ↓exec_bsX, ↓exec_sliceX, ↓exec_copyX, ↓exec_appNil, ↓exec_carryX, Nat.sub_zero, rep_len, rep, List.replicate, s5']; with_reducible first | exact EqP.at_ | exact EqP.cont | exact EqP.hcont | exact EqP.gate | exact EqP.hgate)) | (refine AW_ift ?_ ?_; focus (simp only [Sm]; done)) | (refine AW_iff ?_ ?_; focus (simp only [Sm]; done))))
  exact AW_ret ⟨_, by simp only [outA, resA, ressA, AV.tv, Option.map_some, Sm, wantedA, execA, stepA, List.getElem?_cons_zero, List.getElem?_cons_succ, if_true, if_false, binA, binInt, unA, eqA, Option.map, eq_self, reduceCtorEq, ite_true, ite_false, fitsAll, CK.fits, fillA, AV.cells, writeN, sliceCells, appendA, lenA, i64, loA, hiA, Nat.reduceAdd, Nat.reduceMul, Nat.reduceDiv, Nat.reduceSub, Nat.reduceLeDiff, Nat.reduceLT, Int.reduceLE, Int.reduceLT, foldA, maxA, minA, r5] <;> with_reducible rfl, rfl⟩


end PK

/- Package pestleref03 as code of the abstract machine. -/
namespace PK
open Go PAbs

noncomputable def c_pestleref03_First : AFn := AFn.mk 18 [.tmp 2]
  (.seq (.region
      [⟨some 2, .mv (.k (.c (.snil))), none⟩])
  (.seq (.region
      [⟨some 3, .mv (.k (.c (.snil))), none⟩])
  (.seq (.seq (.region
        [⟨some 4, .mv (.k (.c (.int .i64 2))), none⟩])
    (.block 0
      (.loop
        (.seq (.seq (.region
              [⟨some 5, .mv (.t 3), none⟩,
                ⟨some 6, .len false (.t 5), none⟩,
                ⟨some 7, .mv (.t 0), none⟩,
                ⟨some 8, .bin .lss (.t 6) (.t 7), none⟩])
          (.cond (.t 8)
            (.skip)
            (.exit 0)))
        (.seq (.block 1
            (.seq (.region
                [⟨some 11, .mv (.t 4), none⟩,
                  ⟨some 12, .call F_pestleref03_Prime [.t 11], none⟩])
            (.cond (.t 12)
              (.region
                [⟨some 13, .mv (.t 3), none⟩,
                  ⟨some 14, .mv (.t 4), none⟩,
                  ⟨some 15, .buildSlice ([.int .i64 0]) 1 1 [(0, 1, .t 14)], none⟩,
                  ⟨some 16, .append ([.int .i64 0]) 8 (.t 13) (.t 15), none⟩,
                  ⟨some 3, .mv (.t 16), none⟩])
              (.skip))))
        (.region
          [⟨some 9, .mv (.t 4), none⟩,
            ⟨some 10, .bin .add (.t 9) (.k (.c (.int .i64 1))), none⟩,
            ⟨some 4, .mv (.t 10), none⟩]))))))
  (.seq (.region
      [⟨some 17, .mv (.t 3), none⟩,
        ⟨some 2, .mv (.t 17), none⟩])
  (.ret)))))
theorem t_pestleref03_First : A F_pestleref03_First = some c_pestleref03_First := by kernel_rfl

noncomputable def c_pestleref03_Bits : AFn := AFn.mk 59 [.tmp 6]
  (.seq (.region
      [⟨some 6, .mv (.k (.c (.int .u64 0))), none⟩])
  (.seq (.region
      [⟨some 12, .mv (.t 0), none⟩,
        ⟨some 13, .convInt .u64 (.t 12), none⟩,
        ⟨some 14, .call F_pestleref03_Of [.t 13], none⟩,
        ⟨some 15, .mv (.t 2), none⟩,
        ⟨some 16, .mv (.t 1), none⟩,
        ⟨some 17, .bin .mul (.t 15) (.t 16), none⟩,
        ⟨some 18, .call F_pestleref03_Up [.t 14, .t 17], none⟩,
        ⟨some 7, .mv (.t 18), none⟩])
  (.seq (.region
      [⟨some 8, .mv (.k (.c (.int .i64 0))), none⟩])
  (.seq (.block 0
      (.loop
        (.seq (.seq (.region
              [⟨some 19, .mv (.t 8), none⟩,
                ⟨some 20, .bin .add (.t 19) (.k (.c (.int .i64 1))), none⟩,
                ⟨some 21, .convInt .u64 (.t 20), none⟩,
                ⟨some 22, .call F_pestleref03_Of [.t 21], none⟩,
                ⟨some 23, .mv (.t 1), none⟩,
                ⟨some 24, .call F_pestleref03_power [.t 22, .t 23], none⟩,
                ⟨some 25, .mv (.t 0), none⟩,
                ⟨some 26, .convInt .u64 (.t 25), none⟩,
                ⟨some 27, .call F_pestleref03_Of [.t 26], none⟩,
                ⟨some 28, .call F_pestleref03_Above [.t 24, .t 27], none⟩,
                ⟨some 29, .un .not (.t 28), none⟩])
          (.cond (.t 29)
            (.skip)
            (.exit 0)))
        (.block 1
          (.region
            [⟨some 30, .mv (.t 8), none⟩,
              ⟨some 31, .bin .add (.t 30) (.k (.c (.int .i64 1))), none⟩,
              ⟨some 8, .mv (.t 31), none⟩])))))
  (.seq (.region
      [⟨some 9, .mv (.k (.c (.int .u64 0))), none⟩])
  (.seq (.seq (.region
        [⟨some 32, .mv (.t 2), none⟩,
          ⟨some 33, .bin .mul (.k (.c (.int .i64 16))) (.t 32), none⟩,
          ⟨some 34, .bin .sub (.t 33) (.k (.c (.int .i64 1))), none⟩,
          ⟨some 10, .mv (.t 34), none⟩])
    (.block 2
      (.loop
        (.seq (.seq (.region
              [⟨some 35, .mv (.t 10), none⟩,
                ⟨some 36, .bin .geq (.t 35) (.k (.c (.int .i64 0))), none⟩])
          (.cond (.t 36)
            (.skip)
            (.exit 2)))
        (.seq (.block 3
            (.seq (.region
                [⟨some 39, .mv (.t 9), none⟩,
                  ⟨some 40, .mv (.t 10), none⟩,
                  ⟨some 41, .convInt .u64 (.t 40), none⟩,
                  ⟨some 42, .bin .shl (.k (.c (.int .u64 1))) (.t 41), none⟩,
                  ⟨some 43, .bin .add (.t 39) (.t 42), none⟩,
                  ⟨some 11, .mv (.t 43), none⟩])
            (.seq (.region
                [⟨some 44, .mv (.t 8), none⟩,
                  ⟨some 45, .convInt .u64 (.t 44), none⟩,
                  ⟨some 46, .call F_pestleref03_Of [.t 45], none⟩,
                  ⟨some 47, .mv (.t 2), none⟩,
                  ⟨some 48, .call F_pestleref03_Up [.t 46, .t 47], none⟩,
                  ⟨some 49, .mv (.t 11), none⟩,
                  ⟨some 50, .call F_pestleref03_Of [.t 49], none⟩,
                  ⟨some 51, .call F_pestleref03_Sum [.t 48, .t 50], none⟩,
                  ⟨some 52, .mv (.t 1), none⟩,
                  ⟨some 53, .call F_pestleref03_power [.t 51, .t 52], none⟩,
                  ⟨some 54, .mv (.t 7), none⟩,
                  ⟨some 55, .call F_pestleref03_Above [.t 53, .t 54], none⟩,
                  ⟨some 56, .un .not (.t 55), none⟩])
            (.cond (.t 56)
              (.region
                [⟨some 57, .mv (.t 11), none⟩,
                  ⟨some 9, .mv (.t 57), none⟩])
              (.skip)))))
        (.region
          [⟨some 37, .mv (.t 10), none⟩,
            ⟨some 38, .bin .sub (.t 37) (.k (.c (.int .i64 1))), none⟩,
            ⟨some 10, .mv (.t 38), none⟩]))))))
  (.seq (.region
      [⟨some 58, .mv (.t 9), none⟩,
        ⟨some 6, .mv (.t 58), none⟩])
  (.ret))))))))
theorem t_pestleref03_Bits : A F_pestleref03_Bits = some c_pestleref03_Bits := by kernel_rfl

noncomputable def c_pestleref03_Prime : AFn := AFn.mk 17 [.tmp 2]
  (.seq (.region
      [⟨some 2, .mv (.k (.c (.bool false))), none⟩])
  (.seq (.seq (.region
        [⟨some 4, .mv (.t 0), none⟩,
          ⟨some 5, .bin .lss (.t 4) (.k (.c (.int .i64 2))), none⟩])
    (.cond (.t 5)
      (.seq (.region
          [⟨some 2, .mv (.k (.c (.bool false))), none⟩])
      (.ret))
      (.skip)))
  (.seq (.seq (.region
        [⟨some 3, .mv (.k (.c (.int .i64 2))), none⟩])
    (.block 0
      (.loop
        (.seq (.seq (.region
              [⟨some 6, .mv (.t 3), none⟩,
                ⟨some 7, .mv (.t 3), none⟩,
                ⟨some 8, .bin .mul (.t 6) (.t 7), none⟩,
                ⟨some 9, .mv (.t 0), none⟩,
                ⟨some 10, .bin .leq (.t 8) (.t 9), none⟩])
          (.cond (.t 10)
            (.skip)
            (.exit 0)))
        (.seq (.block 1
            (.seq (.region
                [⟨some 13, .mv (.t 0), none⟩,
                  ⟨some 14, .mv (.t 3), none⟩,
                  ⟨some 15, .bin .rem (.t 13) (.t 14), none⟩,
                  ⟨some 16, .bin .eql (.t 15) (.k (.c (.int .i64 0))), none⟩])
            (.cond (.t 16)
              (.seq (.region
                  [⟨some 2, .mv (.k (.c (.bool false))), none⟩])
              (.ret))
              (.skip))))
        (.region
          [⟨some 11, .mv (.t 3), none⟩,
            ⟨some 12, .bin .add (.t 11) (.k (.c (.int .i64 1))), none⟩,
            ⟨some 3, .mv (.t 12), none⟩]))))))
  (.seq (.region
      [⟨some 2, .mv (.k (.c (.bool true))), none⟩])
  (.ret)))))
theorem t_pestleref03_Prime : A F_pestleref03_Prime = some c_pestleref03_Prime := by kernel_rfl

noncomputable def c_pestleref03_Up : AFn := AFn.mk 11 [.tmp 4]
  (.seq (.region
      [⟨some 4, .mv (.k (.c (.snil))), none⟩])
  (.seq (.region
      [⟨some 6, .mv (.t 1), none⟩,
        ⟨some 7, .makeSlice ([.int .i64 0]) 8 (.t 6) (.t 6), none⟩,
        ⟨some 5, .mv (.t 7), none⟩])
  (.seq (.region
      [⟨some 8, .mv (.t 5), none⟩,
        ⟨some 9, .mv (.t 0), none⟩,
        ⟨some 10, .append ([.int .i64 0]) 8 (.t 8) (.t 9), none⟩,
        ⟨some 4, .mv (.t 10), none⟩])
  (.ret))))
theorem t_pestleref03_Up : A F_pestleref03_Up = some c_pestleref03_Up := by kernel_rfl

noncomputable def c_pestleref03_Of : AFn := AFn.mk 15 [.tmp 2]
  (.seq (.region
      [⟨some 2, .mv (.k (.c (.snil))), none⟩])
  (.seq (.region
      [⟨some 3, .mv (.k (.c (.snil))), none⟩])
  (.seq (.block 0
      (.loop
        (.seq (.seq (.region
              [⟨some 4, .mv (.t 0), none⟩,
                ⟨some 5, .bin .gtr (.t 4) (.k (.c (.int .u64 0))), none⟩])
          (.cond (.t 5)
            (.skip)
            (.exit 0)))
        (.block 1
          (.seq (.region
              [⟨some 6, .mv (.t 3), none⟩,
                ⟨some 7, .mv (.t 0), none⟩,
                ⟨some 8, .bin .rem (.t 7) (.k (.c (.int .u64 65536))), none⟩,
                ⟨some 9, .convInt .i64 (.t 8), none⟩,
                ⟨some 10, .buildSlice ([.int .i64 0]) 1 1 [(0, 1, .t 9)], none⟩,
                ⟨some 11, .append ([.int .i64 0]) 8 (.t 6) (.t 10), none⟩,
                ⟨some 3, .mv (.t 11), none⟩])
          (.region
            [⟨some 12, .mv (.t 0), none⟩,
              ⟨some 13, .bin .quo (.t 12) (.k (.c (.int .u64 65536))), none⟩,
              ⟨some 0, .mv (.t 13), none⟩]))))))
  (.seq (.region
      [⟨some 14, .mv (.t 3), none⟩,
        ⟨some 2, .mv (.t 14), none⟩])
  (.ret)))))
theorem t_pestleref03_Of : A F_pestleref03_Of = some c_pestleref03_Of := by kernel_rfl

noncomputable def c_pestleref03_Above : AFn := AFn.mk 35 [.tmp 4]
  (.seq (.region
      [⟨some 4, .mv (.k (.c (.bool false))), none⟩])
  (.seq (.region
      [⟨some 7, .mv (.t 0), none⟩,
        ⟨some 8, .len false (.t 7), none⟩,
        ⟨some 5, .mv (.t 8), none⟩])
  (.seq (.seq (.region
        [⟨some 9, .mv (.t 1), none⟩,
          ⟨some 10, .len false (.t 9), none⟩,
          ⟨some 11, .mv (.t 5), none⟩,
          ⟨some 12, .bin .gtr (.t 10) (.t 11), none⟩])
    (.cond (.t 12)
      (.region
        [⟨some 13, .mv (.t 1), none⟩,
          ⟨some 14, .len false (.t 13), none⟩,
          ⟨some 5, .mv (.t 14), none⟩])
      (.skip)))
  (.seq (.seq (.region
        [⟨some 15, .mv (.t 5), none⟩,
          ⟨some 16, .bin .sub (.t 15) (.k (.c (.int .i64 1))), none⟩,
          ⟨some 6, .mv (.t 16), none⟩])
    (.block 0
      (.loop
        (.seq (.seq (.region
              [⟨some 17, .mv (.t 6), none⟩,
                ⟨some 18, .bin .geq (.t 17) (.k (.c (.int .i64 0))), none⟩])
          (.cond (.t 18)
            (.skip)
            (.exit 0)))
        (.seq (.block 1
            (.seq (.region
                [⟨some 21, .mv (.t 0), none⟩,
                  ⟨some 22, .mv (.t 6), none⟩,
                  ⟨some 23, .call F_pestleref03_digit [.t 21, .t 22], none⟩,
                  ⟨some 24, .mv (.t 1), none⟩,
                  ⟨some 25, .mv (.t 6), none⟩,
                  ⟨some 26, .call F_pestleref03_digit [.t 24, .t 25], none⟩,
                  ⟨some 27, .bin .neq (.t 23) (.t 26), none⟩])
            (.cond (.t 27)
              (.seq (.region
                  [⟨some 28, .mv (.t 0), none⟩,
                    ⟨some 29, .mv (.t 6), none⟩,
                    ⟨some 30, .call F_pestleref03_digit [.t 28, .t 29], none⟩,
                    ⟨some 31, .mv (.t 1), none⟩,
                    ⟨some 32, .mv (.t 6), none⟩,
                    ⟨some 33, .call F_pestleref03_digit [.t 31, .t 32], none⟩,
                    ⟨some 34, .bin .gtr (.t 30) (.t 33), none⟩,
                    ⟨some 4, .mv (.t 34), none⟩])
              (.ret))
              (.skip))))
        (.region
          [⟨some 19, .mv (.t 6), none⟩,
            ⟨some 20, .bin .sub (.t 19) (.k (.c (.int .i64 1))), none⟩,
            ⟨some 6, .mv (.t 20), none⟩]))))))
  (.seq (.region
      [⟨some 4, .mv (.k (.c (.bool false))), none⟩])
  (.ret))))))
theorem t_pestleref03_Above : A F_pestleref03_Above = some c_pestleref03_Above := by kernel_rfl

noncomputable def c_pestleref03_power : AFn := AFn.mk 17 [.tmp 4]
  (.seq (.region
      [⟨some 4, .mv (.k (.c (.snil))), none⟩])
  (.seq (.region
      [⟨some 7, .call F_pestleref03_Of [.k (.c (.int .u64 1))], none⟩,
        ⟨some 5, .mv (.t 7), none⟩])
  (.seq (.seq (.region
        [⟨some 6, .mv (.k (.c (.int .i64 0))), none⟩])
    (.block 0
      (.loop
        (.seq (.seq (.region
              [⟨some 8, .mv (.t 6), none⟩,
                ⟨some 9, .mv (.t 1), none⟩,
                ⟨some 10, .bin .lss (.t 8) (.t 9), none⟩])
          (.cond (.t 10)
            (.skip)
            (.exit 0)))
        (.seq (.block 1
            (.region
              [⟨some 13, .mv (.t 5), none⟩,
                ⟨some 14, .mv (.t 0), none⟩,
                ⟨some 15, .call F_pestleref03_Times [.t 13, .t 14], none⟩,
                ⟨some 5, .mv (.t 15), none⟩]))
        (.region
          [⟨some 11, .mv (.t 6), none⟩,
            ⟨some 12, .bin .add (.t 11) (.k (.c (.int .i64 1))), none⟩,
            ⟨some 6, .mv (.t 12), none⟩]))))))
  (.seq (.region
      [⟨some 16, .mv (.t 5), none⟩,
        ⟨some 4, .mv (.t 16), none⟩])
  (.ret)))))
theorem t_pestleref03_power : A F_pestleref03_power = some c_pestleref03_power := by kernel_rfl

noncomputable def c_pestleref03_Sum : AFn := AFn.mk 41 [.tmp 4]
  (.seq (.region
      [⟨some 4, .mv (.k (.c (.snil))), none⟩])
  (.seq (.region
      [⟨some 5, .mv (.k (.c (.snil))), none⟩])
  (.seq (.region
      [⟨some 6, .mv (.k (.c (.int .i64 0))), none⟩])
  (.seq (.seq (.region
        [⟨some 7, .mv (.k (.c (.int .i64 0))), none⟩])
    (.block 0
      (.loop
        (.seq (.seq (.region
              [⟨some 8, .mv (.t 7), none⟩,
                ⟨some 9, .mv (.t 0), none⟩,
                ⟨some 10, .len false (.t 9), none⟩,
                ⟨some 11, .bin .lss (.t 8) (.t 10), none⟩,
                ⟨some 12, .mv (.t 11), none⟩,
                ⟨some 13, .mv (.t 7), some (12, false)⟩,
                ⟨some 14, .mv (.t 1), some (12, false)⟩,
                ⟨some 15, .len false (.t 14), some (12, false)⟩,
                ⟨some 16, .bin .lss (.t 13) (.t 15), some (12, false)⟩,
                ⟨some 17, .pick (.t 12) (.k (.c (.bool true))) (.t 16), none⟩,
                ⟨some 18, .mv (.t 17), none⟩,
                ⟨some 19, .mv (.t 6), some (18, false)⟩,
                ⟨some 20, .bin .gtr (.t 19) (.k (.c (.int .i64 0))), some (18, false)⟩,
                ⟨some 21, .pick (.t 18) (.k (.c (.bool true))) (.t 20), none⟩])
          (.cond (.t 21)
            (.skip)
            (.exit 0)))
        (.seq (.block 1
            (.seq (.region
                [⟨some 24, .mv (.t 6), none⟩,
                  ⟨some 25, .mv (.t 0), none⟩,
                  ⟨some 26, .mv (.t 7), none⟩,
                  ⟨some 27, .call F_pestleref03_digit [.t 25, .t 26], none⟩,
                  ⟨some 28, .bin .add (.t 24) (.t 27), none⟩,
                  ⟨some 29, .mv (.t 1), none⟩,
                  ⟨some 30, .mv (.t 7), none⟩,
                  ⟨some 31, .call F_pestleref03_digit [.t 29, .t 30], none⟩,
                  ⟨some 32, .bin .add (.t 28) (.t 31), none⟩,
                  ⟨some 6, .mv (.t 32), none⟩])
            (.seq (.region
                [⟨some 33, .mv (.t 5), none⟩,
                  ⟨some 34, .mv (.t 6), none⟩,
                  ⟨some 35, .bin .rem (.t 34) (.k (.c (.int .i64 65536))), none⟩,
                  ⟨some 36, .buildSlice ([.int .i64 0]) 1 1 [(0, 1, .t 35)], none⟩,
                  ⟨some 37, .append ([.int .i64 0]) 8 (.t 33) (.t 36), none⟩,
                  ⟨some 5, .mv (.t 37), none⟩])
            (.region
              [⟨some 38, .mv (.t 6), none⟩,
                ⟨some 39, .bin .quo (.t 38) (.k (.c (.int .i64 65536))), none⟩,
                ⟨some 6, .mv (.t 39), none⟩]))))
        (.region
          [⟨some 22, .mv (.t 7), none⟩,
            ⟨some 23, .bin .add (.t 22) (.k (.c (.int .i64 1))), none⟩,
            ⟨some 7, .mv (.t 23), none⟩]))))))
  (.seq (.region
      [⟨some 40, .mv (.t 5), none⟩,
        ⟨some 4, .mv (.t 40), none⟩])
  (.ret))))))
theorem t_pestleref03_Sum : A F_pestleref03_Sum = some c_pestleref03_Sum := by kernel_rfl

noncomputable def c_pestleref03_digit : AFn := AFn.mk 13 [.tmp 4]
  (.seq (.region
      [⟨some 4, .mv (.k (.c (.int .i64 0))), none⟩])
  (.seq (.seq (.region
        [⟨some 5, .mv (.t 1), none⟩,
          ⟨some 6, .mv (.t 0), none⟩,
          ⟨some 7, .len false (.t 6), none⟩,
          ⟨some 8, .bin .lss (.t 5) (.t 7), none⟩])
    (.cond (.t 8)
      (.seq (.region
          [⟨some 9, .mv (.t 0), none⟩,
            ⟨some 10, .mv (.t 1), none⟩,
            ⟨some 11, .idxSlc 1 (.t 9) (.t 10), none⟩,
            ⟨some 12, .load1 (.t 11), none⟩,
            ⟨some 4, .mv (.t 12), none⟩])
      (.ret))
      (.skip)))
  (.seq (.region
      [⟨some 4, .mv (.k (.c (.int .i64 0))), none⟩])
  (.ret))))
theorem t_pestleref03_digit : A F_pestleref03_digit = some c_pestleref03_digit := by kernel_rfl

noncomputable def c_pestleref03_Times : AFn := AFn.mk 66 [.tmp 4]
  (.seq (.region
      [⟨some 4, .mv (.k (.c (.snil))), none⟩])
  (.seq (.region
      [⟨some 10, .mv (.t 0), none⟩,
        ⟨some 11, .len false (.t 10), none⟩,
        ⟨some 12, .mv (.t 1), none⟩,
        ⟨some 13, .len false (.t 12), none⟩,
        ⟨some 14, .bin .add (.t 11) (.t 13), none⟩,
        ⟨some 15, .bin .add (.t 14) (.k (.c (.int .i64 1))), none⟩,
        ⟨some 16, .makeSlice ([.int .i64 0]) 8 (.t 15) (.t 15), none⟩,
        ⟨some 5, .mv (.t 16), none⟩])
  (.seq (.seq (.region
        [⟨some 6, .mv (.k (.c (.int .i64 0))), none⟩])
    (.block 0
      (.loop
        (.seq (.seq (.region
              [⟨some 17, .mv (.t 6), none⟩,
                ⟨some 18, .mv (.t 0), none⟩,
                ⟨some 19, .len false (.t 18), none⟩,
                ⟨some 20, .bin .lss (.t 17) (.t 19), none⟩])
          (.cond (.t 20)
            (.skip)
            (.exit 0)))
        (.seq (.block 1
            (.seq (.region
                [⟨some 7, .mv (.k (.c (.int .i64 0))), none⟩])
            (.seq (.region
                [⟨some 8, .mv (.k (.c (.int .i64 0))), none⟩])
            (.block 2
              (.loop
                (.seq (.seq (.region
                      [⟨some 23, .mv (.t 8), none⟩,
                        ⟨some 24, .mv (.t 1), none⟩,
                        ⟨some 25, .len false (.t 24), none⟩,
                        ⟨some 26, .bin .lss (.t 23) (.t 25), none⟩,
                        ⟨some 27, .mv (.t 26), none⟩,
                        ⟨some 28, .mv (.t 7), some (27, false)⟩,
                        ⟨some 29, .bin .gtr (.t 28) (.k (.c (.int .i64 0))), some (27, false)⟩,
                        ⟨some 30, .pick (.t 27) (.k (.c (.bool true))) (.t 29), none⟩])
                  (.cond (.t 30)
                    (.skip)
                    (.exit 2)))
                (.seq (.block 3
                    (.seq (.region
                        [⟨some 33, .mv (.t 5), none⟩,
                          ⟨some 34, .mv (.t 6), none⟩,
                          ⟨some 35, .mv (.t 8), none⟩,
                          ⟨some 36, .bin .add (.t 34) (.t 35), none⟩,
                          ⟨some 37, .idxSlc 1 (.t 33) (.t 36), none⟩,
                          ⟨some 38, .load1 (.t 37), none⟩,
                          ⟨some 39, .mv (.t 7), none⟩,
                          ⟨some 40, .bin .add (.t 38) (.t 39), none⟩,
                          ⟨some 9, .mv (.t 40), none⟩])
                    (.seq (.seq (.region
                          [⟨some 41, .mv (.t 8), none⟩,
                            ⟨some 42, .mv (.t 1), none⟩,
                            ⟨some 43, .len false (.t 42), none⟩,
                            ⟨some 44, .bin .lss (.t 41) (.t 43), none⟩])
                      (.cond (.t 44)
                        (.draw
                          [⟨some 45, .mv (.t 9), none⟩,
                            ⟨some 46, .mv (.t 0), none⟩,
                            ⟨some 47, .mv (.t 6), none⟩,
                            ⟨some 48, .idxSlc 1 (.t 46) (.t 47), none⟩,
                            ⟨some 49, .load1 (.t 48), none⟩,
                            ⟨some 50, .mv (.t 1), none⟩,
                            ⟨some 51, .mv (.t 8), none⟩,
                            ⟨some 52, .idxSlc 1 (.t 50) (.t 51), none⟩,
                            ⟨some 53, .load1 (.t 52), none⟩,
                            ⟨some 54, .bin .mul (.t 49) (.t 53), none⟩]
                          [⟨some 55, .bin .add (.t 45) (.t 54), none⟩,
                            ⟨some 9, .mv (.t 55), none⟩])
                        (.skip)))
                    (.seq (.region
                        [⟨some 56, .mv (.t 5), none⟩,
                          ⟨some 57, .mv (.t 6), none⟩,
                          ⟨some 58, .mv (.t 8), none⟩,
                          ⟨some 59, .bin .add (.t 57) (.t 58), none⟩,
                          ⟨some 60, .mv (.t 9), none⟩,
                          ⟨some 61, .bin .rem (.t 60) (.k (.c (.int .i64 65536))), none⟩,
                          ⟨some 62, .idxSlc 1 (.t 56) (.t 59), none⟩,
                          ⟨none, .store 1 (.t 62) (.t 61), none⟩])
                    (.region
                      [⟨some 63, .mv (.t 9), none⟩,
                        ⟨some 64, .bin .quo (.t 63) (.k (.c (.int .i64 65536))), none⟩,
                        ⟨some 7, .mv (.t 64), none⟩])))))
                (.region
                  [⟨some 31, .mv (.t 8), none⟩,
                    ⟨some 32, .bin .add (.t 31) (.k (.c (.int .i64 1))), none⟩,
                    ⟨some 8, .mv (.t 32), none⟩]))))))))
        (.region
          [⟨some 21, .mv (.t 6), none⟩,
            ⟨some 22, .bin .add (.t 21) (.k (.c (.int .i64 1))), none⟩,
            ⟨some 6, .mv (.t 22), none⟩]))))))
  (.seq (.region
      [⟨some 65, .mv (.t 5), none⟩,
        ⟨some 4, .mv (.t 65), none⟩])
  (.ret)))))
theorem t_pestleref03_Times : A F_pestleref03_Times = some c_pestleref03_Times := by kernel_rfl
end PK

/- The document's great numbers, walked: Of, Up, Sum. -/
namespace PK
open Go PAbs
set_option linter.unusedSimpArgs false
set_option linter.unusedVariables false
set_option maxRecDepth 100000
set_option maxHeartbeats 2000000

def val : List Nat → Nat
  | [] => 0
  | d :: r => d + 65536 * val r
def Dig (l : List Nat) : Prop := ∀ d ∈ l, d < 65536
theorem Dig.nil : Dig [] := fun d h => by cases h
theorem Dig.append {l m : List Nat} (h : Dig l) (k : Dig m) : Dig (l ++ m) := fun d hd => by
  rcases List.mem_append.1 hd with h' | h'
  · exact h d h'
  · exact k d h'
theorem Dig.one {d : Nat} (h : d < 65536) : Dig [d] := fun x hx => by simp at hx; subst hx; exact h
theorem Dig.get {l : List Nat} (h : Dig l) (i : Nat) : l.getD i 0 < 65536 := by
  rw [List.getD_eq_getElem?_getD]
  cases hi : l[i]? with
  | none => simp
  | some x => exact h x (List.mem_of_getElem? hi)
theorem Dig.set {l : List Nat} (h : Dig l) {i d : Nat} (hd : d < 65536) : Dig (l.set i d) := fun x hx => by
  rcases List.mem_or_eq_of_mem_set hx with h' | rfl
  · exact h x h'
  · exact hd
theorem Dig.drop {l : List Nat} (h : Dig l) (i : Nat) : Dig (l.drop i) := fun x hx => h x (List.mem_of_mem_drop hx)
theorem Dig.take {l : List Nat} (h : Dig l) (i : Nat) : Dig (l.take i) := fun x hx => h x (List.mem_of_mem_take hx)
theorem Dig.zeros (n : Nat) : Dig (List.replicate n 0) := fun x hx => by have := List.eq_of_mem_replicate hx; omega
theorem val_append : ∀ l m : List Nat, val (l ++ m) = val l + 65536 ^ l.length * val m
  | [], m => by simp [val]
  | d :: l, m => by
    simp only [List.cons_append, val, val_append l m, List.length_cons, Nat.pow_succ]
    grind
theorem val_zeros : ∀ n, val (List.replicate n 0) = 0
  | 0 => rfl
  | n + 1 => by simp only [List.replicate_succ, val, val_zeros n]
theorem val_drop (l : List Nat) (i : Nat) : val (l.drop i) = l.getD i 0 + 65536 * val (l.drop (i + 1)) := by
  rcases Nat.lt_or_ge i l.length with h | h
  · rw [List.drop_eq_getElem_cons h]
    simp only [val]
    rw [List.getD_eq_getElem?_getD, List.getElem?_eq_getElem h]; rfl
  · rw [List.drop_eq_nil_of_le h, List.drop_eq_nil_of_le (by omega), List.getD_eq_getElem?_getD, List.getElem?_eq_none h]; rfl
theorem val_set : ∀ (l : List Nat) (j v : Nat), j < l.length → val (l.set j v) + 65536 ^ j * l.getD j 0 = val l + 65536 ^ j * v
  | [], j, v, h => by simp at h
  | d :: l, 0, v, h => by simp [val]; omega
  | d :: l, j + 1, v, h => by
    have ih := val_set l j v (by simpa using h)
    simp only [List.set_cons_succ, val, List.getD_cons_succ, Nat.pow_succ]
    grind
theorem val_lt : ∀ {l : List Nat}, Dig l → val l < 65536 ^ l.length
  | [], _ => by simp [val]
  | d :: l, h => by
    have ih := val_lt (l := l) fun x hx => h x (by simp [hx])
    have hd := h d (by simp)
    simp only [val, List.length_cons, Nat.pow_succ]
    omega
theorem val_take (l : List Nat) (i : Nat) : val l = val (l.take i) + 65536 ^ min i l.length * val (l.drop i) := by
  conv => lhs; rw [← List.take_append_drop i l]
  rw [val_append, List.length_take]

def ofD (n : Nat) : Nat → List Nat
  | 0 => []
  | k + 1 => ofD n k ++ [n / 65536 ^ k % 65536]
theorem ofD_length (n : Nat) : ∀ k, (ofD n k).length = k
  | 0 => rfl
  | k + 1 => by simp [ofD, ofD_length n k]
theorem ofD_dig (n : Nat) : ∀ k, Dig (ofD n k)
  | 0 => Dig.nil
  | k + 1 => (ofD_dig n k).append (Dig.one (Nat.mod_lt _ (by omega)))
theorem ofD_val (n : Nat) : ∀ k, val (ofD n k) = n % 65536 ^ k
  | 0 => by simp [ofD, val, Nat.mod_one]
  | k + 1 => by
    simp only [ofD, val_append, ofD_val n k, ofD_length, val, Nat.mul_zero, Nat.add_zero]
    rw [Nat.pow_succ, Nat.mod_mul]

def Big (f : Nat) (H : AHeap) (x : Cell) (n : Nat) (len : Nat) : Prop := ∃ l, Own f H x 1 (N64 l) ∧ Dig l ∧ val l = n ∧ l.length ≤ len

section
variable (H : AHeap)
theorem AC_digit (y : Cell) (l : List Nat) (i : Nat) (hy : Rd H y 1 (N64 l)) : AC A H.length F_pestleref03_digit [.c y, .c (.int .i64 (i : Int))] H (fun v H' => v = .c (.int .i64 ((l.getD i 0 : Nat) : Int)) ∧ H = H') := by
  have yl : (N64 l).length = l.length := N64_length
  refine AC_enter t_pestleref03_digit ?_; simp only [c_pestleref03_digit, enterA, List.replicate, List.length_cons, List.length_nil, Nat.reduceAdd, Nat.reduceSub, List.cons_append, List.nil_append]
  rcases Nat.lt_or_ge i l.length with h | h
  · have c : decide ((i : Int) < (l.length : Int)) = true := decide_eq_true (by omega)
    obtain ⟨u, o, full, rfl, hf, hg⟩ := hy.get (i := i) (by rw [yl]; exact h)
    rw [N64_get h] at hg
    have b : (i : Int) < (((N64 l).length : Nat) : Int) := by rw [yl]; omega
    (repeat (first | with_reducible refine thenQ_n ?_ | with_reducible refine blockQ_n ?_ | with_reducible refine thenQ_e ?_ | with_reducible refine thenQ_r ?_ | with_reducible refine blockQ_r ?_ | with_reducible refine blockQ_s ?_ | with_reducible refine blockQ_o rfl ?_ | refine AW_skip ?_ | refine AW_seq ?_ | refine AW_ops ?_ | refine AW_blockS ?_ | refine AW_blockR ?_ | refine AW_blockD ?_ | refine AW_blockC ?_ | refine AO_nil ?_ | refine AW_draw ?_ | refine AW_draw3 ?_ | refine AW_blockD3 ?_ | (refine AW_drawA ?_; simp only [atBlk, List.set_cons_succ, List.set_cons_zero, List.take_succ_cons, List.take_zero, List.drop_succ_cons, List.drop_zero]) | refine AHd_nil ?_ | with_reducible refine AP_at ?_ | with_reducible refine AHP_at ?_ | ((first | with_reducible apply AO_any | with_reducible apply AHd_any | with_reducible apply AP_go | with_reducible apply AHP_go); focus (simp only [List.take_succ_cons, List.take_zero, List.drop_succ_cons, List.drop_zero, bne_self_eq_false, List.map_cons, List.map_nil, Bool.true_beq, Bool.false_beq, run_nil, run_cons, run_gate, cont_some, gate_true, gate_false, hrun_nil, hrun_cons, hrun_gate, hcont_some, hgate_true, hgate_false, put_some, put_none, ev_t, ev_k, wantedA, execA, stepA, List.set_cons_succ, List.set_cons_zero, List.getD_cons_succ, List.getD_cons_zero, List.getElem?_cons_zero, List.getElem?_cons_succ, if_true, if_false, binA, binInt, unA, eqA, Option.map, eq_self, true_or, or_true, true_and, and_true, and_self, beq_self_eq_true, Bool.not_true, Bool.not_false, reduceCtorEq, Bool.false_eq_true, ite_true, ite_false, fitsAll, CK.fits, decide_true, Bool.and_true, Bool.true_and, fillA, AV.cells, writeN, sliceCells, appendA, lenA, i64, loA, hiA, hcells_last, hown_last, List.take_zero, List.drop_zero, List.nil_append, List.cons_append, List.append_nil, List.take_nil, List.drop_nil, List.length_cons, List.length_nil, List.length_append, Nat.zero_add, Nat.add_zero, Nat.reduceAdd, Nat.reduceMul, Nat.reduceDiv, Nat.reduceSub, Nat.mul_one, Nat.one_mul, Nat.div_one, Nat.le_refl, Nat.reduceLeDiff, Nat.reduceLT, Int.toNat_natCast, Int.toNat_zero, Nat.zero_le, Int.natCast_nonneg, Int.reduceLE, Int.reduceLT, Option.some.injEq, foldA, maxA, minA, Cell.int.injEq, AV.c.injEq, pre_nil, pre_cons, pre_gate, pre1_cons, pre1_gate, qstop_true, qstop_false, qstopg_false, qgate_true, qgate_false, pcont_some, pstop_true, pstop_false, pstopg_false, pgate_true, pgate_false, hpre_nil, hpre_cons, hpre_gate, hpre1_cons, hpre1_gate, hqstop_true, hqstop_false, hqstopg_false, hqgate_true, hqgate_false, hpcont_some, hpstop_true, hpstop_false, hpstopg_false, hpgate_true, hpgate_false, Int.reduceBEq, Int.reduceBNe, Int.reduceGT, Int.reduceGE, Int.reduceEq, Int.reduceNe, decide_false, nat_0, nat_1, nat_2, nat_3, nat_4, nat_8, nat_16, nat_64, nat_128, Int.reduceToNat, AOp.stops, pre1_nil, hpre1_nil, ↓want_eq, wantV_bool, wantV_undef, ↓exec_lenX, lenX_snil, lenX_slc, ↓exec_storeX, ↓exec_storeN, storeN_one, ↓exec_bsX, ↓exec_sliceX, ↓exec_copyX, ↓exec_appNil, ↓exec_carryX, Nat.sub_zero, Nat.reduceLT, rep_len, hy.len1 _ yl, c, hf, hg, b]; with_reducible first | exact EqP.at_ | exact EqP.cont | exact EqP.hcont | exact EqP.gate | exact EqP.hgate)) | ((first | refine AW_ift ?_ ?_ | fail); focus (simp only [ev_t, put_some, put_none, List.set_cons_succ, List.set_cons_zero, List.getD_cons_succ, List.getD_cons_zero]; done)) | ((first | refine AW_iff ?_ ?_ | fail); focus (simp only [ev_t, put_some, put_none, List.set_cons_succ, List.set_cons_zero, List.getD_cons_succ, List.getD_cons_zero]; done))))
    exact AW_ret ⟨_, rfl, rfl, rfl⟩
  · have c : decide ((i : Int) < (l.length : Int)) = false := decide_eq_false (by omega)
    have e : l.getD i 0 = 0 := by rw [List.getD_eq_getElem?_getD, List.getElem?_eq_none h]; rfl
    rw [e]
    (repeat (first | with_reducible refine thenQ_n ?_ | with_reducible refine blockQ_n ?_ | with_reducible refine thenQ_e ?_ | with_reducible refine thenQ_r ?_ | with_reducible refine blockQ_r ?_ | with_reducible refine blockQ_s ?_ | with_reducible refine blockQ_o rfl ?_ | refine AW_skip ?_ | refine AW_seq ?_ | refine AW_ops ?_ | refine AW_blockS ?_ | refine AW_blockR ?_ | refine AW_blockD ?_ | refine AW_blockC ?_ | refine AO_nil ?_ | refine AW_draw ?_ | refine AW_draw3 ?_ | refine AW_blockD3 ?_ | (refine AW_drawA ?_; simp only [atBlk, List.set_cons_succ, List.set_cons_zero, List.take_succ_cons, List.take_zero, List.drop_succ_cons, List.drop_zero]) | refine AHd_nil ?_ | with_reducible refine AP_at ?_ | with_reducible refine AHP_at ?_ | ((first | with_reducible apply AO_any | with_reducible apply AHd_any | with_reducible apply AP_go | with_reducible apply AHP_go); focus (simp only [List.take_succ_cons, List.take_zero, List.drop_succ_cons, List.drop_zero, bne_self_eq_false, List.map_cons, List.map_nil, Bool.true_beq, Bool.false_beq, run_nil, run_cons, run_gate, cont_some, gate_true, gate_false, hrun_nil, hrun_cons, hrun_gate, hcont_some, hgate_true, hgate_false, put_some, put_none, ev_t, ev_k, wantedA, execA, stepA, List.set_cons_succ, List.set_cons_zero, List.getD_cons_succ, List.getD_cons_zero, List.getElem?_cons_zero, List.getElem?_cons_succ, if_true, if_false, binA, binInt, unA, eqA, Option.map, eq_self, true_or, or_true, true_and, and_true, and_self, beq_self_eq_true, Bool.not_true, Bool.not_false, reduceCtorEq, Bool.false_eq_true, ite_true, ite_false, fitsAll, CK.fits, decide_true, Bool.and_true, Bool.true_and, fillA, AV.cells, writeN, sliceCells, appendA, lenA, i64, loA, hiA, hcells_last, hown_last, List.take_zero, List.drop_zero, List.nil_append, List.cons_append, List.append_nil, List.take_nil, List.drop_nil, List.length_cons, List.length_nil, List.length_append, Nat.zero_add, Nat.add_zero, Nat.reduceAdd, Nat.reduceMul, Nat.reduceDiv, Nat.reduceSub, Nat.mul_one, Nat.one_mul, Nat.div_one, Nat.le_refl, Nat.reduceLeDiff, Nat.reduceLT, Int.toNat_natCast, Int.toNat_zero, Nat.zero_le, Int.natCast_nonneg, Int.reduceLE, Int.reduceLT, Option.some.injEq, foldA, maxA, minA, Cell.int.injEq, AV.c.injEq, pre_nil, pre_cons, pre_gate, pre1_cons, pre1_gate, qstop_true, qstop_false, qstopg_false, qgate_true, qgate_false, pcont_some, pstop_true, pstop_false, pstopg_false, pgate_true, pgate_false, hpre_nil, hpre_cons, hpre_gate, hpre1_cons, hpre1_gate, hqstop_true, hqstop_false, hqstopg_false, hqgate_true, hqgate_false, hpcont_some, hpstop_true, hpstop_false, hpstopg_false, hpgate_true, hpgate_false, Int.reduceBEq, Int.reduceBNe, Int.reduceGT, Int.reduceGE, Int.reduceEq, Int.reduceNe, decide_false, nat_0, nat_1, nat_2, nat_3, nat_4, nat_8, nat_16, nat_64, nat_128, Int.reduceToNat, AOp.stops, pre1_nil, hpre1_nil, ↓want_eq, wantV_bool, wantV_undef, ↓exec_lenX, lenX_snil, lenX_slc, ↓exec_storeX, ↓exec_storeN, storeN_one, ↓exec_bsX, ↓exec_sliceX, ↓exec_copyX, ↓exec_appNil, ↓exec_carryX, Nat.sub_zero, Nat.reduceLT, rep_len, hy.len1 _ yl, c]; with_reducible first | exact EqP.at_ | exact EqP.cont | exact EqP.hcont | exact EqP.gate | exact EqP.hgate)) | ((first | refine AW_ift ?_ ?_ | fail); focus (simp only [ev_t, put_some, put_none, List.set_cons_succ, List.set_cons_zero, List.getD_cons_succ, List.getD_cons_zero]; done)) | ((first | refine AW_iff ?_ ?_ | fail); focus (simp only [ev_t, put_some, put_none, List.set_cons_succ, List.set_cons_zero, List.getD_cons_succ, List.getD_cons_zero]; done))))
    exact AW_ret ⟨_, rfl, rfl, rfl⟩


def ofI (n : Nat) (H0 : AHeap) (i : Nat) (fr : AFrame) (H : AHeap) : Prop := Kept H0.length H0 H ∧ ∃ x, Own H0.length H x 1 (N64 (ofD n i)) ∧ (∃ s : Nat → AV, fr = [.c (.int .u64 ((n / 65536 ^ i : Nat) : Int)), s 1, s 2, .c x, s 4, s 5, s 6, s 7, s 8, s 9, s 10, s 11, s 12, s 13, s 14])
theorem AC_Of (n : Nat) (hn : n < 18446744073709551616) : AC A H.length F_pestleref03_Of [.c (.int .u64 (n : Int))] H (fun v H' => ∃ x, v = .c x ∧ Big H.length H' x n 4) := by
  refine AC_enter t_pestleref03_Of ?_; simp only [c_pestleref03_Of, enterA, List.replicate, List.length_cons, List.length_nil, Nat.reduceAdd, Nat.reduceSub, List.cons_append, List.nil_append]
  (repeat (first | with_reducible refine thenQ_n ?_ | with_reducible refine blockQ_n ?_ | with_reducible refine thenQ_e ?_ | with_reducible refine thenQ_r ?_ | with_reducible refine blockQ_r ?_ | with_reducible refine blockQ_s ?_ | with_reducible refine blockQ_o rfl ?_ | refine AW_skip ?_ | refine AW_seq ?_ | refine AW_ops ?_ | refine AW_blockS ?_ | refine AW_blockR ?_ | refine AW_blockD ?_ | refine AW_blockC ?_ | refine AO_nil ?_ | refine AW_draw ?_ | refine AW_draw3 ?_ | refine AW_blockD3 ?_ | (refine AW_drawA ?_; simp only [atBlk, List.set_cons_succ, List.set_cons_zero, List.take_succ_cons, List.take_zero, List.drop_succ_cons, List.drop_zero]) | refine AHd_nil ?_ | with_reducible refine AP_at ?_ | with_reducible refine AHP_at ?_ | ((first | with_reducible apply AO_any | with_reducible apply AHd_any | with_reducible apply AP_go | with_reducible apply AHP_go); focus (simp only [List.take_succ_cons, List.take_zero, List.drop_succ_cons, List.drop_zero, bne_self_eq_false, List.map_cons, List.map_nil, Bool.true_beq, Bool.false_beq, run_nil, run_cons, run_gate, cont_some, gate_true, gate_false, hrun_nil, hrun_cons, hrun_gate, hcont_some, hgate_true, hgate_false, put_some, put_none, ev_t, ev_k, wantedA, execA, stepA, List.set_cons_succ, List.set_cons_zero, List.getD_cons_succ, List.getD_cons_zero, List.getElem?_cons_zero, List.getElem?_cons_succ, if_true, if_false, binA, binInt, unA, eqA, Option.map, eq_self, true_or, or_true, true_and, and_true, and_self, beq_self_eq_true, Bool.not_true, Bool.not_false, reduceCtorEq, Bool.false_eq_true, ite_true, ite_false, fitsAll, CK.fits, decide_true, Bool.and_true, Bool.true_and, fillA, AV.cells, writeN, sliceCells, appendA, lenA, i64, loA, hiA, hcells_last, hown_last, List.take_zero, List.drop_zero, List.nil_append, List.cons_append, List.append_nil, List.take_nil, List.drop_nil, List.length_cons, List.length_nil, List.length_append, Nat.zero_add, Nat.add_zero, Nat.reduceAdd, Nat.reduceMul, Nat.reduceDiv, Nat.reduceSub, Nat.mul_one, Nat.one_mul, Nat.div_one, Nat.le_refl, Nat.reduceLeDiff, Nat.reduceLT, Int.toNat_natCast, Int.toNat_zero, Nat.zero_le, Int.natCast_nonneg, Int.reduceLE, Int.reduceLT, Option.some.injEq, foldA, maxA, minA, Cell.int.injEq, AV.c.injEq, pre_nil, pre_cons, pre_gate, pre1_cons, pre1_gate, qstop_true, qstop_false, qstopg_false, qgate_true, qgate_false, pcont_some, pstop_true, pstop_false, pstopg_false, pgate_true, pgate_false, hpre_nil, hpre_cons, hpre_gate, hpre1_cons, hpre1_gate, hqstop_true, hqstop_false, hqstopg_false, hqgate_true, hqgate_false, hpcont_some, hpstop_true, hpstop_false, hpstopg_false, hpgate_true, hpgate_false, Int.reduceBEq, Int.reduceBNe, Int.reduceGT, Int.reduceGE, Int.reduceEq, Int.reduceNe, decide_false, nat_0, nat_1, nat_2, nat_3, nat_4, nat_8, nat_16, nat_64, nat_128, Int.reduceToNat, AOp.stops, pre1_nil, hpre1_nil, ↓want_eq, wantV_bool, wantV_undef, ↓exec_lenX, lenX_snil, lenX_slc, ↓exec_storeX, ↓exec_storeN, storeN_one, ↓exec_bsX, ↓exec_sliceX, ↓exec_copyX, ↓exec_appNil, ↓exec_carryX, Nat.sub_zero, Nat.reduceLT, rep_len]; with_reducible first | exact EqP.at_ | exact EqP.cont | exact EqP.hcont | exact EqP.gate | exact EqP.hgate)) | ((first | refine AW_ift ?_ ?_ | fail); focus (simp only [ev_t, put_some, put_none, List.set_cons_succ, List.set_cons_zero, List.getD_cons_succ, List.getD_cons_zero]; done)) | ((first | refine AW_iff ?_ ?_ | fail); focus (simp only [ev_t, put_some, put_none, List.set_cons_succ, List.set_cons_zero, List.getD_cons_succ, List.getD_cons_zero]; done))))
  refine AW_mid (fun e fr H' => e = .normal ∧ ∃ i, i ≤ 4 ∧ n / 65536 ^ i = 0 ∧ ofI n H i fr H') ?_ ?_
  · refine AW_block (AW_up (ofI n H) 4 ⟨Kept.refl _ _, .snil, Own.nil, stale _ _ (by rw [Nat.pow_zero, Nat.div_one]; rfl)⟩ ?_)
    rintro i fr H1 hi ⟨k1, x, hx, st, rfl⟩
    (repeat (first | with_reducible refine thenQ_n ?_ | with_reducible refine blockQ_n ?_ | with_reducible refine thenQ_e ?_ | with_reducible refine thenQ_r ?_ | with_reducible refine blockQ_r ?_ | with_reducible refine blockQ_s ?_ | with_reducible refine blockQ_o rfl ?_ | refine AW_skip ?_ | refine AW_seq ?_ | refine AW_ops ?_ | refine AW_blockS ?_ | refine AW_blockR ?_ | refine AW_blockD ?_ | refine AW_blockC ?_ | refine AO_nil ?_ | refine AW_draw ?_ | refine AW_draw3 ?_ | refine AW_blockD3 ?_ | (refine AW_drawA ?_; simp only [atBlk, List.set_cons_succ, List.set_cons_zero, List.take_succ_cons, List.take_zero, List.drop_succ_cons, List.drop_zero]) | refine AHd_nil ?_ | with_reducible refine AP_at ?_ | with_reducible refine AHP_at ?_ | ((first | with_reducible apply AO_any | with_reducible apply AHd_any | with_reducible apply AP_go | with_reducible apply AHP_go); focus (simp only [List.take_succ_cons, List.take_zero, List.drop_succ_cons, List.drop_zero, bne_self_eq_false, List.map_cons, List.map_nil, Bool.true_beq, Bool.false_beq, run_nil, run_cons, run_gate, cont_some, gate_true, gate_false, hrun_nil, hrun_cons, hrun_gate, hcont_some, hgate_true, hgate_false, put_some, put_none, ev_t, ev_k, wantedA, execA, stepA, List.set_cons_succ, List.set_cons_zero, List.getD_cons_succ, List.getD_cons_zero, List.getElem?_cons_zero, List.getElem?_cons_succ, if_true, if_false, binA, binInt, unA, eqA, Option.map, eq_self, true_or, or_true, true_and, and_true, and_self, beq_self_eq_true, Bool.not_true, Bool.not_false, reduceCtorEq, Bool.false_eq_true, ite_true, ite_false, fitsAll, CK.fits, decide_true, Bool.and_true, Bool.true_and, fillA, AV.cells, writeN, sliceCells, appendA, lenA, i64, loA, hiA, hcells_last, hown_last, List.take_zero, List.drop_zero, List.nil_append, List.cons_append, List.append_nil, List.take_nil, List.drop_nil, List.length_cons, List.length_nil, List.length_append, Nat.zero_add, Nat.add_zero, Nat.reduceAdd, Nat.reduceMul, Nat.reduceDiv, Nat.reduceSub, Nat.mul_one, Nat.one_mul, Nat.div_one, Nat.le_refl, Nat.reduceLeDiff, Nat.reduceLT, Int.toNat_natCast, Int.toNat_zero, Nat.zero_le, Int.natCast_nonneg, Int.reduceLE, Int.reduceLT, Option.some.injEq, foldA, maxA, minA, Cell.int.injEq, AV.c.injEq, pre_nil, pre_cons, pre_gate, pre1_cons, pre1_gate, qstop_true, qstop_false, qstopg_false, qgate_true, qgate_false, pcont_some, pstop_true, pstop_false, pstopg_false, pgate_true, pgate_false, hpre_nil, hpre_cons, hpre_gate, hpre1_cons, hpre1_gate, hqstop_true, hqstop_false, hqstopg_false, hqgate_true, hqgate_false, hpcont_some, hpstop_true, hpstop_false, hpstopg_false, hpgate_true, hpgate_false, Int.reduceBEq, Int.reduceBNe, Int.reduceGT, Int.reduceGE, Int.reduceEq, Int.reduceNe, decide_false, nat_0, nat_1, nat_2, nat_3, nat_4, nat_8, nat_16, nat_64, nat_128, Int.reduceToNat, AOp.stops, pre1_nil, hpre1_nil, ↓want_eq, wantV_bool, wantV_undef, ↓exec_lenX, lenX_snil, lenX_slc, ↓exec_storeX, ↓exec_storeN, storeN_one, ↓exec_bsX, ↓exec_sliceX, ↓exec_copyX, ↓exec_appNil, ↓exec_carryX, Nat.sub_zero, Nat.reduceLT, rep_len]; with_reducible first | exact EqP.at_ | exact EqP.cont | exact EqP.hcont | exact EqP.gate | exact EqP.hgate)) | ((first | refine AW_ift ?_ ?_ | fail); focus (simp only [ev_t, put_some, put_none, List.set_cons_succ, List.set_cons_zero, List.getD_cons_succ, List.getD_cons_zero]; done)) | ((first | refine AW_iff ?_ ?_ | fail); focus (simp only [ev_t, put_some, put_none, List.set_cons_succ, List.set_cons_zero, List.getD_cons_succ, List.getD_cons_zero]; done))))
    refine AW_cond rfl ?_ ?_ <;> intro ht
    · have hp := nat_pos ht
      have hi4 : i < 4 := by
        rcases Nat.lt_or_ge i 4 with h | h
        · exact h
        · obtain rfl : i = 4 := by omega
          have : n / 65536 ^ 4 = 0 := Nat.div_eq_of_lt (by simpa using hn)
          rw [this] at hp; omega
      have e1 : Int.tmod ((n / 65536 ^ i : Nat) : Int) 65536 = ((n / 65536 ^ i % 65536 : Nat) : Int) := tmod_nat
      have e2 : IntKind.i64.wrap ((n / 65536 ^ i % 65536 : Nat) : Int) = ((n / 65536 ^ i % 65536 : Nat) : Int) := i64_of (by omega) (by omega)
      have e3 : Int.tdiv ((n / 65536 ^ i : Nat) : Int) 65536 = ((n / 65536 ^ (i + 1) : Nat) : Int) := by
        rw [show (65536 : Int) = ((65536 : Nat) : Int) from rfl, tdiv_nat, Nat.div_div_eq_div_mul, ← Nat.pow_succ]
      have lt1 : n / 65536 ^ (i + 1) ≤ n := Nat.div_le_self _ _
      have e4 : IntKind.u64.wrap ((n / 65536 ^ (i + 1) : Nat) : Int) = ((n / 65536 ^ (i + 1) : Nat) : Int) := u64_nat (by omega)
      have n1 : ¬ ((65536 : Int) = 0) := by omega
      (repeat (first | with_reducible refine thenQ_n ?_ | with_reducible refine blockQ_n ?_ | with_reducible refine thenQ_e ?_ | with_reducible refine thenQ_r ?_ | with_reducible refine blockQ_r ?_ | with_reducible refine blockQ_s ?_ | with_reducible refine blockQ_o rfl ?_ | refine AW_skip ?_ | refine AW_seq ?_ | refine AW_ops ?_ | refine AW_blockS ?_ | refine AW_blockR ?_ | refine AW_blockD ?_ | refine AW_blockC ?_ | refine AO_nil ?_ | refine AW_draw ?_ | refine AW_draw3 ?_ | refine AW_blockD3 ?_ | (refine AW_drawA ?_; simp only [atBlk, List.set_cons_succ, List.set_cons_zero, List.take_succ_cons, List.take_zero, List.drop_succ_cons, List.drop_zero]) | refine AHd_nil ?_ | with_reducible refine AP_at ?_ | with_reducible refine AHP_at ?_ | ((first | with_reducible apply AO_any | with_reducible apply AHd_any | with_reducible apply AP_go | with_reducible apply AHP_go); focus (simp only [List.take_succ_cons, List.take_zero, List.drop_succ_cons, List.drop_zero, bne_self_eq_false, List.map_cons, List.map_nil, Bool.true_beq, Bool.false_beq, run_nil, run_cons, run_gate, cont_some, gate_true, gate_false, hrun_nil, hrun_cons, hrun_gate, hcont_some, hgate_true, hgate_false, put_some, put_none, ev_t, ev_k, wantedA, execA, stepA, List.set_cons_succ, List.set_cons_zero, List.getD_cons_succ, List.getD_cons_zero, List.getElem?_cons_zero, List.getElem?_cons_succ, if_true, if_false, binA, binInt, unA, eqA, Option.map, eq_self, true_or, or_true, true_and, and_true, and_self, beq_self_eq_true, Bool.not_true, Bool.not_false, reduceCtorEq, Bool.false_eq_true, ite_true, ite_false, fitsAll, CK.fits, decide_true, Bool.and_true, Bool.true_and, fillA, AV.cells, writeN, sliceCells, appendA, lenA, i64, loA, hiA, hcells_last, hown_last, List.take_zero, List.drop_zero, List.nil_append, List.cons_append, List.append_nil, List.take_nil, List.drop_nil, List.length_cons, List.length_nil, List.length_append, Nat.zero_add, Nat.add_zero, Nat.reduceAdd, Nat.reduceMul, Nat.reduceDiv, Nat.reduceSub, Nat.mul_one, Nat.one_mul, Nat.div_one, Nat.le_refl, Nat.reduceLeDiff, Nat.reduceLT, Int.toNat_natCast, Int.toNat_zero, Nat.zero_le, Int.natCast_nonneg, Int.reduceLE, Int.reduceLT, Option.some.injEq, foldA, maxA, minA, Cell.int.injEq, AV.c.injEq, pre_nil, pre_cons, pre_gate, pre1_cons, pre1_gate, qstop_true, qstop_false, qstopg_false, qgate_true, qgate_false, pcont_some, pstop_true, pstop_false, pstopg_false, pgate_true, pgate_false, hpre_nil, hpre_cons, hpre_gate, hpre1_cons, hpre1_gate, hqstop_true, hqstop_false, hqstopg_false, hqgate_true, hqgate_false, hpcont_some, hpstop_true, hpstop_false, hpstopg_false, hpgate_true, hpgate_false, Int.reduceBEq, Int.reduceBNe, Int.reduceGT, Int.reduceGE, Int.reduceEq, Int.reduceNe, decide_false, nat_0, nat_1, nat_2, nat_3, nat_4, nat_8, nat_16, nat_64, nat_128, Int.reduceToNat, AOp.stops, pre1_nil, hpre1_nil, ↓want_eq, wantV_bool, wantV_undef, ↓exec_lenX, lenX_snil, lenX_slc, ↓exec_storeX, ↓exec_storeN, storeN_one, ↓exec_bsX, ↓exec_sliceX, ↓exec_copyX, ↓exec_appNil, ↓exec_carryX, Nat.sub_zero, Nat.reduceLT, rep_len, e1, e2, n1, ht]; with_reducible first | exact EqP.at_ | exact EqP.cont | exact EqP.hcont | exact EqP.gate | exact EqP.hgate)) | ((first | refine AW_ift ?_ ?_ | fail); focus (simp only [ev_t, put_some, put_none, List.set_cons_succ, List.set_cons_zero, List.getD_cons_succ, List.getD_cons_zero]; done)) | ((first | refine AW_iff ?_ ?_ | fail); focus (simp only [ev_t, put_some, put_none, List.set_cons_succ, List.set_cons_zero, List.getD_cons_succ, List.getD_cons_zero]; done))))
      have fl := ofD_length n i
      refine AO_appendT (bytes := 8) (f := H.length) hx.app.t (cells_last rfl) rfl (by omega) (Nat.mod_one _) (by omega) (by have := k1.1; simp; omega) (by rw [N64_length, fl]; simp only [List.length_cons, List.length_nil]; omega) rfl rfl ?_
      intro q n' H2 hq h2 c2
      have k2 : Kept H.length H H2 := kept_app (k1.trans (Kept.push _ _ _)) hx.app c2
      (repeat (first | with_reducible refine thenQ_n ?_ | with_reducible refine blockQ_n ?_ | with_reducible refine thenQ_e ?_ | with_reducible refine thenQ_r ?_ | with_reducible refine blockQ_r ?_ | with_reducible refine blockQ_s ?_ | with_reducible refine blockQ_o rfl ?_ | refine AW_skip ?_ | refine AW_seq ?_ | refine AW_ops ?_ | refine AW_blockS ?_ | refine AW_blockR ?_ | refine AW_blockD ?_ | refine AW_blockC ?_ | refine AO_nil ?_ | refine AW_draw ?_ | refine AW_draw3 ?_ | refine AW_blockD3 ?_ | (refine AW_drawA ?_; simp only [atBlk, List.set_cons_succ, List.set_cons_zero, List.take_succ_cons, List.take_zero, List.drop_succ_cons, List.drop_zero]) | refine AHd_nil ?_ | with_reducible refine AP_at ?_ | with_reducible refine AHP_at ?_ | ((first | with_reducible apply AO_any | with_reducible apply AHd_any | with_reducible apply AP_go | with_reducible apply AHP_go); focus (simp only [List.take_succ_cons, List.take_zero, List.drop_succ_cons, List.drop_zero, bne_self_eq_false, List.map_cons, List.map_nil, Bool.true_beq, Bool.false_beq, run_nil, run_cons, run_gate, cont_some, gate_true, gate_false, hrun_nil, hrun_cons, hrun_gate, hcont_some, hgate_true, hgate_false, put_some, put_none, ev_t, ev_k, wantedA, execA, stepA, List.set_cons_succ, List.set_cons_zero, List.getD_cons_succ, List.getD_cons_zero, List.getElem?_cons_zero, List.getElem?_cons_succ, if_true, if_false, binA, binInt, unA, eqA, Option.map, eq_self, true_or, or_true, true_and, and_true, and_self, beq_self_eq_true, Bool.not_true, Bool.not_false, reduceCtorEq, Bool.false_eq_true, ite_true, ite_false, fitsAll, CK.fits, decide_true, Bool.and_true, Bool.true_and, fillA, AV.cells, writeN, sliceCells, appendA, lenA, i64, loA, hiA, hcells_last, hown_last, List.take_zero, List.drop_zero, List.nil_append, List.cons_append, List.append_nil, List.take_nil, List.drop_nil, List.length_cons, List.length_nil, List.length_append, Nat.zero_add, Nat.add_zero, Nat.reduceAdd, Nat.reduceMul, Nat.reduceDiv, Nat.reduceSub, Nat.mul_one, Nat.one_mul, Nat.div_one, Nat.le_refl, Nat.reduceLeDiff, Nat.reduceLT, Int.toNat_natCast, Int.toNat_zero, Nat.zero_le, Int.natCast_nonneg, Int.reduceLE, Int.reduceLT, Option.some.injEq, foldA, maxA, minA, Cell.int.injEq, AV.c.injEq, pre_nil, pre_cons, pre_gate, pre1_cons, pre1_gate, qstop_true, qstop_false, qstopg_false, qgate_true, qgate_false, pcont_some, pstop_true, pstop_false, pstopg_false, pgate_true, pgate_false, hpre_nil, hpre_cons, hpre_gate, hpre1_cons, hpre1_gate, hqstop_true, hqstop_false, hqstopg_false, hqgate_true, hqgate_false, hpcont_some, hpstop_true, hpstop_false, hpstopg_false, hpgate_true, hpgate_false, Int.reduceBEq, Int.reduceBNe, Int.reduceGT, Int.reduceGE, Int.reduceEq, Int.reduceNe, decide_false, nat_0, nat_1, nat_2, nat_3, nat_4, nat_8, nat_16, nat_64, nat_128, Int.reduceToNat, AOp.stops, pre1_nil, hpre1_nil, ↓want_eq, wantV_bool, wantV_undef, ↓exec_lenX, lenX_snil, lenX_slc, ↓exec_storeX, ↓exec_storeN, storeN_one, ↓exec_bsX, ↓exec_sliceX, ↓exec_copyX, ↓exec_appNil, ↓exec_carryX, Nat.sub_zero, Nat.reduceLT, rep_len, e3, e4, n1]; with_reducible first | exact EqP.at_ | exact EqP.cont | exact EqP.hcont | exact EqP.gate | exact EqP.hgate)) | ((first | refine AW_ift ?_ ?_ | fail); focus (simp only [ev_t, put_some, put_none, List.set_cons_succ, List.set_cons_zero, List.getD_cons_succ, List.getD_cons_zero]; done)) | ((first | refine AW_iff ?_ ?_ | fail); focus (simp only [ev_t, put_some, put_none, List.set_cons_succ, List.set_cons_zero, List.getD_cons_succ, List.getD_cons_zero]; done))))
      exact ⟨hi4, k2, _, by rw [N64_one, ← N64_append] at h2; exact h2, stale _ _ rfl⟩
    · exact AW_exit ⟨rfl, i, hi, nat_not_pos ht, k1, x, hx, stale _ _ rfl⟩
  rintro e fr H1 ⟨rfl, i, hi, h0, k1, x, hx, st, rfl⟩
  (repeat (first | with_reducible refine thenQ_n ?_ | with_reducible refine blockQ_n ?_ | with_reducible refine thenQ_e ?_ | with_reducible refine thenQ_r ?_ | with_reducible refine blockQ_r ?_ | with_reducible refine blockQ_s ?_ | with_reducible refine blockQ_o rfl ?_ | refine AW_skip ?_ | refine AW_seq ?_ | refine AW_ops ?_ | refine AW_blockS ?_ | refine AW_blockR ?_ | refine AW_blockD ?_ | refine AW_blockC ?_ | refine AO_nil ?_ | refine AW_draw ?_ | refine AW_draw3 ?_ | refine AW_blockD3 ?_ | (refine AW_drawA ?_; simp only [atBlk, List.set_cons_succ, List.set_cons_zero, List.take_succ_cons, List.take_zero, List.drop_succ_cons, List.drop_zero]) | refine AHd_nil ?_ | with_reducible refine AP_at ?_ | with_reducible refine AHP_at ?_ | ((first | with_reducible apply AO_any | with_reducible apply AHd_any | with_reducible apply AP_go | with_reducible apply AHP_go); focus (simp only [List.take_succ_cons, List.take_zero, List.drop_succ_cons, List.drop_zero, bne_self_eq_false, List.map_cons, List.map_nil, Bool.true_beq, Bool.false_beq, run_nil, run_cons, run_gate, cont_some, gate_true, gate_false, hrun_nil, hrun_cons, hrun_gate, hcont_some, hgate_true, hgate_false, put_some, put_none, ev_t, ev_k, wantedA, execA, stepA, List.set_cons_succ, List.set_cons_zero, List.getD_cons_succ, List.getD_cons_zero, List.getElem?_cons_zero, List.getElem?_cons_succ, if_true, if_false, binA, binInt, unA, eqA, Option.map, eq_self, true_or, or_true, true_and, and_true, and_self, beq_self_eq_true, Bool.not_true, Bool.not_false, reduceCtorEq, Bool.false_eq_true, ite_true, ite_false, fitsAll, CK.fits, decide_true, Bool.and_true, Bool.true_and, fillA, AV.cells, writeN, sliceCells, appendA, lenA, i64, loA, hiA, hcells_last, hown_last, List.take_zero, List.drop_zero, List.nil_append, List.cons_append, List.append_nil, List.take_nil, List.drop_nil, List.length_cons, List.length_nil, List.length_append, Nat.zero_add, Nat.add_zero, Nat.reduceAdd, Nat.reduceMul, Nat.reduceDiv, Nat.reduceSub, Nat.mul_one, Nat.one_mul, Nat.div_one, Nat.le_refl, Nat.reduceLeDiff, Nat.reduceLT, Int.toNat_natCast, Int.toNat_zero, Nat.zero_le, Int.natCast_nonneg, Int.reduceLE, Int.reduceLT, Option.some.injEq, foldA, maxA, minA, Cell.int.injEq, AV.c.injEq, pre_nil, pre_cons, pre_gate, pre1_cons, pre1_gate, qstop_true, qstop_false, qstopg_false, qgate_true, qgate_false, pcont_some, pstop_true, pstop_false, pstopg_false, pgate_true, pgate_false, hpre_nil, hpre_cons, hpre_gate, hpre1_cons, hpre1_gate, hqstop_true, hqstop_false, hqstopg_false, hqgate_true, hqgate_false, hpcont_some, hpstop_true, hpstop_false, hpstopg_false, hpgate_true, hpgate_false, Int.reduceBEq, Int.reduceBNe, Int.reduceGT, Int.reduceGE, Int.reduceEq, Int.reduceNe, decide_false, nat_0, nat_1, nat_2, nat_3, nat_4, nat_8, nat_16, nat_64, nat_128, Int.reduceToNat, AOp.stops, pre1_nil, hpre1_nil, ↓want_eq, wantV_bool, wantV_undef, ↓exec_lenX, lenX_snil, lenX_slc, ↓exec_storeX, ↓exec_storeN, storeN_one, ↓exec_bsX, ↓exec_sliceX, ↓exec_copyX, ↓exec_appNil, ↓exec_carryX, Nat.sub_zero, Nat.reduceLT, rep_len]; with_reducible first | exact EqP.at_ | exact EqP.cont | exact EqP.hcont | exact EqP.gate | exact EqP.hgate)) | ((first | refine AW_ift ?_ ?_ | fail); focus (simp only [ev_t, put_some, put_none, List.set_cons_succ, List.set_cons_zero, List.getD_cons_succ, List.getD_cons_zero]; done)) | ((first | refine AW_iff ?_ ?_ | fail); focus (simp only [ev_t, put_some, put_none, List.set_cons_succ, List.set_cons_zero, List.getD_cons_succ, List.getD_cons_zero]; done))))
  refine AW_ret ⟨_, rfl, x, rfl, _, hx, ofD_dig n i, ?_, by rw [ofD_length]; exact hi⟩
  rw [ofD_val]
  have := Nat.div_add_mod n (65536 ^ i)
  rw [h0] at this; omega

theorem AC_Up (y : Cell) (l : List Nat) (k : Nat) (hy : Rd H y 1 (N64 l)) (hk : k ≤ 100) (hl : l.length ≤ 1000) : AC A H.length F_pestleref03_Up [.c y, .c (.int .i64 (k : Int))] H (fun v H' => ∃ x, v = .c x ∧ Own H.length H' x 1 (N64 (List.replicate k 0 ++ l))) := by
  refine AC_enter t_pestleref03_Up ?_; simp only [c_pestleref03_Up, enterA, List.replicate, List.length_cons, List.length_nil, Nat.reduceAdd, Nat.reduceSub, List.cons_append, List.nil_append]
  have b1 : (k : Int) * 8 ≤ 140737488355328 := by omega
  (repeat (first | with_reducible refine thenQ_n ?_ | with_reducible refine blockQ_n ?_ | with_reducible refine thenQ_e ?_ | with_reducible refine thenQ_r ?_ | with_reducible refine blockQ_r ?_ | with_reducible refine blockQ_s ?_ | with_reducible refine blockQ_o rfl ?_ | refine AW_skip ?_ | refine AW_seq ?_ | refine AW_ops ?_ | refine AW_blockS ?_ | refine AW_blockR ?_ | refine AW_blockD ?_ | refine AW_blockC ?_ | refine AO_nil ?_ | refine AW_draw ?_ | refine AW_draw3 ?_ | refine AW_blockD3 ?_ | (refine AW_drawA ?_; simp only [atBlk, List.set_cons_succ, List.set_cons_zero, List.take_succ_cons, List.take_zero, List.drop_succ_cons, List.drop_zero]) | refine AHd_nil ?_ | with_reducible refine AP_at ?_ | with_reducible refine AHP_at ?_ | ((first | with_reducible apply AO_any | with_reducible apply AHd_any | with_reducible apply AP_go | with_reducible apply AHP_go); focus (simp only [List.take_succ_cons, List.take_zero, List.drop_succ_cons, List.drop_zero, bne_self_eq_false, List.map_cons, List.map_nil, Bool.true_beq, Bool.false_beq, run_nil, run_cons, run_gate, cont_some, gate_true, gate_false, hrun_nil, hrun_cons, hrun_gate, hcont_some, hgate_true, hgate_false, put_some, put_none, ev_t, ev_k, wantedA, execA, stepA, List.set_cons_succ, List.set_cons_zero, List.getD_cons_succ, List.getD_cons_zero, List.getElem?_cons_zero, List.getElem?_cons_succ, if_true, if_false, binA, binInt, unA, eqA, Option.map, eq_self, true_or, or_true, true_and, and_true, and_self, beq_self_eq_true, Bool.not_true, Bool.not_false, reduceCtorEq, Bool.false_eq_true, ite_true, ite_false, fitsAll, CK.fits, decide_true, Bool.and_true, Bool.true_and, fillA, AV.cells, writeN, sliceCells, appendA, lenA, i64, loA, hiA, hcells_last, hown_last, List.take_zero, List.drop_zero, List.nil_append, List.cons_append, List.append_nil, List.take_nil, List.drop_nil, List.length_cons, List.length_nil, List.length_append, Nat.zero_add, Nat.add_zero, Nat.reduceAdd, Nat.reduceMul, Nat.reduceDiv, Nat.reduceSub, Nat.mul_one, Nat.one_mul, Nat.div_one, Nat.le_refl, Nat.reduceLeDiff, Nat.reduceLT, Int.toNat_natCast, Int.toNat_zero, Nat.zero_le, Int.natCast_nonneg, Int.reduceLE, Int.reduceLT, Option.some.injEq, foldA, maxA, minA, Cell.int.injEq, AV.c.injEq, pre_nil, pre_cons, pre_gate, pre1_cons, pre1_gate, qstop_true, qstop_false, qstopg_false, qgate_true, qgate_false, pcont_some, pstop_true, pstop_false, pstopg_false, pgate_true, pgate_false, hpre_nil, hpre_cons, hpre_gate, hpre1_cons, hpre1_gate, hqstop_true, hqstop_false, hqstopg_false, hqgate_true, hqgate_false, hpcont_some, hpstop_true, hpstop_false, hpstopg_false, hpgate_true, hpgate_false, Int.reduceBEq, Int.reduceBNe, Int.reduceGT, Int.reduceGE, Int.reduceEq, Int.reduceNe, decide_false, nat_0, nat_1, nat_2, nat_3, nat_4, nat_8, nat_16, nat_64, nat_128, Int.reduceToNat, AOp.stops, pre1_nil, hpre1_nil, ↓want_eq, wantV_bool, wantV_undef, ↓exec_lenX, lenX_snil, lenX_slc, ↓exec_storeX, ↓exec_storeN, storeN_one, ↓exec_bsX, ↓exec_sliceX, ↓exec_copyX, ↓exec_appNil, ↓exec_carryX, Nat.sub_zero, Nat.reduceLT, rep_len, b1, Int.le_refl, N64_zeros, Int.mul_one]; with_reducible first | exact EqP.at_ | exact EqP.cont | exact EqP.hcont | exact EqP.gate | exact EqP.hgate)) | ((first | refine AW_ift ?_ ?_ | fail); focus (simp only [ev_t, put_some, put_none, List.set_cons_succ, List.set_cons_zero, List.getD_cons_succ, List.getD_cons_zero]; done)) | ((first | refine AW_iff ?_ ?_ | fail); focus (simp only [ev_t, put_some, put_none, List.set_cons_succ, List.set_cons_zero, List.getD_cons_succ, List.getD_cons_zero]; done))))
  have h1 : Own H.length (H ++ [Blk.own (N64 (List.replicate k 0))]) (.slc H.length 0 k 1) 1 (N64 (List.replicate k 0)) := by
    have := Own.one (f := H.length) (H := H) (cs := N64 (List.replicate k 0)) (Nat.le_refl _)
    rw [N64_length, List.length_replicate] at this; exact this
  have hy1 : Rd (H ++ [Blk.own (N64 (List.replicate k 0))]) y 1 (N64 l) := hy.kept (Kept.push _ _ _)
  refine AO_appendT (bytes := 8) (f := H.length) h1.t hy1.cells rfl (by omega) (Nat.mod_one _) (by omega) (by simp) (by rw [N64_length, N64_length, List.length_replicate]; omega) rfl rfl ?_
  intro q n' H2 hq h2 c2
  (repeat (first | with_reducible refine thenQ_n ?_ | with_reducible refine blockQ_n ?_ | with_reducible refine thenQ_e ?_ | with_reducible refine thenQ_r ?_ | with_reducible refine blockQ_r ?_ | with_reducible refine blockQ_s ?_ | with_reducible refine blockQ_o rfl ?_ | refine AW_skip ?_ | refine AW_seq ?_ | refine AW_ops ?_ | refine AW_blockS ?_ | refine AW_blockR ?_ | refine AW_blockD ?_ | refine AW_blockC ?_ | refine AO_nil ?_ | refine AW_draw ?_ | refine AW_draw3 ?_ | refine AW_blockD3 ?_ | (refine AW_drawA ?_; simp only [atBlk, List.set_cons_succ, List.set_cons_zero, List.take_succ_cons, List.take_zero, List.drop_succ_cons, List.drop_zero]) | refine AHd_nil ?_ | with_reducible refine AP_at ?_ | with_reducible refine AHP_at ?_ | ((first | with_reducible apply AO_any | with_reducible apply AHd_any | with_reducible apply AP_go | with_reducible apply AHP_go); focus (simp only [List.take_succ_cons, List.take_zero, List.drop_succ_cons, List.drop_zero, bne_self_eq_false, List.map_cons, List.map_nil, Bool.true_beq, Bool.false_beq, run_nil, run_cons, run_gate, cont_some, gate_true, gate_false, hrun_nil, hrun_cons, hrun_gate, hcont_some, hgate_true, hgate_false, put_some, put_none, ev_t, ev_k, wantedA, execA, stepA, List.set_cons_succ, List.set_cons_zero, List.getD_cons_succ, List.getD_cons_zero, List.getElem?_cons_zero, List.getElem?_cons_succ, if_true, if_false, binA, binInt, unA, eqA, Option.map, eq_self, true_or, or_true, true_and, and_true, and_self, beq_self_eq_true, Bool.not_true, Bool.not_false, reduceCtorEq, Bool.false_eq_true, ite_true, ite_false, fitsAll, CK.fits, decide_true, Bool.and_true, Bool.true_and, fillA, AV.cells, writeN, sliceCells, appendA, lenA, i64, loA, hiA, hcells_last, hown_last, List.take_zero, List.drop_zero, List.nil_append, List.cons_append, List.append_nil, List.take_nil, List.drop_nil, List.length_cons, List.length_nil, List.length_append, Nat.zero_add, Nat.add_zero, Nat.reduceAdd, Nat.reduceMul, Nat.reduceDiv, Nat.reduceSub, Nat.mul_one, Nat.one_mul, Nat.div_one, Nat.le_refl, Nat.reduceLeDiff, Nat.reduceLT, Int.toNat_natCast, Int.toNat_zero, Nat.zero_le, Int.natCast_nonneg, Int.reduceLE, Int.reduceLT, Option.some.injEq, foldA, maxA, minA, Cell.int.injEq, AV.c.injEq, pre_nil, pre_cons, pre_gate, pre1_cons, pre1_gate, qstop_true, qstop_false, qstopg_false, qgate_true, qgate_false, pcont_some, pstop_true, pstop_false, pstopg_false, pgate_true, pgate_false, hpre_nil, hpre_cons, hpre_gate, hpre1_cons, hpre1_gate, hqstop_true, hqstop_false, hqstopg_false, hqgate_true, hqgate_false, hpcont_some, hpstop_true, hpstop_false, hpstopg_false, hpgate_true, hpgate_false, Int.reduceBEq, Int.reduceBNe, Int.reduceGT, Int.reduceGE, Int.reduceEq, Int.reduceNe, decide_false, nat_0, nat_1, nat_2, nat_3, nat_4, nat_8, nat_16, nat_64, nat_128, Int.reduceToNat, AOp.stops, pre1_nil, hpre1_nil, ↓want_eq, wantV_bool, wantV_undef, ↓exec_lenX, lenX_snil, lenX_slc, ↓exec_storeX, ↓exec_storeN, storeN_one, ↓exec_bsX, ↓exec_sliceX, ↓exec_copyX, ↓exec_appNil, ↓exec_carryX, Nat.sub_zero, Nat.reduceLT, rep_len]; with_reducible first | exact EqP.at_ | exact EqP.cont | exact EqP.hcont | exact EqP.gate | exact EqP.hgate)) | ((first | refine AW_ift ?_ ?_ | fail); focus (simp only [ev_t, put_some, put_none, List.set_cons_succ, List.set_cons_zero, List.getD_cons_succ, List.getD_cons_zero]; done)) | ((first | refine AW_iff ?_ ?_ | fail); focus (simp only [ev_t, put_some, put_none, List.set_cons_succ, List.set_cons_zero, List.getD_cons_succ, List.getD_cons_zero]; done))))
  exact AW_ret ⟨_, rfl, _, rfl, by rw [N64_append]; exact h2⟩




def suI (ya yb : Cell) (a b : List Nat) (H0 : AHeap) (i : Nat) (fr : AFrame) (H : AHeap) : Prop :=
  Kept H0.length H0 H ∧ ∃ (x : Cell) (l : List Nat) (c : Nat), Own H0.length H x 1 (N64 l) ∧ Dig l ∧ l.length = i ∧ val l + 65536 ^ i * (c + val (a.drop i) + val (b.drop i)) = val a + val b ∧ c ≤ 1 ∧ (max a.length b.length < i → c = 0) ∧ (∃ s : Nat → AV, fr = [.c ya, .c yb, s 2, s 3, s 4, .c x, .c (.int .i64 (c : Int)), .c (.int .i64 (i : Int)), s 8, s 9, s 10, s 11, s 12, s 13, s 14, s 15, s 16, s 17, s 18, s 19, s 20, s 21, s 22, s 23, s 24, s 25, s 26, s 27, s 28, s 29, s 30, s 31, s 32, s 33, s 34, s 35, s 36, s 37, s 38, s 39, s 40])
theorem AC_Sum (ya yb : Cell) (a b : List Nat) (hya : Rd H ya 1 (N64 a)) (hyb : Rd H yb 1 (N64 b)) (da : Dig a) (db : Dig b) (la : a.length ≤ 1000) (lb : b.length ≤ 1000) :
    AC A H.length F_pestleref03_Sum [.c ya, .c yb] H (fun v H' => ∃ x, v = .c x ∧ Big H.length H' x (val a + val b) (max a.length b.length + 1)) := by
  have yla : (N64 a).length = a.length := N64_length
  have ylb : (N64 b).length = b.length := N64_length
  obtain ⟨M, hM⟩ : ∃ M, M = max a.length b.length := ⟨_, rfl⟩
  have hMa : a.length ≤ M := by omega
  have hMb : b.length ≤ M := by omega
  refine AC_enter t_pestleref03_Sum ?_; simp only [c_pestleref03_Sum, enterA, List.replicate, List.length_cons, List.length_nil, Nat.reduceAdd, Nat.reduceSub, List.cons_append, List.nil_append]
  (repeat (first | with_reducible refine thenQ_n ?_ | with_reducible refine blockQ_n ?_ | with_reducible refine thenQ_e ?_ | with_reducible refine thenQ_r ?_ | with_reducible refine blockQ_r ?_ | with_reducible refine blockQ_s ?_ | with_reducible refine blockQ_o rfl ?_ | refine AW_skip ?_ | refine AW_seq ?_ | refine AW_ops ?_ | refine AW_blockS ?_ | refine AW_blockR ?_ | refine AW_blockD ?_ | refine AW_blockC ?_ | refine AO_nil ?_ | refine AW_draw ?_ | refine AW_draw3 ?_ | refine AW_blockD3 ?_ | (refine AW_drawA ?_; simp only [atBlk, List.set_cons_succ, List.set_cons_zero, List.take_succ_cons, List.take_zero, List.drop_succ_cons, List.drop_zero]) | refine AHd_nil ?_ | with_reducible refine AP_at ?_ | with_reducible refine AHP_at ?_ | ((first | with_reducible apply AO_any | with_reducible apply AHd_any | with_reducible apply AP_go | with_reducible apply AHP_go); focus (simp only [List.take_succ_cons, List.take_zero, List.drop_succ_cons, List.drop_zero, bne_self_eq_false, List.map_cons, List.map_nil, Bool.true_beq, Bool.false_beq, run_nil, run_cons, run_gate, cont_some, gate_true, gate_false, hrun_nil, hrun_cons, hrun_gate, hcont_some, hgate_true, hgate_false, put_some, put_none, ev_t, ev_k, wantedA, execA, stepA, List.set_cons_succ, List.set_cons_zero, List.getD_cons_succ, List.getD_cons_zero, List.getElem?_cons_zero, List.getElem?_cons_succ, if_true, if_false, binA, binInt, unA, eqA, Option.map, eq_self, true_or, or_true, true_and, and_true, and_self, beq_self_eq_true, Bool.not_true, Bool.not_false, reduceCtorEq, Bool.false_eq_true, ite_true, ite_false, fitsAll, CK.fits, decide_true, Bool.and_true, Bool.true_and, fillA, AV.cells, writeN, sliceCells, appendA, lenA, i64, loA, hiA, hcells_last, hown_last, List.take_zero, List.drop_zero, List.nil_append, List.cons_append, List.append_nil, List.take_nil, List.drop_nil, List.length_cons, List.length_nil, List.length_append, Nat.zero_add, Nat.add_zero, Nat.reduceAdd, Nat.reduceMul, Nat.reduceDiv, Nat.reduceSub, Nat.mul_one, Nat.one_mul, Nat.div_one, Nat.le_refl, Nat.reduceLeDiff, Nat.reduceLT, Int.toNat_natCast, Int.toNat_zero, Nat.zero_le, Int.natCast_nonneg, Int.reduceLE, Int.reduceLT, Option.some.injEq, foldA, maxA, minA, Cell.int.injEq, AV.c.injEq, pre_nil, pre_cons, pre_gate, pre1_cons, pre1_gate, qstop_true, qstop_false, qstopg_false, qgate_true, qgate_false, pcont_some, pstop_true, pstop_false, pstopg_false, pgate_true, pgate_false, hpre_nil, hpre_cons, hpre_gate, hpre1_cons, hpre1_gate, hqstop_true, hqstop_false, hqstopg_false, hqgate_true, hqgate_false, hpcont_some, hpstop_true, hpstop_false, hpstopg_false, hpgate_true, hpgate_false, Int.reduceBEq, Int.reduceBNe, Int.reduceGT, Int.reduceGE, Int.reduceEq, Int.reduceNe, decide_false, nat_0, nat_1, nat_2, nat_3, nat_4, nat_8, nat_16, nat_64, nat_128, Int.reduceToNat, AOp.stops, pre1_nil, hpre1_nil, ↓want_eq, wantV_bool, wantV_undef, ↓exec_lenX, lenX_snil, lenX_slc, ↓exec_storeX, ↓exec_storeN, storeN_one, ↓exec_bsX, ↓exec_sliceX, ↓exec_copyX, ↓exec_appNil, ↓exec_carryX, Nat.sub_zero, Nat.reduceLT, rep_len]; with_reducible first | exact EqP.at_ | exact EqP.cont | exact EqP.hcont | exact EqP.gate | exact EqP.hgate)) | ((first | refine AW_ift ?_ ?_ | fail); focus (simp only [ev_t, put_some, put_none, List.set_cons_succ, List.set_cons_zero, List.getD_cons_succ, List.getD_cons_zero]; done)) | ((first | refine AW_iff ?_ ?_ | fail); focus (simp only [ev_t, put_some, put_none, List.set_cons_succ, List.set_cons_zero, List.getD_cons_succ, List.getD_cons_zero]; done))))
  refine AW_mid (fun e fr H' => e = .normal ∧ ∃ x, Big H.length H' x (val a + val b) (max a.length b.length + 1) ∧ (∃ s : Nat → AV, fr = [s 0, s 1, s 2, s 3, s 4, .c x, s 6, s 7, s 8, s 9, s 10, s 11, s 12, s 13, s 14, s 15, s 16, s 17, s 18, s 19, s 20, s 21, s 22, s 23, s 24, s 25, s 26, s 27, s 28, s 29, s 30, s 31, s 32, s 33, s 34, s 35, s 36, s 37, s 38, s 39, s 40])) ?_ ?_
  · refine AW_block (AW_up (suI ya yb a b H) (M + 1) ⟨Kept.refl _ _, .snil, [], 0, Own.nil, Dig.nil, rfl, by simp [val], by omega, fun _ => rfl, stale _ _ rfl⟩ ?_)
    rintro i fr H1 hi ⟨k1, x, l, c, hx, hd, hl, hv, hc, hc0, st, rfl⟩
    have ra := hya.kept k1
    have rb := hyb.kept k1
    by_cases hgo : i < a.length ∨ i < b.length ∨ 0 < c
    · have hiM : i < M + 1 := by
        rcases hgo with h | h | h
        · omega
        · omega
        · rcases Nat.lt_or_ge i (M + 1) with h' | h'
          · exact h'
          · have := hc0 (by omega); omega
      refine AW_seq (AW_mid (fun e fr H' => e = .normal ∧ H1 = H' ∧ (∃ s : Nat → AV, fr = [.c ya, .c yb, s 2, s 3, s 4, .c x, .c (.int .i64 (c : Int)), .c (.int .i64 (i : Int)), s 8, s 9, s 10, s 11, s 12, s 13, s 14, s 15, s 16, s 17, s 18, s 19, s 20, .c (.bool true), s 22, s 23, s 24, s 25, s 26, s 27, s 28, s 29, s 30, s 31, s 32, s 33, s 34, s 35, s 36, s 37, s 38, s 39, s 40])) ?_ ?_)
      · by_cases h1 : i < a.length
        · have d1 : decide ((i : Int) < (a.length : Int)) = true := decide_eq_true (by omega)
          (repeat (first | with_reducible refine thenQ_n ?_ | with_reducible refine blockQ_n ?_ | with_reducible refine thenQ_e ?_ | with_reducible refine thenQ_r ?_ | with_reducible refine blockQ_r ?_ | with_reducible refine blockQ_s ?_ | with_reducible refine blockQ_o rfl ?_ | refine AW_skip ?_ | refine AW_seq ?_ | refine AW_ops ?_ | refine AW_blockS ?_ | refine AW_blockR ?_ | refine AW_blockD ?_ | refine AW_blockC ?_ | refine AO_nil ?_ | refine AW_draw ?_ | refine AW_draw3 ?_ | refine AW_blockD3 ?_ | (refine AW_drawA ?_; simp only [atBlk, List.set_cons_succ, List.set_cons_zero, List.take_succ_cons, List.take_zero, List.drop_succ_cons, List.drop_zero]) | refine AHd_nil ?_ | with_reducible refine AP_at ?_ | with_reducible refine AHP_at ?_ | ((first | with_reducible apply AO_any | with_reducible apply AHd_any | with_reducible apply AP_go | with_reducible apply AHP_go); focus (simp only [List.take_succ_cons, List.take_zero, List.drop_succ_cons, List.drop_zero, bne_self_eq_false, List.map_cons, List.map_nil, Bool.true_beq, Bool.false_beq, run_nil, run_cons, run_gate, cont_some, gate_true, gate_false, hrun_nil, hrun_cons, hrun_gate, hcont_some, hgate_true, hgate_false, put_some, put_none, ev_t, ev_k, wantedA, execA, stepA, List.set_cons_succ, List.set_cons_zero, List.getD_cons_succ, List.getD_cons_zero, List.getElem?_cons_zero, List.getElem?_cons_succ, if_true, if_false, binA, binInt, unA, eqA, Option.map, eq_self, true_or, or_true, true_and, and_true, and_self, beq_self_eq_true, Bool.not_true, Bool.not_false, reduceCtorEq, Bool.false_eq_true, ite_true, ite_false, fitsAll, CK.fits, decide_true, Bool.and_true, Bool.true_and, fillA, AV.cells, writeN, sliceCells, appendA, lenA, i64, loA, hiA, hcells_last, hown_last, List.take_zero, List.drop_zero, List.nil_append, List.cons_append, List.append_nil, List.take_nil, List.drop_nil, List.length_cons, List.length_nil, List.length_append, Nat.zero_add, Nat.add_zero, Nat.reduceAdd, Nat.reduceMul, Nat.reduceDiv, Nat.reduceSub, Nat.mul_one, Nat.one_mul, Nat.div_one, Nat.le_refl, Nat.reduceLeDiff, Nat.reduceLT, Int.toNat_natCast, Int.toNat_zero, Nat.zero_le, Int.natCast_nonneg, Int.reduceLE, Int.reduceLT, Option.some.injEq, foldA, maxA, minA, Cell.int.injEq, AV.c.injEq, pre_nil, pre_cons, pre_gate, pre1_cons, pre1_gate, qstop_true, qstop_false, qstopg_false, qgate_true, qgate_false, pcont_some, pstop_true, pstop_false, pstopg_false, pgate_true, pgate_false, hpre_nil, hpre_cons, hpre_gate, hpre1_cons, hpre1_gate, hqstop_true, hqstop_false, hqstopg_false, hqgate_true, hqgate_false, hpcont_some, hpstop_true, hpstop_false, hpstopg_false, hpgate_true, hpgate_false, Int.reduceBEq, Int.reduceBNe, Int.reduceGT, Int.reduceGE, Int.reduceEq, Int.reduceNe, decide_false, nat_0, nat_1, nat_2, nat_3, nat_4, nat_8, nat_16, nat_64, nat_128, Int.reduceToNat, AOp.stops, pre1_nil, hpre1_nil, ↓want_eq, wantV_bool, wantV_undef, ↓exec_lenX, lenX_snil, lenX_slc, ↓exec_storeX, ↓exec_storeN, storeN_one, ↓exec_bsX, ↓exec_sliceX, ↓exec_copyX, ↓exec_appNil, ↓exec_carryX, Nat.sub_zero, Nat.reduceLT, rep_len, ra.len1 _ yla, rb.len1 _ ylb, d1]; with_reducible first | exact EqP.at_ | exact EqP.cont | exact EqP.hcont | exact EqP.gate | exact EqP.hgate)) | ((first | refine AW_ift ?_ ?_ | fail); focus (simp only [ev_t, put_some, put_none, List.set_cons_succ, List.set_cons_zero, List.getD_cons_succ, List.getD_cons_zero]; done)) | ((first | refine AW_iff ?_ ?_ | fail); focus (simp only [ev_t, put_some, put_none, List.set_cons_succ, List.set_cons_zero, List.getD_cons_succ, List.getD_cons_zero]; done))))
          exact ⟨rfl, rfl, stale _ _ rfl⟩
        · have d1 : decide ((i : Int) < (a.length : Int)) = false := decide_eq_false (by omega)
          by_cases h2 : i < b.length
          · have d2 : decide ((i : Int) < (b.length : Int)) = true := decide_eq_true (by omega)
            (repeat (first | with_reducible refine thenQ_n ?_ | with_reducible refine blockQ_n ?_ | with_reducible refine thenQ_e ?_ | with_reducible refine thenQ_r ?_ | with_reducible refine blockQ_r ?_ | with_reducible refine blockQ_s ?_ | with_reducible refine blockQ_o rfl ?_ | refine AW_skip ?_ | refine AW_seq ?_ | refine AW_ops ?_ | refine AW_blockS ?_ | refine AW_blockR ?_ | refine AW_blockD ?_ | refine AW_blockC ?_ | refine AO_nil ?_ | refine AW_draw ?_ | refine AW_draw3 ?_ | refine AW_blockD3 ?_ | (refine AW_drawA ?_; simp only [atBlk, List.set_cons_succ, List.set_cons_zero, List.take_succ_cons, List.take_zero, List.drop_succ_cons, List.drop_zero]) | refine AHd_nil ?_ | with_reducible refine AP_at ?_ | with_reducible refine AHP_at ?_ | ((first | with_reducible apply AO_any | with_reducible apply AHd_any | with_reducible apply AP_go | with_reducible apply AHP_go); focus (simp only [List.take_succ_cons, List.take_zero, List.drop_succ_cons, List.drop_zero, bne_self_eq_false, List.map_cons, List.map_nil, Bool.true_beq, Bool.false_beq, run_nil, run_cons, run_gate, cont_some, gate_true, gate_false, hrun_nil, hrun_cons, hrun_gate, hcont_some, hgate_true, hgate_false, put_some, put_none, ev_t, ev_k, wantedA, execA, stepA, List.set_cons_succ, List.set_cons_zero, List.getD_cons_succ, List.getD_cons_zero, List.getElem?_cons_zero, List.getElem?_cons_succ, if_true, if_false, binA, binInt, unA, eqA, Option.map, eq_self, true_or, or_true, true_and, and_true, and_self, beq_self_eq_true, Bool.not_true, Bool.not_false, reduceCtorEq, Bool.false_eq_true, ite_true, ite_false, fitsAll, CK.fits, decide_true, Bool.and_true, Bool.true_and, fillA, AV.cells, writeN, sliceCells, appendA, lenA, i64, loA, hiA, hcells_last, hown_last, List.take_zero, List.drop_zero, List.nil_append, List.cons_append, List.append_nil, List.take_nil, List.drop_nil, List.length_cons, List.length_nil, List.length_append, Nat.zero_add, Nat.add_zero, Nat.reduceAdd, Nat.reduceMul, Nat.reduceDiv, Nat.reduceSub, Nat.mul_one, Nat.one_mul, Nat.div_one, Nat.le_refl, Nat.reduceLeDiff, Nat.reduceLT, Int.toNat_natCast, Int.toNat_zero, Nat.zero_le, Int.natCast_nonneg, Int.reduceLE, Int.reduceLT, Option.some.injEq, foldA, maxA, minA, Cell.int.injEq, AV.c.injEq, pre_nil, pre_cons, pre_gate, pre1_cons, pre1_gate, qstop_true, qstop_false, qstopg_false, qgate_true, qgate_false, pcont_some, pstop_true, pstop_false, pstopg_false, pgate_true, pgate_false, hpre_nil, hpre_cons, hpre_gate, hpre1_cons, hpre1_gate, hqstop_true, hqstop_false, hqstopg_false, hqgate_true, hqgate_false, hpcont_some, hpstop_true, hpstop_false, hpstopg_false, hpgate_true, hpgate_false, Int.reduceBEq, Int.reduceBNe, Int.reduceGT, Int.reduceGE, Int.reduceEq, Int.reduceNe, decide_false, nat_0, nat_1, nat_2, nat_3, nat_4, nat_8, nat_16, nat_64, nat_128, Int.reduceToNat, AOp.stops, pre1_nil, hpre1_nil, ↓want_eq, wantV_bool, wantV_undef, ↓exec_lenX, lenX_snil, lenX_slc, ↓exec_storeX, ↓exec_storeN, storeN_one, ↓exec_bsX, ↓exec_sliceX, ↓exec_copyX, ↓exec_appNil, ↓exec_carryX, Nat.sub_zero, Nat.reduceLT, rep_len, ra.len1 _ yla, rb.len1 _ ylb, d1, d2]; with_reducible first | exact EqP.at_ | exact EqP.cont | exact EqP.hcont | exact EqP.gate | exact EqP.hgate)) | ((first | refine AW_ift ?_ ?_ | fail); focus (simp only [ev_t, put_some, put_none, List.set_cons_succ, List.set_cons_zero, List.getD_cons_succ, List.getD_cons_zero]; done)) | ((first | refine AW_iff ?_ ?_ | fail); focus (simp only [ev_t, put_some, put_none, List.set_cons_succ, List.set_cons_zero, List.getD_cons_succ, List.getD_cons_zero]; done))))
            exact ⟨rfl, rfl, stale _ _ rfl⟩
          · have d2 : decide ((i : Int) < (b.length : Int)) = false := decide_eq_false (by omega)
            have d3 : decide ((c : Int) > 0) = true := decide_eq_true (by omega)
            (repeat (first | with_reducible refine thenQ_n ?_ | with_reducible refine blockQ_n ?_ | with_reducible refine thenQ_e ?_ | with_reducible refine thenQ_r ?_ | with_reducible refine blockQ_r ?_ | with_reducible refine blockQ_s ?_ | with_reducible refine blockQ_o rfl ?_ | refine AW_skip ?_ | refine AW_seq ?_ | refine AW_ops ?_ | refine AW_blockS ?_ | refine AW_blockR ?_ | refine AW_blockD ?_ | refine AW_blockC ?_ | refine AO_nil ?_ | refine AW_draw ?_ | refine AW_draw3 ?_ | refine AW_blockD3 ?_ | (refine AW_drawA ?_; simp only [atBlk, List.set_cons_succ, List.set_cons_zero, List.take_succ_cons, List.take_zero, List.drop_succ_cons, List.drop_zero]) | refine AHd_nil ?_ | with_reducible refine AP_at ?_ | with_reducible refine AHP_at ?_ | ((first | with_reducible apply AO_any | with_reducible apply AHd_any | with_reducible apply AP_go | with_reducible apply AHP_go); focus (simp only [List.take_succ_cons, List.take_zero, List.drop_succ_cons, List.drop_zero, bne_self_eq_false, List.map_cons, List.map_nil, Bool.true_beq, Bool.false_beq, run_nil, run_cons, run_gate, cont_some, gate_true, gate_false, hrun_nil, hrun_cons, hrun_gate, hcont_some, hgate_true, hgate_false, put_some, put_none, ev_t, ev_k, wantedA, execA, stepA, List.set_cons_succ, List.set_cons_zero, List.getD_cons_succ, List.getD_cons_zero, List.getElem?_cons_zero, List.getElem?_cons_succ, if_true, if_false, binA, binInt, unA, eqA, Option.map, eq_self, true_or, or_true, true_and, and_true, and_self, beq_self_eq_true, Bool.not_true, Bool.not_false, reduceCtorEq, Bool.false_eq_true, ite_true, ite_false, fitsAll, CK.fits, decide_true, Bool.and_true, Bool.true_and, fillA, AV.cells, writeN, sliceCells, appendA, lenA, i64, loA, hiA, hcells_last, hown_last, List.take_zero, List.drop_zero, List.nil_append, List.cons_append, List.append_nil, List.take_nil, List.drop_nil, List.length_cons, List.length_nil, List.length_append, Nat.zero_add, Nat.add_zero, Nat.reduceAdd, Nat.reduceMul, Nat.reduceDiv, Nat.reduceSub, Nat.mul_one, Nat.one_mul, Nat.div_one, Nat.le_refl, Nat.reduceLeDiff, Nat.reduceLT, Int.toNat_natCast, Int.toNat_zero, Nat.zero_le, Int.natCast_nonneg, Int.reduceLE, Int.reduceLT, Option.some.injEq, foldA, maxA, minA, Cell.int.injEq, AV.c.injEq, pre_nil, pre_cons, pre_gate, pre1_cons, pre1_gate, qstop_true, qstop_false, qstopg_false, qgate_true, qgate_false, pcont_some, pstop_true, pstop_false, pstopg_false, pgate_true, pgate_false, hpre_nil, hpre_cons, hpre_gate, hpre1_cons, hpre1_gate, hqstop_true, hqstop_false, hqstopg_false, hqgate_true, hqgate_false, hpcont_some, hpstop_true, hpstop_false, hpstopg_false, hpgate_true, hpgate_false, Int.reduceBEq, Int.reduceBNe, Int.reduceGT, Int.reduceGE, Int.reduceEq, Int.reduceNe, decide_false, nat_0, nat_1, nat_2, nat_3, nat_4, nat_8, nat_16, nat_64, nat_128, Int.reduceToNat, AOp.stops, pre1_nil, hpre1_nil, ↓want_eq, wantV_bool, wantV_undef, ↓exec_lenX, lenX_snil, lenX_slc, ↓exec_storeX, ↓exec_storeN, storeN_one, ↓exec_bsX, ↓exec_sliceX, ↓exec_copyX, ↓exec_appNil, ↓exec_carryX, Nat.sub_zero, Nat.reduceLT, rep_len, ra.len1 _ yla, rb.len1 _ ylb, d1, d2, d3]; with_reducible first | exact EqP.at_ | exact EqP.cont | exact EqP.hcont | exact EqP.gate | exact EqP.hgate)) | ((first | refine AW_ift ?_ ?_ | fail); focus (simp only [ev_t, put_some, put_none, List.set_cons_succ, List.set_cons_zero, List.getD_cons_succ, List.getD_cons_zero]; done)) | ((first | refine AW_iff ?_ ?_ | fail); focus (simp only [ev_t, put_some, put_none, List.set_cons_succ, List.set_cons_zero, List.getD_cons_succ, List.getD_cons_zero]; done))))
            exact ⟨rfl, rfl, stale _ _ rfl⟩
      rintro e fr H' ⟨rfl, rfl, st, rfl⟩
      have ga := da.get i
      have gb := db.get i
      have va := val_drop a i
      have vb := val_drop b i
      have la1 : a.length ≤ i → a.getD i 0 = 0 := fun h => by rw [List.getD_eq_getElem?_getD, List.getElem?_eq_none h]; rfl
      have lb1 : b.length ≤ i → b.getD i 0 = 0 := fun h => by rw [List.getD_eq_getElem?_getD, List.getElem?_eq_none h]; rfl
      (repeat (first | with_reducible refine thenQ_n ?_ | with_reducible refine blockQ_n ?_ | with_reducible refine thenQ_e ?_ | with_reducible refine thenQ_r ?_ | with_reducible refine blockQ_r ?_ | with_reducible refine blockQ_s ?_ | with_reducible refine blockQ_o rfl ?_ | refine AW_skip ?_ | refine AW_seq ?_ | refine AW_ops ?_ | refine AW_blockS ?_ | refine AW_blockR ?_ | refine AW_blockD ?_ | refine AW_blockC ?_ | refine AO_nil ?_ | refine AW_draw ?_ | refine AW_draw3 ?_ | refine AW_blockD3 ?_ | (refine AW_drawA ?_; simp only [atBlk, List.set_cons_succ, List.set_cons_zero, List.take_succ_cons, List.take_zero, List.drop_succ_cons, List.drop_zero]) | refine AHd_nil ?_ | with_reducible refine AP_at ?_ | with_reducible refine AHP_at ?_ | ((first | with_reducible apply AO_any | with_reducible apply AHd_any | with_reducible apply AP_go | with_reducible apply AHP_go); focus (simp only [List.take_succ_cons, List.take_zero, List.drop_succ_cons, List.drop_zero, bne_self_eq_false, List.map_cons, List.map_nil, Bool.true_beq, Bool.false_beq, run_nil, run_cons, run_gate, cont_some, gate_true, gate_false, hrun_nil, hrun_cons, hrun_gate, hcont_some, hgate_true, hgate_false, put_some, put_none, ev_t, ev_k, wantedA, execA, stepA, List.set_cons_succ, List.set_cons_zero, List.getD_cons_succ, List.getD_cons_zero, List.getElem?_cons_zero, List.getElem?_cons_succ, if_true, if_false, binA, binInt, unA, eqA, Option.map, eq_self, true_or, or_true, true_and, and_true, and_self, beq_self_eq_true, Bool.not_true, Bool.not_false, reduceCtorEq, Bool.false_eq_true, ite_true, ite_false, fitsAll, CK.fits, decide_true, Bool.and_true, Bool.true_and, fillA, AV.cells, writeN, sliceCells, appendA, lenA, i64, loA, hiA, hcells_last, hown_last, List.take_zero, List.drop_zero, List.nil_append, List.cons_append, List.append_nil, List.take_nil, List.drop_nil, List.length_cons, List.length_nil, List.length_append, Nat.zero_add, Nat.add_zero, Nat.reduceAdd, Nat.reduceMul, Nat.reduceDiv, Nat.reduceSub, Nat.mul_one, Nat.one_mul, Nat.div_one, Nat.le_refl, Nat.reduceLeDiff, Nat.reduceLT, Int.toNat_natCast, Int.toNat_zero, Nat.zero_le, Int.natCast_nonneg, Int.reduceLE, Int.reduceLT, Option.some.injEq, foldA, maxA, minA, Cell.int.injEq, AV.c.injEq, pre_nil, pre_cons, pre_gate, pre1_cons, pre1_gate, qstop_true, qstop_false, qstopg_false, qgate_true, qgate_false, pcont_some, pstop_true, pstop_false, pstopg_false, pgate_true, pgate_false, hpre_nil, hpre_cons, hpre_gate, hpre1_cons, hpre1_gate, hqstop_true, hqstop_false, hqstopg_false, hqgate_true, hqgate_false, hpcont_some, hpstop_true, hpstop_false, hpstopg_false, hpgate_true, hpgate_false, Int.reduceBEq, Int.reduceBNe, Int.reduceGT, Int.reduceGE, Int.reduceEq, Int.reduceNe, decide_false, nat_0, nat_1, nat_2, nat_3, nat_4, nat_8, nat_16, nat_64, nat_128, Int.reduceToNat, AOp.stops, pre1_nil, hpre1_nil, ↓want_eq, wantV_bool, wantV_undef, ↓exec_lenX, lenX_snil, lenX_slc, ↓exec_storeX, ↓exec_storeN, storeN_one, ↓exec_bsX, ↓exec_sliceX, ↓exec_copyX, ↓exec_appNil, ↓exec_carryX, Nat.sub_zero, Nat.reduceLT, rep_len]; with_reducible first | exact EqP.at_ | exact EqP.cont | exact EqP.hcont | exact EqP.gate | exact EqP.hgate)) | ((first | refine AW_ift ?_ ?_ | fail); focus (simp only [ev_t, put_some, put_none, List.set_cons_succ, List.set_cons_zero, List.getD_cons_succ, List.getD_cons_zero]; done)) | ((first | refine AW_iff ?_ ?_ | fail); focus (simp only [ev_t, put_some, put_none, List.set_cons_succ, List.set_cons_zero, List.getD_cons_succ, List.getD_cons_zero]; done))))
      refine AO_call rfl ((AC_digit H1 ya a i ra).floor k1.1) ?_
      rintro _ _ ⟨rfl, rfl⟩
      have e1 : IntKind.i64.wrap ((c : Int) + ((a.getD i 0 : Nat) : Int)) = ((c + a.getD i 0 : Nat) : Int) := i64_add (by omega)
      (repeat (first | with_reducible refine thenQ_n ?_ | with_reducible refine blockQ_n ?_ | with_reducible refine thenQ_e ?_ | with_reducible refine thenQ_r ?_ | with_reducible refine blockQ_r ?_ | with_reducible refine blockQ_s ?_ | with_reducible refine blockQ_o rfl ?_ | refine AW_skip ?_ | refine AW_seq ?_ | refine AW_ops ?_ | refine AW_blockS ?_ | refine AW_blockR ?_ | refine AW_blockD ?_ | refine AW_blockC ?_ | refine AO_nil ?_ | refine AW_draw ?_ | refine AW_draw3 ?_ | refine AW_blockD3 ?_ | (refine AW_drawA ?_; simp only [atBlk, List.set_cons_succ, List.set_cons_zero, List.take_succ_cons, List.take_zero, List.drop_succ_cons, List.drop_zero]) | refine AHd_nil ?_ | with_reducible refine AP_at ?_ | with_reducible refine AHP_at ?_ | ((first | with_reducible apply AO_any | with_reducible apply AHd_any | with_reducible apply AP_go | with_reducible apply AHP_go); focus (simp only [List.take_succ_cons, List.take_zero, List.drop_succ_cons, List.drop_zero, bne_self_eq_false, List.map_cons, List.map_nil, Bool.true_beq, Bool.false_beq, run_nil, run_cons, run_gate, cont_some, gate_true, gate_false, hrun_nil, hrun_cons, hrun_gate, hcont_some, hgate_true, hgate_false, put_some, put_none, ev_t, ev_k, wantedA, execA, stepA, List.set_cons_succ, List.set_cons_zero, List.getD_cons_succ, List.getD_cons_zero, List.getElem?_cons_zero, List.getElem?_cons_succ, if_true, if_false, binA, binInt, unA, eqA, Option.map, eq_self, true_or, or_true, true_and, and_true, and_self, beq_self_eq_true, Bool.not_true, Bool.not_false, reduceCtorEq, Bool.false_eq_true, ite_true, ite_false, fitsAll, CK.fits, decide_true, Bool.and_true, Bool.true_and, fillA, AV.cells, writeN, sliceCells, appendA, lenA, i64, loA, hiA, hcells_last, hown_last, List.take_zero, List.drop_zero, List.nil_append, List.cons_append, List.append_nil, List.take_nil, List.drop_nil, List.length_cons, List.length_nil, List.length_append, Nat.zero_add, Nat.add_zero, Nat.reduceAdd, Nat.reduceMul, Nat.reduceDiv, Nat.reduceSub, Nat.mul_one, Nat.one_mul, Nat.div_one, Nat.le_refl, Nat.reduceLeDiff, Nat.reduceLT, Int.toNat_natCast, Int.toNat_zero, Nat.zero_le, Int.natCast_nonneg, Int.reduceLE, Int.reduceLT, Option.some.injEq, foldA, maxA, minA, Cell.int.injEq, AV.c.injEq, pre_nil, pre_cons, pre_gate, pre1_cons, pre1_gate, qstop_true, qstop_false, qstopg_false, qgate_true, qgate_false, pcont_some, pstop_true, pstop_false, pstopg_false, pgate_true, pgate_false, hpre_nil, hpre_cons, hpre_gate, hpre1_cons, hpre1_gate, hqstop_true, hqstop_false, hqstopg_false, hqgate_true, hqgate_false, hpcont_some, hpstop_true, hpstop_false, hpstopg_false, hpgate_true, hpgate_false, Int.reduceBEq, Int.reduceBNe, Int.reduceGT, Int.reduceGE, Int.reduceEq, Int.reduceNe, decide_false, nat_0, nat_1, nat_2, nat_3, nat_4, nat_8, nat_16, nat_64, nat_128, Int.reduceToNat, AOp.stops, pre1_nil, hpre1_nil, ↓want_eq, wantV_bool, wantV_undef, ↓exec_lenX, lenX_snil, lenX_slc, ↓exec_storeX, ↓exec_storeN, storeN_one, ↓exec_bsX, ↓exec_sliceX, ↓exec_copyX, ↓exec_appNil, ↓exec_carryX, Nat.sub_zero, Nat.reduceLT, rep_len, e1]; with_reducible first | exact EqP.at_ | exact EqP.cont | exact EqP.hcont | exact EqP.gate | exact EqP.hgate)) | ((first | refine AW_ift ?_ ?_ | fail); focus (simp only [ev_t, put_some, put_none, List.set_cons_succ, List.set_cons_zero, List.getD_cons_succ, List.getD_cons_zero]; done)) | ((first | refine AW_iff ?_ ?_ | fail); focus (simp only [ev_t, put_some, put_none, List.set_cons_succ, List.set_cons_zero, List.getD_cons_succ, List.getD_cons_zero]; done))))
      refine AO_call rfl ((AC_digit H1 yb b i rb).floor k1.1) ?_
      rintro _ _ ⟨rfl, rfl⟩
      have e2 : IntKind.i64.wrap (((c + a.getD i 0 : Nat) : Int) + ((b.getD i 0 : Nat) : Int)) = ((c + a.getD i 0 + b.getD i 0 : Nat) : Int) := i64_add (by omega)
      generalize a.getD i 0 = p at *
      generalize b.getD i 0 = q at *
      have e3 : Int.tmod ((c + p + q : Nat) : Int) 65536 = (((c + p + q) % 65536 : Nat) : Int) := tmod_nat
      have e4 : Int.tdiv ((c + p + q : Nat) : Int) 65536 = (((c + p + q) / 65536 : Nat) : Int) := tdiv_nat
      have e5 : IntKind.i64.wrap (((c + p + q) / 65536 : Nat) : Int) = (((c + p + q) / 65536 : Nat) : Int) := i64_of (by omega) (by omega)
      have n1 : ¬ ((65536 : Int) = 0) := by omega
      (repeat (first | with_reducible refine thenQ_n ?_ | with_reducible refine blockQ_n ?_ | with_reducible refine thenQ_e ?_ | with_reducible refine thenQ_r ?_ | with_reducible refine blockQ_r ?_ | with_reducible refine blockQ_s ?_ | with_reducible refine blockQ_o rfl ?_ | refine AW_skip ?_ | refine AW_seq ?_ | refine AW_ops ?_ | refine AW_blockS ?_ | refine AW_blockR ?_ | refine AW_blockD ?_ | refine AW_blockC ?_ | refine AO_nil ?_ | refine AW_draw ?_ | refine AW_draw3 ?_ | refine AW_blockD3 ?_ | (refine AW_drawA ?_; simp only [atBlk, List.set_cons_succ, List.set_cons_zero, List.take_succ_cons, List.take_zero, List.drop_succ_cons, List.drop_zero]) | refine AHd_nil ?_ | with_reducible refine AP_at ?_ | with_reducible refine AHP_at ?_ | ((first | with_reducible apply AO_any | with_reducible apply AHd_any | with_reducible apply AP_go | with_reducible apply AHP_go); focus (simp only [List.take_succ_cons, List.take_zero, List.drop_succ_cons, List.drop_zero, bne_self_eq_false, List.map_cons, List.map_nil, Bool.true_beq, Bool.false_beq, run_nil, run_cons, run_gate, cont_some, gate_true, gate_false, hrun_nil, hrun_cons, hrun_gate, hcont_some, hgate_true, hgate_false, put_some, put_none, ev_t, ev_k, wantedA, execA, stepA, List.set_cons_succ, List.set_cons_zero, List.getD_cons_succ, List.getD_cons_zero, List.getElem?_cons_zero, List.getElem?_cons_succ, if_true, if_false, binA, binInt, unA, eqA, Option.map, eq_self, true_or, or_true, true_and, and_true, and_self, beq_self_eq_true, Bool.not_true, Bool.not_false, reduceCtorEq, Bool.false_eq_true, ite_true, ite_false, fitsAll, CK.fits, decide_true, Bool.and_true, Bool.true_and, fillA, AV.cells, writeN, sliceCells, appendA, lenA, i64, loA, hiA, hcells_last, hown_last, List.take_zero, List.drop_zero, List.nil_append, List.cons_append, List.append_nil, List.take_nil, List.drop_nil, List.length_cons, List.length_nil, List.length_append, Nat.zero_add, Nat.add_zero, Nat.reduceAdd, Nat.reduceMul, Nat.reduceDiv, Nat.reduceSub, Nat.mul_one, Nat.one_mul, Nat.div_one, Nat.le_refl, Nat.reduceLeDiff, Nat.reduceLT, Int.toNat_natCast, Int.toNat_zero, Nat.zero_le, Int.natCast_nonneg, Int.reduceLE, Int.reduceLT, Option.some.injEq, foldA, maxA, minA, Cell.int.injEq, AV.c.injEq, pre_nil, pre_cons, pre_gate, pre1_cons, pre1_gate, qstop_true, qstop_false, qstopg_false, qgate_true, qgate_false, pcont_some, pstop_true, pstop_false, pstopg_false, pgate_true, pgate_false, hpre_nil, hpre_cons, hpre_gate, hpre1_cons, hpre1_gate, hqstop_true, hqstop_false, hqstopg_false, hqgate_true, hqgate_false, hpcont_some, hpstop_true, hpstop_false, hpstopg_false, hpgate_true, hpgate_false, Int.reduceBEq, Int.reduceBNe, Int.reduceGT, Int.reduceGE, Int.reduceEq, Int.reduceNe, decide_false, nat_0, nat_1, nat_2, nat_3, nat_4, nat_8, nat_16, nat_64, nat_128, Int.reduceToNat, AOp.stops, pre1_nil, hpre1_nil, ↓want_eq, wantV_bool, wantV_undef, ↓exec_lenX, lenX_snil, lenX_slc, ↓exec_storeX, ↓exec_storeN, storeN_one, ↓exec_bsX, ↓exec_sliceX, ↓exec_copyX, ↓exec_appNil, ↓exec_carryX, Nat.sub_zero, Nat.reduceLT, rep_len, e2, e3, n1]; with_reducible first | exact EqP.at_ | exact EqP.cont | exact EqP.hcont | exact EqP.gate | exact EqP.hgate)) | ((first | refine AW_ift ?_ ?_ | fail); focus (simp only [ev_t, put_some, put_none, List.set_cons_succ, List.set_cons_zero, List.getD_cons_succ, List.getD_cons_zero]; done)) | ((first | refine AW_iff ?_ ?_ | fail); focus (simp only [ev_t, put_some, put_none, List.set_cons_succ, List.set_cons_zero, List.getD_cons_succ, List.getD_cons_zero]; done))))
      refine AO_appendT (bytes := 8) (f := H.length) hx.app.t (cells_last rfl) rfl (by omega) (Nat.mod_one _) (Nat.le_refl _) (by have := k1.1; simp; omega) (by rw [N64_length, hl]; simp only [List.length_cons, List.length_nil]; omega) rfl rfl ?_
      intro r n' H2 hq h2 c2
      have k2 : Kept H.length H H2 := kept_app (k1.trans (Kept.push _ _ _)) hx.app c2
      rw [N64_one, ← N64_append] at h2
      (repeat (first | with_reducible refine thenQ_n ?_ | with_reducible refine blockQ_n ?_ | with_reducible refine thenQ_e ?_ | with_reducible refine thenQ_r ?_ | with_reducible refine blockQ_r ?_ | with_reducible refine blockQ_s ?_ | with_reducible refine blockQ_o rfl ?_ | refine AW_skip ?_ | refine AW_seq ?_ | refine AW_ops ?_ | refine AW_blockS ?_ | refine AW_blockR ?_ | refine AW_blockD ?_ | refine AW_blockC ?_ | refine AO_nil ?_ | refine AW_draw ?_ | refine AW_draw3 ?_ | refine AW_blockD3 ?_ | (refine AW_drawA ?_; simp only [atBlk, List.set_cons_succ, List.set_cons_zero, List.take_succ_cons, List.take_zero, List.drop_succ_cons, List.drop_zero]) | refine AHd_nil ?_ | with_reducible refine AP_at ?_ | with_reducible refine AHP_at ?_ | ((first | with_reducible apply AO_any | with_reducible apply AHd_any | with_reducible apply AP_go | with_reducible apply AHP_go); focus (simp only [List.take_succ_cons, List.take_zero, List.drop_succ_cons, List.drop_zero, bne_self_eq_false, List.map_cons, List.map_nil, Bool.true_beq, Bool.false_beq, run_nil, run_cons, run_gate, cont_some, gate_true, gate_false, hrun_nil, hrun_cons, hrun_gate, hcont_some, hgate_true, hgate_false, put_some, put_none, ev_t, ev_k, wantedA, execA, stepA, List.set_cons_succ, List.set_cons_zero, List.getD_cons_succ, List.getD_cons_zero, List.getElem?_cons_zero, List.getElem?_cons_succ, if_true, if_false, binA, binInt, unA, eqA, Option.map, eq_self, true_or, or_true, true_and, and_true, and_self, beq_self_eq_true, Bool.not_true, Bool.not_false, reduceCtorEq, Bool.false_eq_true, ite_true, ite_false, fitsAll, CK.fits, decide_true, Bool.and_true, Bool.true_and, fillA, AV.cells, writeN, sliceCells, appendA, lenA, i64, loA, hiA, hcells_last, hown_last, List.take_zero, List.drop_zero, List.nil_append, List.cons_append, List.append_nil, List.take_nil, List.drop_nil, List.length_cons, List.length_nil, List.length_append, Nat.zero_add, Nat.add_zero, Nat.reduceAdd, Nat.reduceMul, Nat.reduceDiv, Nat.reduceSub, Nat.mul_one, Nat.one_mul, Nat.div_one, Nat.le_refl, Nat.reduceLeDiff, Nat.reduceLT, Int.toNat_natCast, Int.toNat_zero, Nat.zero_le, Int.natCast_nonneg, Int.reduceLE, Int.reduceLT, Option.some.injEq, foldA, maxA, minA, Cell.int.injEq, AV.c.injEq, pre_nil, pre_cons, pre_gate, pre1_cons, pre1_gate, qstop_true, qstop_false, qstopg_false, qgate_true, qgate_false, pcont_some, pstop_true, pstop_false, pstopg_false, pgate_true, pgate_false, hpre_nil, hpre_cons, hpre_gate, hpre1_cons, hpre1_gate, hqstop_true, hqstop_false, hqstopg_false, hqgate_true, hqgate_false, hpcont_some, hpstop_true, hpstop_false, hpstopg_false, hpgate_true, hpgate_false, Int.reduceBEq, Int.reduceBNe, Int.reduceGT, Int.reduceGE, Int.reduceEq, Int.reduceNe, decide_false, nat_0, nat_1, nat_2, nat_3, nat_4, nat_8, nat_16, nat_64, nat_128, Int.reduceToNat, AOp.stops, pre1_nil, hpre1_nil, ↓want_eq, wantV_bool, wantV_undef, ↓exec_lenX, lenX_snil, lenX_slc, ↓exec_storeX, ↓exec_storeN, storeN_one, ↓exec_bsX, ↓exec_sliceX, ↓exec_copyX, ↓exec_appNil, ↓exec_carryX, Nat.sub_zero, Nat.reduceLT, rep_len, e4, e5, n1, i64_succ (show i < 9223372036854775807 by omega)]; with_reducible first | exact EqP.at_ | exact EqP.cont | exact EqP.hcont | exact EqP.gate | exact EqP.hgate)) | ((first | refine AW_ift ?_ ?_ | fail); focus (simp only [ev_t, put_some, put_none, List.set_cons_succ, List.set_cons_zero, List.getD_cons_succ, List.getD_cons_zero]; done)) | ((first | refine AW_iff ?_ ?_ | fail); focus (simp only [ev_t, put_some, put_none, List.set_cons_succ, List.set_cons_zero, List.getD_cons_succ, List.getD_cons_zero]; done))))
      refine ⟨hiM, k2, _, l ++ [(c + p + q) % 65536], (c + p + q) / 65536, h2, hd.append (Dig.one (Nat.mod_lt _ (by omega))), by simp [hl], ?_, by omega, fun h => ?_, stale _ _ rfl⟩
      · rw [val_append, hl, ← hv, va, vb]
        simp only [val, Nat.mul_zero, Nat.add_zero, Nat.pow_succ]
        have := Nat.div_add_mod (c + p + q) 65536
        generalize (c + p + q) / 65536 = d at *
        generalize (c + p + q) % 65536 = m at *
        generalize 65536 ^ i = P at *
        grind
      · have := la1 (by omega); have := lb1 (by omega)
        omega
    · have d1 : decide ((i : Int) < (a.length : Int)) = false := decide_eq_false (by omega)
      have d2 : decide ((i : Int) < (b.length : Int)) = false := decide_eq_false (by omega)
      have d3 : decide ((c : Int) > 0) = false := decide_eq_false (by omega)
      (repeat (first | with_reducible refine thenQ_n ?_ | with_reducible refine blockQ_n ?_ | with_reducible refine thenQ_e ?_ | with_reducible refine thenQ_r ?_ | with_reducible refine blockQ_r ?_ | with_reducible refine blockQ_s ?_ | with_reducible refine blockQ_o rfl ?_ | refine AW_skip ?_ | refine AW_seq ?_ | refine AW_ops ?_ | refine AW_blockS ?_ | refine AW_blockR ?_ | refine AW_blockD ?_ | refine AW_blockC ?_ | refine AO_nil ?_ | refine AW_draw ?_ | refine AW_draw3 ?_ | refine AW_blockD3 ?_ | (refine AW_drawA ?_; simp only [atBlk, List.set_cons_succ, List.set_cons_zero, List.take_succ_cons, List.take_zero, List.drop_succ_cons, List.drop_zero]) | refine AHd_nil ?_ | with_reducible refine AP_at ?_ | with_reducible refine AHP_at ?_ | ((first | with_reducible apply AO_any | with_reducible apply AHd_any | with_reducible apply AP_go | with_reducible apply AHP_go); focus (simp only [List.take_succ_cons, List.take_zero, List.drop_succ_cons, List.drop_zero, bne_self_eq_false, List.map_cons, List.map_nil, Bool.true_beq, Bool.false_beq, run_nil, run_cons, run_gate, cont_some, gate_true, gate_false, hrun_nil, hrun_cons, hrun_gate, hcont_some, hgate_true, hgate_false, put_some, put_none, ev_t, ev_k, wantedA, execA, stepA, List.set_cons_succ, List.set_cons_zero, List.getD_cons_succ, List.getD_cons_zero, List.getElem?_cons_zero, List.getElem?_cons_succ, if_true, if_false, binA, binInt, unA, eqA, Option.map, eq_self, true_or, or_true, true_and, and_true, and_self, beq_self_eq_true, Bool.not_true, Bool.not_false, reduceCtorEq, Bool.false_eq_true, ite_true, ite_false, fitsAll, CK.fits, decide_true, Bool.and_true, Bool.true_and, fillA, AV.cells, writeN, sliceCells, appendA, lenA, i64, loA, hiA, hcells_last, hown_last, List.take_zero, List.drop_zero, List.nil_append, List.cons_append, List.append_nil, List.take_nil, List.drop_nil, List.length_cons, List.length_nil, List.length_append, Nat.zero_add, Nat.add_zero, Nat.reduceAdd, Nat.reduceMul, Nat.reduceDiv, Nat.reduceSub, Nat.mul_one, Nat.one_mul, Nat.div_one, Nat.le_refl, Nat.reduceLeDiff, Nat.reduceLT, Int.toNat_natCast, Int.toNat_zero, Nat.zero_le, Int.natCast_nonneg, Int.reduceLE, Int.reduceLT, Option.some.injEq, foldA, maxA, minA, Cell.int.injEq, AV.c.injEq, pre_nil, pre_cons, pre_gate, pre1_cons, pre1_gate, qstop_true, qstop_false, qstopg_false, qgate_true, qgate_false, pcont_some, pstop_true, pstop_false, pstopg_false, pgate_true, pgate_false, hpre_nil, hpre_cons, hpre_gate, hpre1_cons, hpre1_gate, hqstop_true, hqstop_false, hqstopg_false, hqgate_true, hqgate_false, hpcont_some, hpstop_true, hpstop_false, hpstopg_false, hpgate_true, hpgate_false, Int.reduceBEq, Int.reduceBNe, Int.reduceGT, Int.reduceGE, Int.reduceEq, Int.reduceNe, decide_false, nat_0, nat_1, nat_2, nat_3, nat_4, nat_8, nat_16, nat_64, nat_128, Int.reduceToNat, AOp.stops, pre1_nil, hpre1_nil, ↓want_eq, wantV_bool, wantV_undef, ↓exec_lenX, lenX_snil, lenX_slc, ↓exec_storeX, ↓exec_storeN, storeN_one, ↓exec_bsX, ↓exec_sliceX, ↓exec_copyX, ↓exec_appNil, ↓exec_carryX, Nat.sub_zero, Nat.reduceLT, rep_len, ra.len1 _ yla, rb.len1 _ ylb, d1, d2, d3]; with_reducible first | exact EqP.at_ | exact EqP.cont | exact EqP.hcont | exact EqP.gate | exact EqP.hgate)) | ((first | refine AW_ift ?_ ?_ | fail); focus (simp only [ev_t, put_some, put_none, List.set_cons_succ, List.set_cons_zero, List.getD_cons_succ, List.getD_cons_zero]; done)) | ((first | refine AW_iff ?_ ?_ | fail); focus (simp only [ev_t, put_some, put_none, List.set_cons_succ, List.set_cons_zero, List.getD_cons_succ, List.getD_cons_zero]; done))))
      refine AW_exit ⟨rfl, x, ⟨l, hx, hd, ?_, by omega⟩, stale _ _ rfl⟩
      rw [List.drop_eq_nil_of_le (by omega), List.drop_eq_nil_of_le (by omega)] at hv
      simp only [val, Nat.add_zero] at hv
      rw [← hv, show c = 0 by omega]; simp
  rintro e fr H1 ⟨rfl, x, hx, st, rfl⟩
  (repeat (first | with_reducible refine thenQ_n ?_ | with_reducible refine blockQ_n ?_ | with_reducible refine thenQ_e ?_ | with_reducible refine thenQ_r ?_ | with_reducible refine blockQ_r ?_ | with_reducible refine blockQ_s ?_ | with_reducible refine blockQ_o rfl ?_ | refine AW_skip ?_ | refine AW_seq ?_ | refine AW_ops ?_ | refine AW_blockS ?_ | refine AW_blockR ?_ | refine AW_blockD ?_ | refine AW_blockC ?_ | refine AO_nil ?_ | refine AW_draw ?_ | refine AW_draw3 ?_ | refine AW_blockD3 ?_ | (refine AW_drawA ?_; simp only [atBlk, List.set_cons_succ, List.set_cons_zero, List.take_succ_cons, List.take_zero, List.drop_succ_cons, List.drop_zero]) | refine AHd_nil ?_ | with_reducible refine AP_at ?_ | with_reducible refine AHP_at ?_ | ((first | with_reducible apply AO_any | with_reducible apply AHd_any | with_reducible apply AP_go | with_reducible apply AHP_go); focus (simp only [List.take_succ_cons, List.take_zero, List.drop_succ_cons, List.drop_zero, bne_self_eq_false, List.map_cons, List.map_nil, Bool.true_beq, Bool.false_beq, run_nil, run_cons, run_gate, cont_some, gate_true, gate_false, hrun_nil, hrun_cons, hrun_gate, hcont_some, hgate_true, hgate_false, put_some, put_none, ev_t, ev_k, wantedA, execA, stepA, List.set_cons_succ, List.set_cons_zero, List.getD_cons_succ, List.getD_cons_zero, List.getElem?_cons_zero, List.getElem?_cons_succ, if_true, if_false, binA, binInt, unA, eqA, Option.map, eq_self, true_or, or_true, true_and, and_true, and_self, beq_self_eq_true, Bool.not_true, Bool.not_false, reduceCtorEq, Bool.false_eq_true, ite_true, ite_false, fitsAll, CK.fits, decide_true, Bool.and_true, Bool.true_and, fillA, AV.cells, writeN, sliceCells, appendA, lenA, i64, loA, hiA, hcells_last, hown_last, List.take_zero, List.drop_zero, List.nil_append, List.cons_append, List.append_nil, List.take_nil, List.drop_nil, List.length_cons, List.length_nil, List.length_append, Nat.zero_add, Nat.add_zero, Nat.reduceAdd, Nat.reduceMul, Nat.reduceDiv, Nat.reduceSub, Nat.mul_one, Nat.one_mul, Nat.div_one, Nat.le_refl, Nat.reduceLeDiff, Nat.reduceLT, Int.toNat_natCast, Int.toNat_zero, Nat.zero_le, Int.natCast_nonneg, Int.reduceLE, Int.reduceLT, Option.some.injEq, foldA, maxA, minA, Cell.int.injEq, AV.c.injEq, pre_nil, pre_cons, pre_gate, pre1_cons, pre1_gate, qstop_true, qstop_false, qstopg_false, qgate_true, qgate_false, pcont_some, pstop_true, pstop_false, pstopg_false, pgate_true, pgate_false, hpre_nil, hpre_cons, hpre_gate, hpre1_cons, hpre1_gate, hqstop_true, hqstop_false, hqstopg_false, hqgate_true, hqgate_false, hpcont_some, hpstop_true, hpstop_false, hpstopg_false, hpgate_true, hpgate_false, Int.reduceBEq, Int.reduceBNe, Int.reduceGT, Int.reduceGE, Int.reduceEq, Int.reduceNe, decide_false, nat_0, nat_1, nat_2, nat_3, nat_4, nat_8, nat_16, nat_64, nat_128, Int.reduceToNat, AOp.stops, pre1_nil, hpre1_nil, ↓want_eq, wantV_bool, wantV_undef, ↓exec_lenX, lenX_snil, lenX_slc, ↓exec_storeX, ↓exec_storeN, storeN_one, ↓exec_bsX, ↓exec_sliceX, ↓exec_copyX, ↓exec_appNil, ↓exec_carryX, Nat.sub_zero, Nat.reduceLT, rep_len]; with_reducible first | exact EqP.at_ | exact EqP.cont | exact EqP.hcont | exact EqP.gate | exact EqP.hgate)) | ((first | refine AW_ift ?_ ?_ | fail); focus (simp only [ev_t, put_some, put_none, List.set_cons_succ, List.set_cons_zero, List.getD_cons_succ, List.getD_cons_zero]; done)) | ((first | refine AW_iff ?_ ?_ | fail); focus (simp only [ev_t, put_some, put_none, List.set_cons_succ, List.set_cons_zero, List.getD_cons_succ, List.getD_cons_zero]; done))))
  exact AW_ret ⟨_, rfl, x, rfl, hx⟩
end
end PK
