/- Texts of this claim, put together: L04b L05d L05e L04c L05f L05g L05h L05i L05j L05k L01r KMac L06a L06b KPbkdf L22a. -/
import Derived.Test.YtkmclhpnakphfaaG8
import Derived.Test.YtkmclhpnakphfaaG11
import Derived.Test.YtkmclhpnakphfaaG10
import Derived.Test.YtkmclhpnakphfaaG9
/- Package feed: Put and Copy. -/
namespace PK
open Go PAbs
set_option linter.unusedSimpArgs false
set_option linter.unusedVariables false
set_option maxRecDepth 100000
set_option maxHeartbeats 4000000

theorem flat_take {ss : List (List UInt8)} {i : Nat} {x : List UInt8} (h : ss[i]? = some x) : (ss.take (i + 1)).flatten = (ss.take i).flatten ++ x := by
  rw [List.take_add_one, h]; simp

structure Fed (H0 H : AHeap) (p : Nat) (x0 x5 xh : Cell) (zs : List Cell) (size : Nat) (lazy : Bool) (all : List UInt8) (total k : Nat) : Prop where
  feed : FeedAt H p xh size lazy (all.drop (k * size)) total
  chg : Chg (fun b => b = p ∨ inX x0 b) H0 H
  hh : ∀ b, inX xh b → inX x0 b ∨ H0.length ≤ b
  out : BB H0.length H x5 zs (blks size all k)
  apart : ∀ b, inB x5 zs b → ¬ inX xh b
  le : k * size ≤ all.length
  self : ∀ z ∈ zs, ∀ b, inX z b → ¬ inX x5 b

theorem FeedAt.put {H : AHeap} {p : Nat} {x x' : Cell} {size : Nat} {lazy : Bool} {held held' : List UInt8} {total total' : Nat} (h : FeedAt H p x size lazy held total) (hx : OwnT 0 H x' 1 (B8 held')) (hn : ¬ inX x' p) :
    FeedAt (H.set p (.own [.int .i64 (size : Int), .bool lazy, x', .int .i64 (total' : Int)])) p x' size lazy held' total' :=
  ⟨hown_set (hown_lt h.1), hx.chg (Chg.set (S := (· = p)) rfl) (fun b hb e => hn (by rw [← e]; exact hb)), hn⟩
theorem drop_part {size : Nat} {all : List UInt8} {k : Nat} (h : (k + 1) * size ≤ all.length) : (all.drop (k * size)).take size = blk size all k ∧ (all.drop (k * size)).drop size = all.drop ((k + 1) * size) := by
  refine ⟨rfl, ?_⟩
  rw [List.drop_drop, Nat.add_mul, Nat.one_mul]


def putI (fl p : Nat) (x0 y : Cell) (size : Nat) (lazy : Bool) (held : List UInt8) (total : Nat) (ss : List (List UInt8)) (H0 : AHeap) (i : Nat) (fr : AFrame) (H : AHeap) : Prop :=
  ∃ x5 xh zs, Fed H0 H p x0 x5 xh zs size lazy (held ++ (ss.take i).flatten) (total + (ss.take i).flatten.length) (nb size lazy (held ++ (ss.take i).flatten).length) ∧ (∃ s : Nat → AV, fr = [.c (.ptr p 0), s 1, s 2, s 3, s 4, .c x5, s 6, s 7, s 8, s 9, s 10, s 11, s 12, s 13, s 14, s 15, s 16, .c y, .c (.int .i64 (ss.length : Int)), .c (.int .i64 (i : Int)), s 20, s 21, s 22, s 23, s 24, s 25, s 26, s 27, s 28, s 29, s 30, s 31, s 32, s 33, s 34, s 35, s 36, s 37, s 38, s 39, s 40, s 41, s 42, s 43, s 44, s 45, s 46, s 47, s 48, s 49, s 50, s 51, s 52, s 53, s 54, s 55, s 56, s 57, s 58, s 59, s 60, s 61, s 62, s 63, s 64, s 65, s 66, s 67, s 68, s 69, s 70, s 71, s 72, s 73, s 74, s 75, s 76, s 77])
def putJ (fl p : Nat) (x0 y : Cell) (size : Nat) (lazy : Bool) (all : List UInt8) (total : Nat) (ss : List (List UInt8)) (i : Nat) (H0 : AHeap) (m : Nat) (fr : AFrame) (H : AHeap) : Prop :=
  ∃ x5 xh zs k, k + m = nb size lazy all.length ∧ Fed H0 H p x0 x5 xh zs size lazy all total k ∧ (∃ s : Nat → AV, fr = [.c (.ptr p 0), s 1, s 2, s 3, s 4, .c x5, s 6, s 7, s 8, s 9, s 10, s 11, s 12, s 13, s 14, s 15, s 16, .c y, .c (.int .i64 (ss.length : Int)), .c (.int .i64 (i : Int)), s 20, s 21, s 22, s 23, s 24, s 25, s 26, s 27, s 28, s 29, s 30, s 31, s 32, s 33, s 34, s 35, s 36, s 37, s 38, s 39, s 40, s 41, s 42, s 43, s 44, s 45, s 46, s 47, s 48, s 49, s 50, s 51, s 52, s 53, s 54, s 55, s 56, s 57, s 58, s 59, s 60, s 61, s 62, s 63, s 64, s 65, s 66, s 67, s 68, s 69, s 70, s 71, s 72, s 73, s 74, s 75, s 76, s 77])

section
variable (fl : Nat) (H : AHeap) (p : Nat) (x y : Cell) (size : Nat) (lazy : Bool) (held : List UInt8) (total : Nat) (ss : List (List UInt8))

theorem AC_feed_Put (hF : FeedAt H p x size lazy held total) (hfl : fl ≤ p) (hfx : ∀ b, inX x b → fl ≤ b) (hy : Rd H y 1 (ss.map Cell.str)) (hyp : ¬ inX y p) (hyx : ∀ b, inX y b → ¬ inX x b)
    (h0 : 0 < size) (hs : size ≤ 65536) (hl : ss.length ≤ 1000000) (hb : held.length + ss.flatten.length ≤ 1000000000) (ht : total ≤ 1000000000) (hn : nb size lazy held.length = 0) :
    AC A fl F_feed_Feed_Put [.c (.ptr p 0), .c y] H (fun v H' => ∃ x' y' zs, v = .c y' ∧
      FeedAt H' p x' size lazy ((held ++ ss.flatten).drop (nb size lazy (held ++ ss.flatten).length * size)) (total + ss.flatten.length) ∧
      Chg (fun b => b = p ∨ inX x b) H H' ∧ (∀ b, inX x' b → H.length ≤ b) ∧ BB H.length H' y' zs (blks size (held ++ ss.flatten) (nb size lazy (held ++ ss.flatten).length)) ∧ (∀ b, inB y' zs b → ¬ inX x' b)) := by
  have yl : (ss.map Cell.str).length = ss.length := by simp
  have hp := hcells_own hF.1
  have hpl := hown_lt hF.1
  have e0 : ((size : Int) == 0) = false := by rw [beq_eq_false_iff_ne]; omega
  refine AC_enter t_feed_Feed_Put ?_; simp only [c_feed_Feed_Put, enterA, List.replicate, List.length_cons, List.length_nil, Nat.reduceAdd, Nat.reduceSub, List.cons_append, List.nil_append]
  (repeat (first | with_reducible refine thenQ_n ?_ | with_reducible refine blockQ_n ?_ | refine AW_skip ?_ | refine AW_seq ?_ | refine AW_ops ?_ | refine AW_blockS ?_ | refine AW_blockR ?_ | refine AW_blockD ?_ | refine AW_blockC ?_ | refine AO_nil ?_ | refine AW_draw ?_ | refine AW_draw3 ?_ | refine AW_blockD3 ?_ | refine AHd_nil ?_ | ((first | with_reducible apply AO_pre | with_reducible apply AHd_pre); focus (simp only [Sm, wantedA, execA, stepA, List.getElem?_cons_zero, List.getElem?_cons_succ, if_true, if_false, binA, binInt, unA, eqA, Option.map, eq_self, reduceCtorEq, ite_true, ite_false, cellsAV, fitsAll, CK.fits, fillA, AV.cells, writeN, readN, sliceCells, appendA, lenA, i64, loA, hiA, Nat.reduceAdd, Nat.reduceMul, Nat.reduceDiv, Nat.reduceSub, Nat.reduceLeDiff, Nat.reduceLT, Int.reduceLE, Int.reduceLT, foldA, maxA, minA, Int.reduceBEq, Int.reduceBNe, Int.reduceGT, Int.reduceGE, Int.reduceEq, Int.reduceNe, Int.reduceToNat, AOp.stops, ↓want_eq, ↓exec_lenX, hp, e0]; with_reducible rfl))))
  refine AW_cond (t := false) rfl (fun h => by cases h) fun _ => ?_
  (repeat (first | with_reducible refine thenQ_n ?_ | with_reducible refine blockQ_n ?_ | refine AW_skip ?_ | refine AW_seq ?_ | refine AW_ops ?_ | refine AW_blockS ?_ | refine AW_blockR ?_ | refine AW_blockD ?_ | refine AW_blockC ?_ | refine AO_nil ?_ | refine AW_draw ?_ | refine AW_draw3 ?_ | refine AW_blockD3 ?_ | refine AHd_nil ?_ | ((first | with_reducible apply AO_pre | with_reducible apply AHd_pre); focus (simp only [Sm, wantedA, execA, stepA, List.getElem?_cons_zero, List.getElem?_cons_succ, if_true, if_false, binA, binInt, unA, eqA, Option.map, eq_self, reduceCtorEq, ite_true, ite_false, cellsAV, fitsAll, CK.fits, fillA, AV.cells, writeN, readN, sliceCells, appendA, lenA, i64, loA, hiA, Nat.reduceAdd, Nat.reduceMul, Nat.reduceDiv, Nat.reduceSub, Nat.reduceLeDiff, Nat.reduceLT, Int.reduceLE, Int.reduceLT, foldA, maxA, minA, Int.reduceBEq, Int.reduceBNe, Int.reduceGT, Int.reduceGE, Int.reduceEq, Int.reduceNe, Int.reduceToNat, AOp.stops, ↓want_eq, ↓exec_lenX, hy.len1 _ yl]; with_reducible rfl))))
  refine AW_mid (fun e fr H' => e = .normal ∧ putI fl p x y size lazy held total ss H ss.length fr H') ?_ ?_
  · refine AW_block (AW_up (putI fl p x y size lazy held total ss H) ss.length ⟨.snil, x, [], ?_, stale _ _ rfl⟩ ?_)
    · simp only [List.take_zero, List.flatten_nil, List.append_nil, List.length_nil, Nat.add_zero, hn]
      exact ⟨by simpa using hF, Chg.refl _ _, fun b hb => .inl hb, BB.nil, fun b hb => by
        rcases hb with hb | ⟨z, hz, _⟩
        · exact absurd hb inX_snil
        · simp at hz, by simp, fun z hz => by simp at hz⟩
    rintro i fr H1 hi ⟨x5, xh, zs, hI, st, rfl⟩
    (repeat (first | with_reducible refine thenQ_n ?_ | with_reducible refine blockQ_n ?_ | refine AW_skip ?_ | refine AW_seq ?_ | refine AW_ops ?_ | refine AW_blockS ?_ | refine AW_blockR ?_ | refine AW_blockD ?_ | refine AW_blockC ?_ | refine AO_nil ?_ | refine AW_draw ?_ | refine AW_draw3 ?_ | refine AW_blockD3 ?_ | refine AHd_nil ?_ | ((first | with_reducible apply AO_pre | with_reducible apply AHd_pre); focus (simp only [Sm, wantedA, execA, stepA, List.getElem?_cons_zero, List.getElem?_cons_succ, if_true, if_false, binA, binInt, unA, eqA, Option.map, eq_self, reduceCtorEq, ite_true, ite_false, cellsAV, fitsAll, CK.fits, fillA, AV.cells, writeN, readN, sliceCells, appendA, lenA, i64, loA, hiA, Nat.reduceAdd, Nat.reduceMul, Nat.reduceDiv, Nat.reduceSub, Nat.reduceLeDiff, Nat.reduceLT, Int.reduceLE, Int.reduceLT, foldA, maxA, minA, Int.reduceBEq, Int.reduceBNe, Int.reduceGT, Int.reduceGE, Int.reduceEq, Int.reduceNe, Int.reduceToNat, AOp.stops, ↓want_eq, ↓exec_lenX]; with_reducible rfl))))
    refine AW_cond rfl ?_ ?_ <;> intro htt
    · have htt : (i : Int) < ss.length := of_decide_eq_true htt
      have hi2 : i < ss.length := by omega
      obtain ⟨w, hw⟩ : ∃ w, ss[i]? = some w := ⟨_, List.getElem?_eq_getElem hi2⟩
      have hyH1 : Rd H1 y 1 (ss.map Cell.str) := hy.chg hI.chg (fun b hb h => by rcases h with rfl | h; exact hyp hb; exact hyx b hb h)
      obtain ⟨u, o, full, rfl, hf, hg⟩ := hyH1.get (i := i) (by omega)
      have gx : full[o + i]? = some (.str w) := by rw [hg]; simp [hw]
      have hp1 := hcells_own hI.feed.1
      have hfe := flat_take hw
      have hwl : ((ss.take i).flatten.length + w.length) ≤ ss.flatten.length := by
        have h := congrArg List.flatten (List.take_append_drop (i + 1) ss)
        rw [List.flatten_append] at h
        have h := congrArg List.length h
        rw [List.length_append, hfe, List.length_append] at h; omega
      generalize hfa : (ss.take i).flatten = fa at *
      have ea : IntKind.i64.wrap (((total + fa.length : Nat) : Int) + (w.length : Int)) = ((total + fa.length + w.length : Nat) : Int) := i64_add (by omega)
      (repeat (first | with_reducible refine thenQ_n ?_ | with_reducible refine blockQ_n ?_ | refine AW_skip ?_ | refine AW_seq ?_ | refine AW_ops ?_ | refine AW_blockS ?_ | refine AW_blockR ?_ | refine AW_blockD ?_ | refine AW_blockC ?_ | refine AO_nil ?_ | refine AW_draw ?_ | refine AW_draw3 ?_ | refine AW_blockD3 ?_ | refine AHd_nil ?_ | ((first | with_reducible apply AO_pre | with_reducible apply AHd_pre); focus (simp only [Sm, wantedA, execA, stepA, List.getElem?_cons_zero, List.getElem?_cons_succ, if_true, if_false, binA, binInt, unA, eqA, Option.map, eq_self, reduceCtorEq, ite_true, ite_false, cellsAV, fitsAll, CK.fits, fillA, AV.cells, writeN, readN, sliceCells, appendA, lenA, i64, loA, hiA, Nat.reduceAdd, Nat.reduceMul, Nat.reduceDiv, Nat.reduceSub, Nat.reduceLeDiff, Nat.reduceLT, Int.reduceLE, Int.reduceLT, foldA, maxA, minA, Int.reduceBEq, Int.reduceBNe, Int.reduceGT, Int.reduceGE, Int.reduceEq, Int.reduceNe, Int.reduceToNat, AOp.stops, ↓want_eq, ↓exec_lenX, hf, gx, yl, htt, hp1, ea, ↓exec_storeX, storeX_own hI.feed.1 hfl (show 3 < 4 by omega)]; with_reducible rfl))))
      -- the total
      have hFa : FeedAt (H1.set p (.own [.int .i64 (size : Int), .bool lazy, xh, .int .i64 ((total + fa.length + w.length : Nat) : Int)])) p xh size lazy ((held ++ fa).drop (nb size lazy (held ++ fa).length * size)) (total + fa.length + w.length) := hI.feed.put hI.feed.2.1 hI.feed.2.2
      have cA : Chg (· = p) H1 (H1.set p (.own [.int .i64 (size : Int), .bool lazy, xh, .int .i64 ((total + fa.length + w.length : Nat) : Int)])) := Chg.set rfl
      generalize H1.set p (.own [.int .i64 (size : Int), .bool lazy, xh, .int .i64 ((total + fa.length + w.length : Nat) : Int)]) = H2 at *
      have hp2 := hcells_own hFa.1
      have hpx : ∀ b, inX xh b → b ≠ p := fun b hb e => hI.feed.2.2 (by rw [← e]; exact hb)
      have hlow : ∀ b, inX xh b → fl ≤ b := fun b hb => by
        rcases hI.hh b hb with h | h
        · exact hfx b h
        · omega
      (repeat (first | with_reducible refine thenQ_n ?_ | with_reducible refine blockQ_n ?_ | refine AW_skip ?_ | refine AW_seq ?_ | refine AW_ops ?_ | refine AW_blockS ?_ | refine AW_blockR ?_ | refine AW_blockD ?_ | refine AW_blockC ?_ | refine AO_nil ?_ | refine AW_draw ?_ | refine AW_draw3 ?_ | refine AW_blockD3 ?_ | refine AHd_nil ?_ | ((first | with_reducible apply AO_pre | with_reducible apply AHd_pre); focus (simp only [Sm, wantedA, execA, stepA, List.getElem?_cons_zero, List.getElem?_cons_succ, if_true, if_false, binA, binInt, unA, eqA, Option.map, eq_self, reduceCtorEq, ite_true, ite_false, cellsAV, fitsAll, CK.fits, fillA, AV.cells, writeN, readN, sliceCells, appendA, lenA, i64, loA, hiA, Nat.reduceAdd, Nat.reduceMul, Nat.reduceDiv, Nat.reduceSub, Nat.reduceLeDiff, Nat.reduceLT, Int.reduceLE, Int.reduceLT, foldA, maxA, minA, Int.reduceBEq, Int.reduceBNe, Int.reduceGT, Int.reduceGE, Int.reduceEq, Int.reduceNe, Int.reduceToNat, AOp.stops, ↓want_eq, ↓exec_lenX, hp2]; with_reducible rfl))))
      -- the bytes
      have hlen1 : (B8 ((held ++ fa).drop (nb size lazy (held ++ fa).length * size))).length ≤ held.length + fa.length := by rw [B8_length, List.length_drop, List.length_append]; omega
      refine AO_appendT (f := fl) (news := B8 w) (hFa.2.1.floor hlow) rfl rfl (by omega) (Nat.mod_one _) (Nat.le_refl _) (by have := hown_lt hFa.1; omega) (by have := B8_length (s := w); omega) rfl rfl ?_
      intro q' n' H3 hq' ho3 c3
      subst hq'
      have hpH2 := hown_lt hFa.1
      have hFp : hown H3 p = some [.int .i64 (size : Int), .bool lazy, xh, .int .i64 ((total + fa.length + w.length : Nat) : Int)] := c3.hown (fun h => hpx p h rfl) hFa.1
      have hp3 := hcells_own hFp
      rw [← B8_append] at ho3
      have hle : nb size lazy (held ++ fa).length * size ≤ (held ++ fa).length := nb_le h0
      have eall : held ++ fa ++ w = (held ++ fa) ++ w := rfl
      rw [← List.drop_append_of_le_length hle] at ho3
      have hq : H2.length ≠ p := by omega
      (repeat (first | with_reducible refine thenQ_n ?_ | with_reducible refine blockQ_n ?_ | refine AW_skip ?_ | refine AW_seq ?_ | refine AW_ops ?_ | refine AW_blockS ?_ | refine AW_blockR ?_ | refine AW_blockD ?_ | refine AW_blockC ?_ | refine AO_nil ?_ | refine AW_draw ?_ | refine AW_draw3 ?_ | refine AW_blockD3 ?_ | refine AHd_nil ?_ | ((first | with_reducible apply AO_pre | with_reducible apply AHd_pre); focus (simp only [Sm, wantedA, execA, stepA, List.getElem?_cons_zero, List.getElem?_cons_succ, if_true, if_false, binA, binInt, unA, eqA, Option.map, eq_self, reduceCtorEq, ite_true, ite_false, cellsAV, fitsAll, CK.fits, fillA, AV.cells, writeN, readN, sliceCells, appendA, lenA, i64, loA, hiA, Nat.reduceAdd, Nat.reduceMul, Nat.reduceDiv, Nat.reduceSub, Nat.reduceLeDiff, Nat.reduceLT, Int.reduceLE, Int.reduceLT, foldA, maxA, minA, Int.reduceBEq, Int.reduceBNe, Int.reduceGT, Int.reduceGE, Int.reduceEq, Int.reduceNe, Int.reduceToNat, AOp.stops, ↓want_eq, ↓exec_lenX, hp3, ↓exec_storeX, storeX_own hFp hfl (show 2 < 4 by omega)]; with_reducible rfl))))
      have hFb : FeedAt (H3.set p (.own [.int .i64 (size : Int), .bool lazy, .slc H2.length 0 n' 1, .int .i64 ((total + fa.length + w.length : Nat) : Int)])) p (.slc H2.length 0 n' 1) size lazy (((held ++ fa) ++ w).drop (nb size lazy (held ++ fa).length * size)) (total + fa.length + w.length) :=
        ⟨hown_set (hown_lt hFp), ((ho3.mono (Nat.zero_le _)).t).chg (Chg.set (S := (· = p)) rfl) (fun b hb e => hq (by rw [← inX_slc.mp hb, e])), fun h => hq (inX_slc.mp h).symm⟩
      have cB : Chg (fun b => b = p ∨ inX xh b) H1 (H3.set p (.own [.int .i64 (size : Int), .bool lazy, .slc H2.length 0 n' 1, .int .i64 ((total + fa.length + w.length : Nat) : Int)])) :=
        ((cA.mono (T := fun b => b = p ∨ inX xh b) fun b _ h => .inl h).trans c3 fun b _ h => .inr h).trans (Chg.set (S := (· = p)) rfl) fun b _ h => .inl h
      have hH2 : H1.length ≤ H2.length := cA.1
      generalize H3.set p (.own [.int .i64 (size : Int), .bool lazy, .slc H2.length 0 n' 1, .int .i64 ((total + fa.length + w.length : Nat) : Int)]) = H4 at *
      have hI4 : Fed H H4 p x x5 (.slc H2.length 0 n' 1) zs size lazy ((held ++ fa) ++ w) (total + fa.length + w.length) (nb size lazy (held ++ fa).length) := by
        refine ⟨hFb, hI.chg.trans cB fun b hb h => ?_, fun b hb => .inr (by rw [inX_slc.mp hb]; have := hI.chg.1; omega), ?_, fun b hb h => ?_, Nat.le_trans hle (by simp), hI.self⟩
        · rcases h with h | h
          · exact .inl h
          · rcases hI.hh b h with h | h
            · exact .inr h
            · omega
        · rw [blks_append hle]
          exact hI.out.chg cB fun b hb h => by
            rcases h with h | h
            · have := hI.out.le hb; omega
            · exact hI.apart b hb h
        · have := hI.out.lt hb
          rw [inX_slc.mp h] at this; omega
      have hmono : nb size lazy (held ++ fa).length ≤ nb size lazy ((held ++ fa) ++ w).length := nb_mono (by simp)
      have hall : ((held ++ fa) ++ w).length ≤ 1000000000 := by simp only [List.length_append]; omega
      have heq : held ++ (ss.take (i + 1)).flatten = (held ++ fa) ++ w := by rw [hfe]; simp
      have heq2 : total + (ss.take (i + 1)).flatten.length = total + fa.length + w.length := by rw [hfe]; simp; omega
      clear hI hFa hFb c3 cA cB hFp hp2 hp3 ho3 hf hp1 hp hlow hpx hg gx
      generalize hk0 : nb size lazy (held ++ fa).length = k0 at *
      generalize hA : (held ++ fa) ++ w = all at *
      generalize total + fa.length + w.length = tot at *
      refine AW_mid (fun e fr H' => e = .normal ∧ putJ fl p x (.slc u o ss.length 1) size lazy all tot ss i H 0 fr H') ?_ ?_
      · refine AW_block (AW_loopN (putJ fl p x (.slc u o ss.length 1) size lazy all tot ss i H) (nb size lazy all.length - k0) ⟨x5, _, zs, k0, by omega, hI4, stale _ _ rfl⟩ ?_)
        clear hI4 hmono hq hpH2 hle hlen1 H4 x5 xh zs H3 H2 hH2 H1 hyH1 n'
        rintro m fr H1 ⟨x5, xh, zs, k, hkm, hI, st, rfl⟩
        have hdl : (all.drop (k * size)).length = all.length - k * size := by rw [List.length_drop]
        have hpl1 := hown_lt hI.feed.1
        (repeat (first | with_reducible refine thenQ_n ?_ | with_reducible refine blockQ_n ?_ | refine AW_skip ?_ | refine AW_seq ?_ | refine AW_ops ?_ | refine AW_blockS ?_ | refine AW_blockR ?_ | refine AW_blockD ?_ | refine AW_blockC ?_ | refine AO_nil ?_ | refine AW_draw ?_ | refine AW_draw3 ?_ | refine AW_blockD3 ?_ | refine AHd_nil ?_ | ((first | with_reducible apply AO_pre | with_reducible apply AHd_pre); focus (simp only [Sm, wantedA, execA, stepA, List.getElem?_cons_zero, List.getElem?_cons_succ, if_true, if_false, binA, binInt, unA, eqA, Option.map, eq_self, reduceCtorEq, ite_true, ite_false, cellsAV, fitsAll, CK.fits, fillA, AV.cells, writeN, readN, sliceCells, appendA, lenA, i64, loA, hiA, Nat.reduceAdd, Nat.reduceMul, Nat.reduceDiv, Nat.reduceSub, Nat.reduceLeDiff, Nat.reduceLT, Int.reduceLE, Int.reduceLT, foldA, maxA, minA, Int.reduceBEq, Int.reduceBNe, Int.reduceGT, Int.reduceGE, Int.reduceEq, Int.reduceNe, Int.reduceToNat, AOp.stops, ↓want_eq, ↓exec_lenX]; with_reducible rfl))))
        refine AO_call rfl ((AC_feed_full H1 p xh size lazy _ tot hI.feed).floor (by omega)) ?_
        rintro v _ ⟨rfl, rfl⟩
        rw [hdl, nb_full h0 hI.le]
        (repeat (first | with_reducible refine thenQ_n ?_ | with_reducible refine blockQ_n ?_ | refine AW_skip ?_ | refine AW_seq ?_ | refine AW_ops ?_ | refine AW_blockS ?_ | refine AW_blockR ?_ | refine AW_blockD ?_ | refine AW_blockC ?_ | refine AO_nil ?_ | refine AW_draw ?_ | refine AW_draw3 ?_ | refine AW_blockD3 ?_ | refine AHd_nil ?_ | ((first | with_reducible apply AO_pre | with_reducible apply AHd_pre); focus (simp only [Sm, wantedA, execA, stepA, List.getElem?_cons_zero, List.getElem?_cons_succ, if_true, if_false, binA, binInt, unA, eqA, Option.map, eq_self, reduceCtorEq, ite_true, ite_false, cellsAV, fitsAll, CK.fits, fillA, AV.cells, writeN, readN, sliceCells, appendA, lenA, i64, loA, hiA, Nat.reduceAdd, Nat.reduceMul, Nat.reduceDiv, Nat.reduceSub, Nat.reduceLeDiff, Nat.reduceLT, Int.reduceLE, Int.reduceLT, foldA, maxA, minA, Int.reduceBEq, Int.reduceBNe, Int.reduceGT, Int.reduceGE, Int.reduceEq, Int.reduceNe, Int.reduceToNat, AOp.stops, ↓want_eq, ↓exec_lenX]; with_reducible rfl))))
        refine AW_cond rfl ?_ ?_ <;> intro hc
        · have hc : k < nb size lazy all.length := of_decide_eq_true hc
          have hk1 : (k + 1) * size ≤ all.length := Nat.le_trans (Nat.mul_le_mul_right size hc) (nb_le h0)
          have hks : (k + 1) * size = k * size + size := by rw [Nat.add_mul, Nat.one_mul]
          obtain ⟨d1, d2⟩ := drop_part hk1
          have hB : 0 < (B8 (all.drop (k * size))).length := by rw [B8_length, hdl]; omega
          obtain ⟨s, o', full', rfl, hs1, hs2, hs3⟩ := hI.feed.2.1.slc hB
          rw [B8_length, hdl] at hs2
          have hsub : Rd H1 (.slc s o' size 1) 1 (B8 (blk size all k)) := by
            have := hI.feed.2.1.rd.sub (i := 0) (j := size) (Nat.zero_le _) (by rw [B8_length, hdl]; omega)
            simp only [Nat.zero_mul, Nat.add_zero, Nat.sub_zero, List.drop_zero, Nat.mul_one] at this
            rw [← d1, show B8 ((all.drop (k * size)).take size) = (B8 (all.drop (k * size))).take size by simp [B8, List.map_take]]
            exact this
          have hdrop : OwnT 0 H1 (.slc s (o' + size) ((B8 (all.drop (k * size))).length - size) 1) 1 (B8 (all.drop ((k + 1) * size))) := by
            have := hI.feed.2.1.drop (k := size) (by rw [B8_length, hdl]; omega)
            rw [← d2, show B8 ((all.drop (k * size)).drop size) = (B8 (all.drop (k * size))).drop size by simp [B8, List.map_drop]]
            exact this
          have hbl : (blk size all k).length = size := by rw [← d1, List.length_take, hdl]; omega
          have bl8 : (B8 (blk size all k)).length = size := by rw [B8_length, hbl]
          have hp1 := hcells_own hI.feed.1
          have hs1' := hcells_own hs1
          have q1 : (size : Int) ≤ (((B8 (all.drop (k * size))).length : Nat) : Int) := by rw [B8_length, hdl]; omega
          have q2 : size ≤ (B8 (all.drop (k * size))).length := by rw [B8_length, hdl]; omega
          generalize (B8 (all.drop (k * size))).length = hn' at *
          (repeat (first | with_reducible refine thenQ_n ?_ | with_reducible refine blockQ_n ?_ | refine AW_skip ?_ | refine AW_seq ?_ | refine AW_ops ?_ | refine AW_blockS ?_ | refine AW_blockR ?_ | refine AW_blockD ?_ | refine AW_blockC ?_ | refine AO_nil ?_ | refine AW_draw ?_ | refine AW_draw3 ?_ | refine AW_blockD3 ?_ | refine AHd_nil ?_ | ((first | with_reducible apply AO_pre | with_reducible apply AHd_pre); focus (simp only [Sm, wantedA, execA, stepA, List.getElem?_cons_zero, List.getElem?_cons_succ, if_true, if_false, binA, binInt, unA, eqA, Option.map, eq_self, reduceCtorEq, ite_true, ite_false, cellsAV, fitsAll, CK.fits, fillA, AV.cells, writeN, readN, sliceCells, appendA, lenA, i64, loA, hiA, Nat.reduceAdd, Nat.reduceMul, Nat.reduceDiv, Nat.reduceSub, Nat.reduceLeDiff, Nat.reduceLT, Int.reduceLE, Int.reduceLT, foldA, maxA, minA, Int.reduceBEq, Int.reduceBNe, Int.reduceGT, Int.reduceGE, Int.reduceEq, Int.reduceNe, Int.reduceToNat, AOp.stops, ↓want_eq, ↓exec_lenX, hp1, hs1', q1, ↓exec_appNil, appNil_one hsub.cells bl8 (show size * 1 ≤ 140737488355328 by omega), Nat.sub_zero, Nat.zero_mul]; with_reducible rfl))))
          have cP : Chg none_ H1 (H1 ++ [.own (B8 (blk size all k))] ++ [.own [.slc H1.length 0 size 1]]) := by rw [List.append_assoc]; exact Chg.push _ _ _
          have hz0 : OwnT H.length (H1 ++ [.own (B8 (blk size all k))]) (.slc H1.length 0 size 1) 1 (B8 (blk size all k)) := OwnT.last hI.chg.1 (by rw [bl8, Nat.mul_one])
          have hz1 := hz0.chg (S := none_) (Chg.push _ _ [.own [.slc H1.length 0 size 1]]) (fun _ _ h => h)
          have hlast := cells_last (H := H1 ++ [.own (B8 (blk size all k))]) (cs := [.slc H1.length 0 size 1]) (n := 1) rfl
          have hout := hI.out.chg cP (fun _ _ h => h)
          have hFP := hI.feed.chg cP (fun h => h) (fun _ _ h => h)
          have hdP := hdrop.chg cP (fun _ _ h => h)
          have hzl : zs.length = k := by rw [hI.out.2.1, blks_length]
          have hPl : (H1 ++ [Blk.own (B8 (blk size all k))] ++ [Blk.own [Cell.slc H1.length 0 size 1]]).length = H1.length + 2 := by simp
          have hkn : k ≤ 1000000000 := by have := Nat.le_mul_of_pos_right k h0; have := hI.le; omega
          generalize hHP : H1 ++ [Blk.own (B8 (blk size all k))] ++ [Blk.own [Cell.slc H1.length 0 size 1]] = HP at *
          refine AO_appendT (f := H.length) (news := [.slc H1.length 0 size 1]) hout.1 ?_ rfl (by omega) (Nat.mod_one _) (by omega) (by have := hI.chg.1; omega) (by rw [hzl]; simp; omega) rfl rfl ?_
          · show sliceCells HP 1 (.c (.slc _ 0 1 1)) = _
            simpa using hlast
          intro q' n2 H2 hq' ho2 c2
          subst hq'
          have hpo : ¬ inX x5 p := fun h => by have := hout.1.le h; omega
          have hF2 := hFP.chg c2 hpo (fun b hb h => hI.apart b (.inl h) hb)
          have hd2 := hdP.chg c2 (fun b hb h => hI.apart b (.inl h) (by rw [inX_slc] at hb ⊢; exact hb))
          have hs2' : hcells H2 s = some full' := hcells_own (c2.hown (fun h => hI.apart s (.inl h) (inX_slc.mpr rfl)) (cP.hown (fun h => h) hs1))
          have hp2 := hcells_own hF2.1
          have hz2 := hz1.chg c2 (fun b hb h => by rw [inX_slc.mp hb] at h; have := hI.out.lt (.inl h); omega)
          have hsne : s ≠ p := fun e => hI.feed.2.2 (inX_slc.mpr e.symm)
          have hsl : s < H1.length := hown_lt hs1
          (repeat (first | with_reducible refine thenQ_n ?_ | with_reducible refine blockQ_n ?_ | refine AW_skip ?_ | refine AW_seq ?_ | refine AW_ops ?_ | refine AW_blockS ?_ | refine AW_blockR ?_ | refine AW_blockD ?_ | refine AW_blockC ?_ | refine AO_nil ?_ | refine AW_draw ?_ | refine AW_draw3 ?_ | refine AW_blockD3 ?_ | refine AHd_nil ?_ | ((first | with_reducible apply AO_pre | with_reducible apply AHd_pre); focus (simp only [Sm, wantedA, execA, stepA, List.getElem?_cons_zero, List.getElem?_cons_succ, if_true, if_false, binA, binInt, unA, eqA, Option.map, eq_self, reduceCtorEq, ite_true, ite_false, cellsAV, fitsAll, CK.fits, fillA, AV.cells, writeN, readN, sliceCells, appendA, lenA, i64, loA, hiA, Nat.reduceAdd, Nat.reduceMul, Nat.reduceDiv, Nat.reduceSub, Nat.reduceLeDiff, Nat.reduceLT, Int.reduceLE, Int.reduceLT, foldA, maxA, minA, Int.reduceBEq, Int.reduceBNe, Int.reduceGT, Int.reduceGE, Int.reduceEq, Int.reduceNe, Int.reduceToNat, AOp.stops, ↓want_eq, ↓exec_lenX, hp2, hs2', q2, Nat.le_refl, ↓exec_storeX, storeX_own hF2.1 hfl (show 2 < 4 by omega)]; with_reducible rfl))))
          have cS : Chg (· = p) H2 (H2.set p (.own [.int .i64 (size : Int), .bool lazy, .slc s (o' + size) (hn' - size) 1, .int .i64 (tot : Int)])) := Chg.set rfl
          have hF3 := hF2.put (total' := tot) hd2 (fun h => hsne (inX_slc.mp h).symm)
          generalize H2.set p (.own [.int .i64 (size : Int), .bool lazy, .slc s (o' + size) (hn' - size) 1, .int .i64 (tot : Int)]) = H3 at *
          have c13 : Chg (fun b => b = p ∨ inX x5 b) H1 H3 := (((cP.mono (T := fun b => b = p ∨ inX x5 b) fun _ _ h => h.elim).trans c2 fun _ _ h => .inr h).trans cS fun _ _ h => .inl h)
          refine ⟨m - 1, by omega, _, _, zs ++ [.slc H1.length 0 size 1], k + 1, by omega, ⟨hF3, ?_, ?_, ?_, ?_, hk1, ?_⟩, stale _ _ rfl⟩
          · refine hI.chg.trans c13 fun b hb h => ?_
            rcases h with h | h
            · exact .inl h
            · have := hI.out.le (.inl h); omega
          · intro b hb
            exact hI.hh b (by rw [inX_slc] at hb ⊢; exact hb)
          · rw [blks_succ]
            refine BB.snoc (fun j z w h1 h2 => ?_) hI.out.2.1 ?_ ?_
            · have hz := hI.out.2.2 j z w h1 h2
              refine ((hz.chg cP (fun _ _ h => h)).chg c2 (hI.self z (List.mem_of_getElem? h1))).chg cS fun b hb e => ?_
              have := hz.le hb; omega
            · exact ho2.t.chg cS fun b hb e => by rw [inX_slc.mp hb] at e; omega
            · exact hz2.chg cS fun b hb e => by rw [inX_slc.mp hb] at e; have := hI.chg.1; omega
          · intro b hb h
            rw [inX_slc.mp h] at hb
            rcases hb with hb | ⟨z, hz, hb⟩
            · have := inX_slc.mp hb; omega
            · rcases List.mem_append.mp hz with hz | hz
              · exact hI.apart s (.inr ⟨z, hz, hb⟩) (inX_slc.mpr rfl)
              · rw [List.mem_singleton.mp hz] at hb
                have := inX_slc.mp hb; omega
          · intro z hz b hb h
            rw [inX_slc.mp h] at hb
            rcases List.mem_append.mp hz with hz | hz
            · have := hI.out.lt (.inr ⟨z, hz, hb⟩); omega
            · rw [List.mem_singleton.mp hz] at hb
              have := inX_slc.mp hb; omega
        · have hc : ¬ k < nb size lazy all.length := of_decide_eq_false hc
          obtain rfl : m = 0 := by omega
          exact AW_exit ⟨rfl, x5, xh, zs, k, hkm, hI, stale _ _ rfl⟩
      rintro e fr H5 ⟨rfl, x5', xh', zs', k, hkm, hI5, st, rfl⟩
      (repeat (first | with_reducible refine thenQ_n ?_ | with_reducible refine blockQ_n ?_ | refine AW_skip ?_ | refine AW_seq ?_ | refine AW_ops ?_ | refine AW_blockS ?_ | refine AW_blockR ?_ | refine AW_blockD ?_ | refine AW_blockC ?_ | refine AO_nil ?_ | refine AW_draw ?_ | refine AW_draw3 ?_ | refine AW_blockD3 ?_ | refine AHd_nil ?_ | ((first | with_reducible apply AO_pre | with_reducible apply AHd_pre); focus (simp only [Sm, wantedA, execA, stepA, List.getElem?_cons_zero, List.getElem?_cons_succ, if_true, if_false, binA, binInt, unA, eqA, Option.map, eq_self, reduceCtorEq, ite_true, ite_false, cellsAV, fitsAll, CK.fits, fillA, AV.cells, writeN, readN, sliceCells, appendA, lenA, i64, loA, hiA, Nat.reduceAdd, Nat.reduceMul, Nat.reduceDiv, Nat.reduceSub, Nat.reduceLeDiff, Nat.reduceLT, Int.reduceLE, Int.reduceLT, foldA, maxA, minA, Int.reduceBEq, Int.reduceBNe, Int.reduceGT, Int.reduceGE, Int.reduceEq, Int.reduceNe, Int.reduceToNat, AOp.stops, ↓want_eq, ↓exec_lenX, i64_succ (show i < 9223372036854775807 by omega)]; with_reducible rfl))))
      refine ⟨hi2, x5', xh', zs', ?_, stale _ _ (by rw [yl]; rfl)⟩
      rw [heq, heq2, ← hkm]; exact hI5
    · obtain rfl : i = ss.length := by have : ¬ (i : Int) < ss.length := of_decide_eq_false htt; omega
      exact AW_exit ⟨rfl, x5, xh, zs, hI, stale _ _ rfl⟩
  rintro e fr H5 ⟨rfl, x5, xh, zs, hI, st, rfl⟩
  rw [List.take_length] at hI
  have hlen2 : (held ++ ss.flatten).length ≤ 1000000000 := by rw [List.length_append]; omega
  generalize held ++ ss.flatten = all at *
  have hfeed := hI.feed
  have hp5 := hcells_own hfeed.1
  have hdl : (all.drop (nb size lazy all.length * size)).length ≤ 1000000000 := by rw [List.length_drop]; omega
  generalize hrest : all.drop (nb size lazy all.length * size) = rest at *
  have hp6 := hcells_app (l := [Blk.own (B8 rest)]) hp5
  have ho6 := hown_app (l := [Blk.own (B8 rest)]) hfeed.1
  have hpl5 := hown_lt hfeed.1
  (repeat (first | with_reducible refine thenQ_n ?_ | with_reducible refine blockQ_n ?_ | refine AW_skip ?_ | refine AW_seq ?_ | refine AW_ops ?_ | refine AW_blockS ?_ | refine AW_blockR ?_ | refine AW_blockD ?_ | refine AW_blockC ?_ | refine AO_nil ?_ | refine AW_draw ?_ | refine AW_draw3 ?_ | refine AW_blockD3 ?_ | refine AHd_nil ?_ | ((first | with_reducible apply AO_pre | with_reducible apply AHd_pre); focus (simp only [Sm, wantedA, execA, stepA, List.getElem?_cons_zero, List.getElem?_cons_succ, if_true, if_false, binA, binInt, unA, eqA, Option.map, eq_self, reduceCtorEq, ite_true, ite_false, cellsAV, fitsAll, CK.fits, fillA, AV.cells, writeN, readN, sliceCells, appendA, lenA, i64, loA, hiA, Nat.reduceAdd, Nat.reduceMul, Nat.reduceDiv, Nat.reduceSub, Nat.reduceLeDiff, Nat.reduceLT, Int.reduceLE, Int.reduceLT, foldA, maxA, minA, Int.reduceBEq, Int.reduceBNe, Int.reduceGT, Int.reduceGE, Int.reduceEq, Int.reduceNe, Int.reduceToNat, AOp.stops, ↓want_eq, ↓exec_lenX, hp5, ↓exec_appNil, appNil_one hfeed.2.1.rd.cells B8_length (show rest.length * 1 ≤ 140737488355328 by omega), hp6, ↓exec_storeX, storeX_own ho6 hfl (show 2 < 4 by omega)]; with_reducible rfl))))
  refine AW_ret ⟨_, rfl, .slc H5.length 0 rest.length 1, x5, zs, rfl, ?_, ?_, ?_, ?_, ?_⟩
  · have hx : OwnT 0 (H5 ++ [Blk.own (B8 rest)]) (.slc H5.length 0 rest.length 1) 1 (B8 rest) := OwnT.last (Nat.zero_le _) (by rw [B8_length, Nat.mul_one])
    exact (hfeed.chg (S := none_) (Chg.push _ _ _) (fun h => h) (fun _ _ h => h)).put hx (fun h => by have := inX_slc.mp h; omega)
  · refine (hI.chg.trans (Chg.push none_ _ _) fun _ _ h => h.elim).trans (Chg.set (S := (· = p)) rfl) fun _ _ h => .inl h
  · intro b hb
    rw [inX_slc.mp hb]; exact hI.chg.1
  · refine (hI.out.chg (S := none_) (Chg.push _ _ _) (fun _ _ h => h)).chg (Chg.set (S := (· = p)) rfl) fun b hb e => ?_
    have := hI.out.le hb; omega
  · intro b hb h
    have := hI.out.lt hb
    rw [inX_slc.mp h] at this; omega
end

theorem AC_feed_Copy (H : AHeap) (p : Nat) (x : Cell) (size : Nat) (lazy : Bool) (held : List UInt8) (total : Nat) (hF : FeedAt H p x size lazy held total) (hb : held.length ≤ 100000000000) :
    AC A H.length F_feed_Feed_Copy [.c (.ptr p 0)] H (fun v H' => ∃ q, v = .c (.ptr q 0) ∧ H.length ≤ q ∧ ∃ x', FeedAt H' q x' size lazy held total ∧ ∀ b, inX x' b → H.length ≤ b) := by
  have hp := hcells_own hF.1
  have hpl := hown_lt hF.1
  have r1 : readN H p 0 4 = some [.int .i64 (size : Int), .bool lazy, x, .int .i64 (total : Int)] := by simp only [readN, hp]; rfl
  refine AC_enter t_feed_Feed_Copy ?_; simp only [c_feed_Feed_Copy, enterA, List.replicate, List.length_cons, List.length_nil, Nat.reduceAdd, Nat.reduceSub, List.cons_append, List.nil_append]
  (repeat (first | with_reducible refine thenQ_n ?_ | with_reducible refine blockQ_n ?_ | refine AW_skip ?_ | refine AW_seq ?_ | refine AW_ops ?_ | refine AW_blockS ?_ | refine AW_blockR ?_ | refine AW_blockD ?_ | refine AW_blockC ?_ | refine AO_nil ?_ | refine AW_draw ?_ | refine AW_draw3 ?_ | refine AW_blockD3 ?_ | refine AHd_nil ?_ | ((first | with_reducible apply AO_pre | with_reducible apply AHd_pre); focus (simp only [Sm, wantedA, execA, stepA, List.getElem?_cons_zero, List.getElem?_cons_succ, if_true, if_false, binA, binInt, unA, eqA, Option.map, eq_self, reduceCtorEq, ite_true, ite_false, cellsAV, fitsAll, CK.fits, fillA, AV.cells, writeN, readN, sliceCells, appendA, lenA, i64, loA, hiA, Nat.reduceAdd, Nat.reduceMul, Nat.reduceDiv, Nat.reduceSub, Nat.reduceLeDiff, Nat.reduceLT, Int.reduceLE, Int.reduceLT, foldA, maxA, minA, Int.reduceBEq, Int.reduceBNe, Int.reduceGT, Int.reduceGE, Int.reduceEq, Int.reduceNe, Int.reduceToNat, AOp.stops, ↓want_eq, ↓exec_lenX, hp]; with_reducible rfl))))
  refine AW_cond (t := false) rfl (fun h => by cases h) fun _ => ?_
  have n1 : hown (H ++ [Blk.own [.int .i64 0, .bool false, .snil, .int .i64 0]]) H.length = some [.int .i64 0, .bool false, .snil, .int .i64 0] := hown_last
  (repeat (first | with_reducible refine thenQ_n ?_ | with_reducible refine blockQ_n ?_ | refine AW_skip ?_ | refine AW_seq ?_ | refine AW_ops ?_ | refine AW_blockS ?_ | refine AW_blockR ?_ | refine AW_blockD ?_ | refine AW_blockC ?_ | refine AO_nil ?_ | refine AW_draw ?_ | refine AW_draw3 ?_ | refine AW_blockD3 ?_ | refine AHd_nil ?_ | ((first | with_reducible apply AO_pre | with_reducible apply AHd_pre); focus (simp only [Sm, wantedA, execA, stepA, List.getElem?_cons_zero, List.getElem?_cons_succ, if_true, if_false, binA, binInt, unA, eqA, Option.map, eq_self, reduceCtorEq, ite_true, ite_false, cellsAV, fitsAll, CK.fits, fillA, AV.cells, writeN, readN, sliceCells, appendA, lenA, i64, loA, hiA, Nat.reduceAdd, Nat.reduceMul, Nat.reduceDiv, Nat.reduceSub, Nat.reduceLeDiff, Nat.reduceLT, Int.reduceLE, Int.reduceLT, foldA, maxA, minA, Int.reduceBEq, Int.reduceBNe, Int.reduceGT, Int.reduceGE, Int.reduceEq, Int.reduceNe, Int.reduceToNat, AOp.stops, ↓want_eq, ↓exec_lenX, hp, ↓r1, ↓exec_storeN, storeN_all n1 (Nat.le_refl _) (show _ = 4 from rfl) (show List.length [Cell.int .i64 (size : Int), .bool lazy, x, .int .i64 (total : Int)] = 4 from rfl)]; with_reducible rfl))))
  have hset : (H ++ [Blk.own [.int .i64 0, .bool false, .snil, .int .i64 0]]).set H.length (Blk.own [.int .i64 (size : Int), .bool lazy, x, .int .i64 (total : Int)]) = H ++ [Blk.own [.int .i64 (size : Int), .bool lazy, x, .int .i64 (total : Int)]] := by
    rw [List.set_append_right _ _ (Nat.le_refl _), Nat.sub_self]; rfl
  rw [hset]
  have c1 : Chg none_ H (H ++ [Blk.own [.int .i64 (size : Int), .bool lazy, x, .int .i64 (total : Int)]]) := Chg.push _ _ _
  have hF1 := hF.chg c1 (fun h => h) (fun _ _ h => h)
  have hq : hown (H ++ [Blk.own [.int .i64 (size : Int), .bool lazy, x, .int .i64 (total : Int)]]) H.length = some _ := hown_last
  have hl1 : (H ++ [Blk.own [.int .i64 (size : Int), .bool lazy, x, .int .i64 (total : Int)]]).length = H.length + 1 := by simp
  generalize H ++ [Blk.own [.int .i64 (size : Int), .bool lazy, x, .int .i64 (total : Int)]] = H1 at *
  refine AO_call rfl ((AC_feed_Rest H1 p x size lazy held total hF1 hb).floor (by omega)) ?_
  rintro _ _ ⟨rfl, rfl⟩
  have hq2 := hown_app (l := [Blk.own (B8 held)]) hq
  have hx : OwnT 0 (H1 ++ [Blk.own (B8 held)]) (.slc H1.length 0 held.length 1) 1 (B8 held) := OwnT.last (Nat.zero_le _) (by rw [B8_length, Nat.mul_one])
  have hF2 : FeedAt (H1 ++ [Blk.own (B8 held)]) H.length (.slc H1.length 0 held.length 1) size lazy held total → True := fun _ => trivial
  (repeat (first | with_reducible refine thenQ_n ?_ | with_reducible refine blockQ_n ?_ | refine AW_skip ?_ | refine AW_seq ?_ | refine AW_ops ?_ | refine AW_blockS ?_ | refine AW_blockR ?_ | refine AW_blockD ?_ | refine AW_blockC ?_ | refine AO_nil ?_ | refine AW_draw ?_ | refine AW_draw3 ?_ | refine AW_blockD3 ?_ | refine AHd_nil ?_ | ((first | with_reducible apply AO_pre | with_reducible apply AHd_pre); focus (simp only [Sm, wantedA, execA, stepA, List.getElem?_cons_zero, List.getElem?_cons_succ, if_true, if_false, binA, binInt, unA, eqA, Option.map, eq_self, reduceCtorEq, ite_true, ite_false, cellsAV, fitsAll, CK.fits, fillA, AV.cells, writeN, readN, sliceCells, appendA, lenA, i64, loA, hiA, Nat.reduceAdd, Nat.reduceMul, Nat.reduceDiv, Nat.reduceSub, Nat.reduceLeDiff, Nat.reduceLT, Int.reduceLE, Int.reduceLT, foldA, maxA, minA, Int.reduceBEq, Int.reduceBNe, Int.reduceGT, Int.reduceGE, Int.reduceEq, Int.reduceNe, Int.reduceToNat, AOp.stops, ↓want_eq, ↓exec_lenX, hcells_own hq2, ↓exec_storeX, storeX_own hq2 (Nat.le_refl _) (show 2 < 4 by omega)]; with_reducible rfl))))
  refine AW_ret ⟨_, rfl, H.length, rfl, Nat.le_refl _, .slc H1.length 0 held.length 1, ⟨hown_set (hown_lt hq2), ?_, fun h => by have := inX_slc.mp h; omega⟩, fun b h => by rw [inX_slc.mp h]; omega⟩
  exact hx.chg (Chg.set (S := (· = H.length)) rfl) fun b h e => by rw [inX_slc.mp h] at e; omega
end PK

/- SHA-256: what is put behind, walked. -/
namespace PK
open Go PAbs
set_option linter.unusedSimpArgs false
set_option linter.unusedVariables false
set_option maxRecDepth 100000
set_option maxHeartbeats 4000000

theorem W8B8 {l : List Nat} (h : ∀ b ∈ l, b < 256) : W8 l = B8 (l.map UInt8.ofNat) := by
  simp only [W8, B8, List.map_map]
  apply List.map_congr_left
  intro b hb
  have := h b hb
  simp only [Function.comp_apply, UInt8.toNat_ofNat']
  rw [Nat.mod_eq_of_lt (by simpa using this)]
theorem zeros8_ (n : Nat) : (List.replicate n [Cell.int .u8 0]).flatten = W8 (List.replicate n 0) := by
  induction n with
  | zero => rfl
  | succ n ih => simp only [List.replicate_succ, List.flatten_cons, ih, W8, List.map_cons]; rfl
def zlen (n : Nat) : Nat := (119 - n % 64) % 64
def padN (n : Nat) : List Nat := 128 :: List.replicate (zlen n) 0 ++ beB 8 (n * 8 % 18446744073709551616)
def padB (n : Nat) : List UInt8 := (padN n).map UInt8.ofNat
theorem padN_lt (n : Nat) : ∀ b ∈ padN n, b < 256 := by
  intro b hb
  simp only [padN, List.cons_append, List.mem_cons, List.mem_append, List.mem_replicate, beB, List.mem_reverse] at hb
  rcases hb with rfl | ⟨_, rfl⟩ | hb
  · decide
  · decide
  · exact leB_lt hb
theorem padN_length (n : Nat) : (padN n).length = zlen n + 9 := by simp only [padN, List.length_append, List.length_cons, List.length_replicate, beB_length]
theorem padB_length (n : Nat) : (padB n).length = zlen n + 9 := by rw [padB, List.length_map, padN_length]

theorem AC_shaPad (H : AHeap) (n : Nat) (hn : n < 9223372036854775808) : AC A H.length F_sha_Pad [.c (.int .i64 (n : Int))] H (fun v H' => v = .c (.str (padB n))) := by
  have e0 : decide ((n : Int) < 0) = false := decide_eq_false (by omega)
  have hzl : zlen n < 64 := Nat.mod_lt _ (by decide)
  have e1 : (n : Int).tmod 64 = ((n % 64 : Nat) : Int) := by rw [Int.tmod_eq_emod_of_nonneg (by omega)]; omega
  have e2 : IntKind.i64.wrap (119 - ((n % 64 : Nat) : Int)) = ((119 - n % 64 : Nat) : Int) := by rw [i64_of (by omega) (by omega)]; omega
  have e3 : ((119 - n % 64 : Nat) : Int).tmod 64 = ((zlen n : Nat) : Int) := by rw [Int.tmod_eq_emod_of_nonneg (by omega)]; simp only [zlen]; omega
  have e4 : IntKind.i64.wrap (((zlen n : Nat) : Int) + 1) = ((zlen n + 1 : Nat) : Int) := by rw [i64_of (by omega) (by omega)]; omega
  have e5 : IntKind.u64.wrap (n : Int) = (n : Int) := u64_nat (by omega)
  have e6 : IntKind.u64.wrap ((n : Int) * 8) = ((n * 8 % 18446744073709551616 : Nat) : Int) := by rw [wrap64]; omega
  have z : ¬ ((64 : Int) = 0) := by omega
  have hw : n * 8 % 18446744073709551616 < 18446744073709551616 := Nat.mod_lt _ (by decide)
  have hpad : padN n = 128 :: List.replicate (zlen n) 0 ++ beB 8 (n * 8 % 18446744073709551616) := rfl
  generalize n * 8 % 18446744073709551616 = w at *
  have b1 : ((zlen n + 1 : Nat) : Int) ≤ 140737488355328 := by omega
  have b0 : (0 : Int) ≤ ((zlen n + 1 : Nat) : Int) := by omega
  have b2 : (0 : Int) < ((zlen n + 1 : Nat) : Int) := by omega
  have o1 : hown (H ++ [Blk.own (W8 (List.replicate (zlen n + 1) 0))]) H.length = some (W8 (List.replicate (zlen n + 1) 0)) := hown_last
  obtain ⟨H2, s2, o2, c2, l2⟩ := storeX_ex (o := 0) o1 (Nat.le_refl _) (by rw [W8_length, List.length_replicate]; omega) (.int .u8 128)
  have e7 : (W8 (List.replicate (zlen n + 1) 0)).set 0 (.int .u8 128) = W8 (128 :: List.replicate (zlen n) 0) := rfl
  rw [e7] at o2
  have hc1 := hcells_own o1
  refine AC_enter t_sha_Pad ?_; simp only [c_sha_Pad, enterA, List.replicate, List.length_cons, List.length_nil, Nat.reduceAdd, Nat.reduceSub, List.cons_append, List.nil_append]
  (repeat (first | refine GOS ?_ | (with_reducible (first | apply AO_any | apply AHd_any | apply AP_go | apply AHP_go); focus (simp only [Sm, wantedA, execA, stepA, List.getElem?_cons_zero, List.getElem?_cons_succ, if_true, if_false, binA, binInt, unA, eqA, Option.map, eq_self, reduceCtorEq, ite_true, ite_false, cellsAV, fitsAll, CK.fits, fillA, AV.cells, writeN, sliceCells, appendA, lenA, i64, loA, hiA, Nat.reduceAdd, Nat.reduceMul, Nat.reduceDiv, Nat.reduceSub, Nat.reduceLeDiff, Nat.reduceLT, Int.reduceLE, Int.reduceLT, foldA, maxA, minA, Int.reduceBEq, Int.reduceBNe, Int.reduceGT, Int.reduceGE, Int.reduceEq, Int.reduceNe, Int.reduceToNat, AOp.stops, ↓want_eq, ↓exec_lenX, ↓exec_storeX, ↓exec_storeN, storeN_one, ↓exec_bsX, ↓exec_sliceX, ↓exec_copyX, ↓exec_appNil, ↓exec_carryX, Nat.sub_zero, rep_len, e0, z, e1, e2, e3, e4, b0, b1, b2, Int.le_refl, zeros8_, Int.mul_one, hc1, s2, Nat.zero_add, e5, e6]; with_reducible first | exact EqP.at_ | exact EqP.cont | exact EqP.hcont | exact EqP.gate | exact EqP.hgate))))
  have l2 : H2.length = H.length + 1 := by rw [l2]; simp
  have cx : Chg none_ H2 (H2 ++ [Blk.own [Cell.int .u64 (w : Int)]]) := Chg.push _ _ _
  have hy : Rd (H2 ++ [Blk.own [Cell.int .u64 (w : Int)]]) (.slc H2.length 0 1 1) 1 (W64w [w]) := (Own.one (f := 0) (Nat.zero_le _)).rd
  have o3 := cx.hown (fun h => h) o2
  have l3 : (H2 ++ [Blk.own [Cell.int .u64 (w : Int)]]).length = H2.length + 1 := by simp
  generalize H2 ++ [Blk.own [Cell.int .u64 (w : Int)]] = H3 at *
  refine AO_call rfl (((AC_Big64 H3 _ [w] hy (by simp)).kept (Nat.le_refl _)).floor (by omega)) ?_
  rintro v H4 ⟨⟨x, rfl, hx⟩, k4⟩
  have o4 : hown H4 H.length = some (W8 (128 :: List.replicate (zlen n) 0)) := by rw [k4.hown (by omega) (by omega)]; exact o3
  have fl1 : flat (beB 8) [w] [w].length = beB 8 w := rfl
  rw [fl1] at hx
  have hu : OwnT H.length H4 (.slc H.length 0 (zlen n + 1) 1) 1 (W8 (128 :: List.replicate (zlen n) 0)) := Own.t (.inr ⟨_, _, rfl, by simp [W8], Nat.le_refl _, o4⟩)
  refine AO_appendT (bytes := 1) (f := H.length) hu hx.rd.cells rfl (by omega) (Nat.mod_one _) (Nat.le_refl _) (by have := k4.1; omega) (by rw [W8_length, W8_length, beB_length]; simp; omega) rfl rfl ?_
  rintro q n' H5 hq h5 c5
  rw [← W8_append, ← hpad, W8B8 (padN_lt n)] at h5
  (repeat (first | refine GOS ?_ | (with_reducible (first | apply AO_any | apply AHd_any | apply AP_go | apply AHP_go); focus (simp only [Sm, wantedA, execA, stepA, List.getElem?_cons_zero, List.getElem?_cons_succ, if_true, if_false, binA, binInt, unA, eqA, Option.map, eq_self, reduceCtorEq, ite_true, ite_false, cellsAV, fitsAll, CK.fits, fillA, AV.cells, writeN, sliceCells, appendA, lenA, i64, loA, hiA, Nat.reduceAdd, Nat.reduceMul, Nat.reduceDiv, Nat.reduceSub, Nat.reduceLeDiff, Nat.reduceLT, Int.reduceLE, Int.reduceLT, foldA, maxA, minA, Int.reduceBEq, Int.reduceBNe, Int.reduceGT, Int.reduceGE, Int.reduceEq, Int.reduceNe, Int.reduceToNat, AOp.stops, ↓want_eq, ↓exec_lenX, ↓exec_storeX, ↓exec_storeN, storeN_one, ↓exec_bsX, ↓exec_sliceX, ↓exec_copyX, ↓exec_appNil, ↓exec_carryX, Nat.sub_zero, rep_len, bsX_rd h5.rd]; with_reducible first | exact EqP.at_ | exact EqP.cont | exact EqP.hcont | exact EqP.gate | exact EqP.hgate))))
  exact AW_ret ⟨_, rfl, rfl⟩
end PK

/- SHA-256: a hash: New and Add, walked. -/
namespace PK
open Go PAbs
set_option linter.unusedSimpArgs false
set_option linter.unusedVariables false
set_option maxRecDepth 100000
set_option maxHeartbeats 4000000

theorem FeedAt.new_ (H : AHeap) (size : Nat) (lazy : Bool) : FeedAt (H ++ [Blk.own [.int .i64 (size : Int), .bool lazy, .snil, .int .i64 0]]) H.length .snil size lazy [] 0 := ⟨hown_last, OwnT.nil, inX_snil⟩
theorem BB.get_ {n : Nat} {H : AHeap} {y : Cell} {zs : List Cell} {bs : List (List UInt8)} (h : BB n H y zs bs) {i m : Nat} {b : List UInt8} (hb : bs[i]? = some b) (hm : bs.length = m) : ∃ s o full z, y = .slc s o m 1 ∧ hcells H s = some full ∧ full[o + i]? = some z ∧ Rd H z 1 (B8 b) := by
  have hi : i < zs.length := by rw [h.2.1]; exact (List.getElem?_eq_some_iff.mp hb).1
  obtain ⟨s, o, full, e, hf, hg⟩ := h.1.rd.get hi
  have hz : zs[i]? = some zs[i] := List.getElem?_eq_getElem hi
  exact ⟨s, o, full, zs[i], by rw [e, h.2.1, hm], hf, by rw [hg, hz], (h.2.2 i _ _ hz hb).rd⟩
theorem storeN_tail {n fl p : Nat} {H : AHeap} {c : Cell} {cs vs : List Cell} (hb : hown H p = some (c :: cs)) (hf : fl ≤ p) (hc : cs.length = n) (hv : vs.length = n) : storeN n fl H (.c (.ptr p 1)) (.agg vs) = some (aundef, H.set p (.own (c :: vs))) := by
  simp only [storeN, AV.cells, writeN, hb, hv, if_true]
  rw [if_pos ⟨hf, by simp only [List.length_cons]; omega⟩, List.drop_eq_nil_of_le (by simp only [List.length_cons]; omega)]; simp
theorem storeN_tail_ex {n fl p : Nat} {H : AHeap} {c : Cell} {cs : List Cell} (ho : hown H p = some (c :: cs)) (hf : fl ≤ p) (hc : cs.length = n) (vs : List Cell) (hv : vs.length = n) :
    ∃ H', storeN n fl H (.c (.ptr p 1)) (.agg vs) = some (aundef, H') ∧ hown H' p = some (c :: vs) ∧ Chg (· = p) H H' ∧ H'.length = H.length :=
  ⟨_, storeN_tail ho hf hc hv, hown_set (hown_lt ho), Chg.set rfl, by simp⟩
theorem readN_tail {n p : Nat} {H : AHeap} {c : Cell} {cs : List Cell} (ho : hcells H p = some (c :: cs)) (hc : cs.length = n) : readN H p 1 n = some cs := by
  subst hc; simp [readN, ho]; omega

def toN (b : List UInt8) : List Nat := b.map UInt8.toNat
theorem B8_toN (b : List UInt8) : B8 b = W8 (toN b) := by simp [B8, W8, toN]
theorem toN_lt (b : List UInt8) (k : Nat) : (toN b).getD k 0 < 256 := by
  refine getD_lt_of (by decide) (fun x hx => ?_) k
  simp only [toN, List.mem_map] at hx
  obtain ⟨u, _, rfl⟩ := hx
  exact u.toNat_lt
theorem toN_length (b : List UInt8) : (toN b).length = b.length := by simp [toN]
theorem tk16 {bs : List Nat} (hl : bs.length = 64) : Wd 16 (tk 4 (3 - ·) bs bs.length) := ⟨by rw [tk_length, hl], tk_lt 4 _ _ _⟩
def stO (st : List Nat) (bl : List (List UInt8)) : List Nat := bl.foldl (fun s b => compO s (toN b)) st
theorem stO_wd {st : List Nat} (h : Wd 8 st) (bl : List (List UInt8)) : Wd 8 (stO st bl) := by
  induction bl generalizing st with
  | nil => exact h
  | cons b l ih => exact ih (compO_wd h)
theorem stO_succ {st : List Nat} {bl : List (List UInt8)} {i : Nat} {b : List UInt8} (h : bl[i]? = some b) : stO st (bl.take (i + 1)) = compO (stO st (bl.take i)) (toN b) := by
  rw [List.take_add_one, h]; simp [stO]
theorem blk_len {all : List UInt8} {k i : Nat} {b : List UInt8} (hk : k * 64 ≤ all.length) (h : (blks 64 all k)[i]? = some b) : b.length = 64 := by
  have hi : i < k := by have := (List.getElem?_eq_some_iff.mp h).1; rwa [blks_length] at this
  simp only [blks, List.getElem?_map, List.getElem?_range hi, Option.map_some, Option.some.injEq] at h
  subst h
  simp only [blk, List.length_take, List.length_drop]
  have : (i + 1) * 64 ≤ k * 64 := Nat.mul_le_mul_right _ hi
  omega

structure HashAt (H : AHeap) (q p : Nat) (x : Cell) (st : List Nat) (held : List UInt8) (total : Nat) : Prop where
  own : hown H q = some (.ptr p 0 :: W32 st)
  feed : FeedAt H p x 64 false held total
  ne : q ≠ p
  nx : ¬ inX x q
  wd : Wd 8 st
theorem HashAt.chg {S : Nat → Prop} {H H' : AHeap} {q p : Nat} {x : Cell} {st : List Nat} {held : List UInt8} {total : Nat} (h : HashAt H q p x st held total) (hc : Chg S H H') (hq : ¬ S q) (hp : ¬ S p) (hx : ∀ b, inX x b → ¬ S b) : HashAt H' q p x st held total :=
  ⟨hc.hown hq h.own, h.feed.chg hc hp hx, h.ne, h.nx, h.wd⟩

theorem AC_shaNew (H : AHeap) : AC A H.length F_sha_New [] H (fun v H' => ∃ q p, v = .c (.ptr q 0) ∧ H.length ≤ q ∧ H.length ≤ p ∧ HashAt H' q p .snil Is [] 0) := by
  refine AC_enter t_sha_New ?_; simp only [c_sha_New, enterA, List.replicate, List.length_cons, List.length_nil, Nat.reduceAdd, Nat.reduceSub, List.cons_append, List.nil_append]
  refine GO ?_
  refine AO_call rfl (AC_feed_New H.length H 64 false) ?_
  rintro v H1 (⟨hbad, rfl, rfl⟩ | ⟨h1, h2, rfl, rfl⟩)
  · omega
  have hF1 : FeedAt (H ++ [Blk.own [.int .i64 64, .bool false, .snil, .int .i64 0]]) H.length .snil 64 false [] 0 := FeedAt.new_ H 64 false
  have l1 : (H ++ [Blk.own [.int .i64 64, .bool false, .snil, .int .i64 0]]).length = H.length + 1 := by simp
  generalize H ++ [Blk.own [.int .i64 64, .bool false, .snil, .int .i64 0]] = H1 at *
  refine GO ?_
  refine AO_call rfl (((AC_Initial H1).kept (Nat.le_refl _)).floor (by omega)) ?_
  rintro _ H2 ⟨rfl, k2⟩
  have hF2 := hF1.chg (Chg.of_kept k2) (fun h => h) (fun _ _ h => h)
  have hI := Is_wd
  have hIl := hI.len
  generalize Is = st at *
  have tk8 : (W32 st).drop 8 = [] := List.drop_eq_nil_of_le (by omega)
  have tt8 : (W32 st).take 8 = W32 st := List.take_of_length_le (by omega)
  (repeat (first | refine GOS ?_ | (with_reducible (first | apply AO_any | apply AHd_any | apply AP_go | apply AHP_go); focus (simp only [Sm, wantedA, execA, stepA, List.getElem?_cons_zero, List.getElem?_cons_succ, if_true, if_false, binA, binInt, unA, eqA, Option.map, eq_self, reduceCtorEq, ite_true, ite_false, cellsAV, fitsAll, CK.fits, fillA, AV.cells, writeN, sliceCells, appendA, lenA, i64, loA, hiA, Nat.reduceAdd, Nat.reduceMul, Nat.reduceDiv, Nat.reduceSub, Nat.reduceLeDiff, Nat.reduceLT, Int.reduceLE, Int.reduceLT, foldA, maxA, minA, Int.reduceBEq, Int.reduceBNe, Int.reduceGT, Int.reduceGE, Int.reduceEq, Int.reduceNe, Int.reduceToNat, AOp.stops, ↓want_eq, ↓exec_lenX, ↓exec_storeX, ↓exec_storeN, storeN_one, ↓exec_bsX, ↓exec_sliceX, ↓exec_copyX, ↓exec_appNil, ↓exec_carryX, Nat.sub_zero, rep_len, hIl, tk8, tt8]; with_reducible first | exact EqP.at_ | exact EqP.cont | exact EqP.hcont | exact EqP.gate | exact EqP.hgate))))
  have l2 := k2.1
  refine AW_ret ⟨_, rfl, H2.length, H.length, rfl, by omega, Nat.le_refl _, hown_last, hF2.chg (Chg.push none_ _ _) (fun h => h) (fun _ _ h => h), by omega, inX_snil, hI⟩

theorem AC_Compress' (H : AHeap) (y : Cell) (s : List Nat) (b : List UInt8) (hs : Wd 8 s) (hy : Rd H y 1 (B8 b)) (hl : b.length = 64) :
    AC A H.length F_sha_Compress [.agg (W32 s), .c y] H (fun v H' => v = .tup [.agg (W32 (compO s (toN b))), .c (.int .i64 0)] ∧ Kept H.length H H') :=
  (AC_Compress H y s (toN b) hs (by rw [← B8_toN]; exact hy) (by rw [toN_length]; exact hl) (toN_lt b) (tk16 (by rw [toN_length]; exact hl))).kept (Nat.le_refl _)


def addI (q p n : Nat) (y : Cell) (st : List Nat) (bl : List (List UInt8)) (H0 : AHeap) (i : Nat) (fr : AFrame) (H : AHeap) : Prop := Chg (· = q) H0 H ∧ hown H q = some (.ptr p 0 :: W32 (stO st (bl.take i))) ∧ (∃ s : Nat → AV, fr = [.c (.ptr q 0), s 1, s 2, s 3, s 4, s 5, s 6, s 7, s 8, s 9, s 10, s 11, s 12, s 13, .c y, .c (.int .i64 (n : Int)), .c (.int .i64 (i : Int)), s 17, s 18, s 19, s 20, s 21, s 22, s 23, s 24, s 25, s 26, s 27, s 28, s 29, s 30, s 31, s 32, s 33])
theorem AC_shaAdd (fl : Nat) (H : AHeap) (q p : Nat) (x y : Cell) (st : List Nat) (held : List UInt8) (total : Nat) (ss : List (List UInt8)) (hH : HashAt H q p x st held total) (hfq : fl ≤ q) (hfp : fl ≤ p) (hfx : ∀ b, inX x b → fl ≤ b)
    (hy : Rd H y 1 (ss.map Cell.str)) (hyp : ¬ inX y p) (hyx : ∀ b, inX y b → ¬ inX x b) (hl : ss.length ≤ 1000000) (hb : held.length + ss.flatten.length ≤ 1000000000) (ht : total ≤ 1000000000) (hn : held.length < 64) :
    AC A fl F_sha_Hash_Add [.c (.ptr q 0), .c y] H (fun v H' => ∃ x', v = .c (.ptr q 0) ∧
      HashAt H' q p x' (stO st (blks 64 (held ++ ss.flatten) ((held ++ ss.flatten).length / 64))) ((held ++ ss.flatten).drop ((held ++ ss.flatten).length / 64 * 64)) (total + ss.flatten.length) ∧
      Chg (fun b => b = q ∨ b = p ∨ inX x b) H H' ∧ ∀ b, inX x' b → H.length ≤ b) := by
  have hcq := hcells_own hH.own
  have hql := hown_lt hH.own
  have hpl := hown_lt hH.feed.1
  have hne := hH.ne
  have hnx := hH.nx
  have hwd := hH.wd
  have hn0 : nb 64 false held.length = 0 := by simp only [nb]; simp; omega
  have hnb : nb 64 false (held ++ ss.flatten).length = (held ++ ss.flatten).length / 64 := rfl
  have hkl : (held ++ ss.flatten).length / 64 * 64 ≤ (held ++ ss.flatten).length := Nat.div_mul_le_self _ _
  have hkb : (held ++ ss.flatten).length ≤ 1000000000 := by rw [List.length_append]; exact hb
  refine AC_enter t_sha_Hash_Add ?_; simp only [c_sha_Hash_Add, enterA, List.replicate, List.length_cons, List.length_nil, Nat.reduceAdd, Nat.reduceSub, List.cons_append, List.nil_append]
  (repeat (first | refine GOS ?_ | (with_reducible (first | apply AO_any | apply AHd_any | apply AP_go | apply AHP_go); focus (simp only [Sm, wantedA, execA, stepA, List.getElem?_cons_zero, List.getElem?_cons_succ, if_true, if_false, binA, binInt, unA, eqA, Option.map, eq_self, reduceCtorEq, ite_true, ite_false, cellsAV, fitsAll, CK.fits, fillA, AV.cells, writeN, sliceCells, appendA, lenA, i64, loA, hiA, Nat.reduceAdd, Nat.reduceMul, Nat.reduceDiv, Nat.reduceSub, Nat.reduceLeDiff, Nat.reduceLT, Int.reduceLE, Int.reduceLT, foldA, maxA, minA, Int.reduceBEq, Int.reduceBNe, Int.reduceGT, Int.reduceGE, Int.reduceEq, Int.reduceNe, Int.reduceToNat, AOp.stops, ↓want_eq, ↓exec_lenX, ↓exec_storeX, ↓exec_storeN, storeN_one, ↓exec_bsX, ↓exec_sliceX, ↓exec_copyX, ↓exec_appNil, ↓exec_carryX, Nat.sub_zero, rep_len, hcq]; with_reducible first | exact EqP.at_ | exact EqP.cont | exact EqP.hcont | exact EqP.gate | exact EqP.hgate))))
  refine AO_call rfl (AC_feed_Put fl H p x y 64 false held total ss hH.feed hfp hfx hy hyp hyx (by omega) (by omega) hl hb ht hn0) ?_
  rintro v H1 ⟨x', y', zs, rfl, hF1, c1, hx1, hBB, hap⟩
  rw [hnb] at hF1 hBB
  have hbll := blks_length (size := 64) (all := held ++ ss.flatten) (k := (held ++ ss.flatten).length / 64)
  have hbl64 : ∀ (i : Nat) (b : List UInt8), (blks 64 (held ++ ss.flatten) ((held ++ ss.flatten).length / 64))[i]? = some b → b.length = 64 := fun i b h => blk_len hkl h
  have hnk : (held ++ ss.flatten).length / 64 ≤ 1000000000 := by omega
  generalize (held ++ ss.flatten).length / 64 = n at *
  generalize blks 64 (held ++ ss.flatten) n = bl at *
  have o1 := c1.hown (by rintro (h | h); exact hne h; exact hnx h) hH.own
  have ly := hBB.1.rd.len n (by rw [hBB.2.1, hbll, Nat.mul_one]) (by decide)
  (repeat (first | refine GOS ?_ | (with_reducible (first | apply AO_any | apply AHd_any | apply AP_go | apply AHP_go); focus (simp only [Sm, wantedA, execA, stepA, List.getElem?_cons_zero, List.getElem?_cons_succ, if_true, if_false, binA, binInt, unA, eqA, Option.map, eq_self, reduceCtorEq, ite_true, ite_false, cellsAV, fitsAll, CK.fits, fillA, AV.cells, writeN, sliceCells, appendA, lenA, i64, loA, hiA, Nat.reduceAdd, Nat.reduceMul, Nat.reduceDiv, Nat.reduceSub, Nat.reduceLeDiff, Nat.reduceLT, Int.reduceLE, Int.reduceLT, foldA, maxA, minA, Int.reduceBEq, Int.reduceBNe, Int.reduceGT, Int.reduceGE, Int.reduceEq, Int.reduceNe, Int.reduceToNat, AOp.stops, ↓want_eq, ↓exec_lenX, ↓exec_storeX, ↓exec_storeN, storeN_one, ↓exec_bsX, ↓exec_sliceX, ↓exec_copyX, ↓exec_appNil, ↓exec_carryX, Nat.sub_zero, rep_len, ly]; with_reducible first | exact EqP.at_ | exact EqP.cont | exact EqP.hcont | exact EqP.gate | exact EqP.hgate))))
  refine AW_mid (fun e fr H' => e = .normal ∧ addI q p n y' st bl H1 n fr H') ?_ ?_
  · refine AW_block (AW_up (addI q p n y' st bl H1) n ⟨Chg.refl _ _, o1, stale _ _ rfl⟩ ?_)
    rintro i fr H2 hi ⟨c2, o2, ste, rfl⟩
    have hBB2 := hBB.chg c2 (fun b hb e => by have := hBB.le hb; omega)
    refine GO ?_
    refine AW_cond rfl ?_ ?_ <;> intro ht
    · have ht : (i : Int) < n := of_decide_eq_true ht
      have hi2 : i < n := by omega
      obtain ⟨b, hb⟩ : ∃ b, bl[i]? = some b := ⟨_, List.getElem?_eq_getElem (by omega)⟩
      obtain ⟨s1, o, f1, z1, rfl, g1, g2, g3⟩ := BB.get_ hBB2 hb hbll
      have hsw := stO_wd hwd (bl.take i)
      have hsucc := stO_succ (st := st) hb
      generalize stO st (bl.take i) = si at *
      have hc2 := hcells_own o2
      have r2 := readN_tail (n := 8) hc2 hsw.len
      (repeat (first | refine GOS ?_ | (with_reducible (first | apply AO_any | apply AHd_any | apply AP_go | apply AHP_go); focus (simp only [Sm, wantedA, execA, stepA, List.getElem?_cons_zero, List.getElem?_cons_succ, if_true, if_false, binA, binInt, unA, eqA, Option.map, eq_self, reduceCtorEq, ite_true, ite_false, cellsAV, fitsAll, CK.fits, fillA, AV.cells, writeN, sliceCells, appendA, lenA, i64, loA, hiA, Nat.reduceAdd, Nat.reduceMul, Nat.reduceDiv, Nat.reduceSub, Nat.reduceLeDiff, Nat.reduceLT, Int.reduceLE, Int.reduceLT, foldA, maxA, minA, Int.reduceBEq, Int.reduceBNe, Int.reduceGT, Int.reduceGE, Int.reduceEq, Int.reduceNe, Int.reduceToNat, AOp.stops, ↓want_eq, ↓exec_lenX, ↓exec_storeX, ↓exec_storeN, storeN_one, ↓exec_bsX, ↓exec_sliceX, ↓exec_copyX, ↓exec_appNil, ↓exec_carryX, Nat.sub_zero, rep_len, g1, g2, ht, hc2, ↓r2]; with_reducible first | exact EqP.at_ | exact EqP.cont | exact EqP.hcont | exact EqP.gate | exact EqP.hgate))))
      refine AO_call rfl ((AC_Compress' H2 z1 si b hsw g3 (hbl64 i b hb)).floor (by have := c2.1; have := c1.1; omega)) ?_
      rintro _ H3 ⟨rfl, k3⟩
      have hcw := compO_wd (bs := toN b) hsw
      rw [← hsucc] at hcw
      have ek : compO si (toN b) = stO st (bl.take (i + 1)) := hsucc.symm
      have o3 := (Chg.of_kept k3).hown (fun h => h) o2
      have hc3 := hcells_own o3
      obtain ⟨H4, s4, o4, c4, l4⟩ := storeN_tail_ex o3 hfq hsw.len (W32 (stO st (bl.take (i + 1)))) hcw.len
      (repeat (first | refine GOS ?_ | (with_reducible (first | apply AO_any | apply AHd_any | apply AP_go | apply AHP_go); focus (simp only [Sm, wantedA, execA, stepA, List.getElem?_cons_zero, List.getElem?_cons_succ, if_true, if_false, binA, binInt, unA, eqA, Option.map, eq_self, reduceCtorEq, ite_true, ite_false, cellsAV, fitsAll, CK.fits, fillA, AV.cells, writeN, sliceCells, appendA, lenA, i64, loA, hiA, Nat.reduceAdd, Nat.reduceMul, Nat.reduceDiv, Nat.reduceSub, Nat.reduceLeDiff, Nat.reduceLT, Int.reduceLE, Int.reduceLT, foldA, maxA, minA, Int.reduceBEq, Int.reduceBNe, Int.reduceGT, Int.reduceGE, Int.reduceEq, Int.reduceNe, Int.reduceToNat, AOp.stops, ↓want_eq, ↓exec_lenX, ↓exec_storeX, ↓exec_storeN, storeN_one, ↓exec_bsX, ↓exec_sliceX, ↓exec_copyX, ↓exec_appNil, ↓exec_carryX, Nat.sub_zero, rep_len, ek, hc3, s4, i64_succ (show i < 9223372036854775807 by omega)]; with_reducible first | exact EqP.at_ | exact EqP.cont | exact EqP.hcont | exact EqP.gate | exact EqP.hgate))))
      exact ⟨hi2, (c2.trans (Chg.of_kept k3) (fun _ _ h => h.elim)).trans c4 (fun _ _ h => h), o4, stale _ _ rfl⟩
    · obtain rfl : i = n := by have : ¬ (i : Int) < n := of_decide_eq_false ht; omega
      exact AW_exit ⟨rfl, c2, o2, stale _ _ rfl⟩
  rintro e fr H2 ⟨rfl, c2, o2, ste, rfl⟩
  rw [List.take_of_length_le (by omega)] at o2
  refine GO ?_
  refine AW_ret ⟨_, rfl, x', rfl, ⟨o2, hF1.chg c2 (fun e => hne e.symm) (fun b hb e => by have := hx1 b hb; omega), hne, fun h => by have := hx1 _ h; omega, stO_wd hwd _⟩, ?_, hx1⟩
  exact (c1.mono (T := fun b => b = q ∨ b = p ∨ inX x b) fun b _ h => .inr h).trans c2 fun b _ h => .inl h
end PK

/- The document's Bytes, Joined, Blocks: walked; feeds that are nil. -/

namespace PK
open Go PAbs
set_option linter.unusedSimpArgs false
set_option linter.unusedVariables false
set_option maxRecDepth 100000
set_option maxHeartbeats 4000000

section
variable (H : AHeap)
end
end PK

/- SHA-256: Clone, Sum, Of; the document's test. -/
namespace PK
open Go PAbs
set_option linter.unusedSimpArgs false
set_option linter.unusedVariables false
set_option maxRecDepth 100000
set_option maxHeartbeats 4000000

theorem AC_shaClone (H : AHeap) (q p : Nat) (x : Cell) (st : List Nat) (held : List UInt8) (total : Nat) (hH : HashAt H q p x st held total) (hb : held.length ≤ 1000000) :
    AC A H.length F_sha_Hash_Clone [.c (.ptr q 0)] H (fun v H' => ∃ q' p' x', v = .c (.ptr q' 0) ∧ H.length ≤ q' ∧ H.length ≤ p' ∧ HashAt H' q' p' x' st held total ∧ ∀ b, inX x' b → H.length ≤ b) := by
  have hcq := hcells_own hH.own
  have hql := hown_lt hH.own
  have hIl := hH.wd.len
  have tk8 : (W32 st).drop 8 = [] := List.drop_eq_nil_of_le (by omega)
  have tt8 : (W32 st).take 8 = W32 st := List.take_of_length_le (by omega)
  refine AC_enter t_sha_Hash_Clone ?_; simp only [c_sha_Hash_Clone, enterA, List.replicate, List.length_cons, List.length_nil, Nat.reduceAdd, Nat.reduceSub, List.cons_append, List.nil_append]
  (repeat (first | refine GOS ?_ | (with_reducible (first | apply AO_any | apply AHd_any | apply AP_go | apply AHP_go); focus (simp only [Sm, wantedA, execA, stepA, List.getElem?_cons_zero, List.getElem?_cons_succ, if_true, if_false, binA, binInt, unA, eqA, Option.map, eq_self, reduceCtorEq, ite_true, ite_false, cellsAV, fitsAll, CK.fits, fillA, AV.cells, writeN, sliceCells, appendA, lenA, i64, loA, hiA, Nat.reduceAdd, Nat.reduceMul, Nat.reduceDiv, Nat.reduceSub, Nat.reduceLeDiff, Nat.reduceLT, Int.reduceLE, Int.reduceLT, foldA, maxA, minA, Int.reduceBEq, Int.reduceBNe, Int.reduceGT, Int.reduceGE, Int.reduceEq, Int.reduceNe, Int.reduceToNat, AOp.stops, ↓want_eq, ↓exec_lenX, ↓exec_storeX, ↓exec_storeN, storeN_one, ↓exec_bsX, ↓exec_sliceX, ↓exec_copyX, ↓exec_appNil, ↓exec_carryX, Nat.sub_zero, rep_len, hcq]; with_reducible first | exact EqP.at_ | exact EqP.cont | exact EqP.hcont | exact EqP.gate | exact EqP.hgate))))
  refine AHd_call rfl (AC_feed_Copy H p x 64 false held total hH.feed (by omega)) ?_
  rintro _ H1 ⟨p', rfl, hp', x', hF1, hx'⟩ k1
  have hH1 := hH.chg (Chg.of_kept k1) (fun h => h) (fun h => h) (fun _ _ h => h)
  have hc1 := hcells_own hH1.own
  have r1 := readN_tail (n := 8) hc1 hIl
  have hp1 := hown_lt hF1.1
  have hx1 : ∀ b, inX x' b → b < H1.length := fun b hb => hF1.2.1.lt hb
  have l1 := k1.1
  (repeat (first | refine GOS ?_ | (with_reducible (first | apply AO_any | apply AHd_any | apply AP_go | apply AHP_go); focus (simp only [Sm, wantedA, execA, stepA, List.getElem?_cons_zero, List.getElem?_cons_succ, if_true, if_false, binA, binInt, unA, eqA, Option.map, eq_self, reduceCtorEq, ite_true, ite_false, cellsAV, fitsAll, CK.fits, fillA, AV.cells, writeN, sliceCells, appendA, lenA, i64, loA, hiA, Nat.reduceAdd, Nat.reduceMul, Nat.reduceDiv, Nat.reduceSub, Nat.reduceLeDiff, Nat.reduceLT, Int.reduceLE, Int.reduceLT, foldA, maxA, minA, Int.reduceBEq, Int.reduceBNe, Int.reduceGT, Int.reduceGE, Int.reduceEq, Int.reduceNe, Int.reduceToNat, AOp.stops, ↓want_eq, ↓exec_lenX, ↓exec_storeX, ↓exec_storeN, storeN_one, ↓exec_bsX, ↓exec_sliceX, ↓exec_copyX, ↓exec_appNil, ↓exec_carryX, Nat.sub_zero, rep_len, hc1, ↓r1, hIl, tk8, tt8]; with_reducible first | exact EqP.at_ | exact EqP.cont | exact EqP.hcont | exact EqP.gate | exact EqP.hgate))))
  exact AW_ret ⟨_, rfl, H1.length, p', x', rfl, by omega, hp', ⟨hown_last, hF1.chg (Chg.push none_ _ _) (fun h => h) (fun _ _ h => h), by omega, fun h => by have := hx1 _ h; omega, hH.wd⟩, hx'⟩

def outO (st : List Nat) : List UInt8 := (flat (beB 4) st st.length).map UInt8.ofNat
theorem flat_lt {g : Nat → List Nat} (hg : ∀ w, ∀ b ∈ g w, b < 256) (xs : List Nat) : ∀ n, ∀ b ∈ flat g xs n, b < 256
  | 0, b, h => by simp [flat] at h
  | n + 1, b, h => by
    simp only [flat, List.mem_append] at h
    rcases h with h | h
    · exact flat_lt hg xs n b h
    · exact hg _ b h
theorem beB_lt (k w : Nat) : ∀ b ∈ beB k w, b < 256 := fun b h => leB_lt (List.mem_reverse.mp h)
def sumO (st : List Nat) (held : List UInt8) (total : Nat) : List UInt8 := outO (stO st (blks 64 (held ++ padB total) ((held ++ padB total).length / 64)))

theorem AC_shaSum (H : AHeap) (q p : Nat) (x : Cell) (st : List Nat) (held : List UInt8) (total : Nat) (hH : HashAt H q p x st held total) (hb : held.length < 64) (ht : total ≤ 1000000000) :
    AC A H.length F_sha_Hash_Sum [.c (.ptr q 0)] H (fun v H' => v = .c (.str (sumO st held total))) := by
  have hcq := hcells_own hH.own
  have hql := hown_lt hH.own
  refine AC_enter t_sha_Hash_Sum ?_; simp only [c_sha_Hash_Sum, enterA, List.replicate, List.length_cons, List.length_nil, Nat.reduceAdd, Nat.reduceSub, List.cons_append, List.nil_append]
  (repeat (first | refine GOS ?_ | (with_reducible (first | apply AO_any | apply AHd_any | apply AP_go | apply AHP_go); focus (simp only [Sm, wantedA, execA, stepA, List.getElem?_cons_zero, List.getElem?_cons_succ, if_true, if_false, binA, binInt, unA, eqA, Option.map, eq_self, reduceCtorEq, ite_true, ite_false, cellsAV, fitsAll, CK.fits, fillA, AV.cells, writeN, sliceCells, appendA, lenA, i64, loA, hiA, Nat.reduceAdd, Nat.reduceMul, Nat.reduceDiv, Nat.reduceSub, Nat.reduceLeDiff, Nat.reduceLT, Int.reduceLE, Int.reduceLT, foldA, maxA, minA, Int.reduceBEq, Int.reduceBNe, Int.reduceGT, Int.reduceGE, Int.reduceEq, Int.reduceNe, Int.reduceToNat, AOp.stops, ↓want_eq, ↓exec_lenX, ↓exec_storeX, ↓exec_storeN, storeN_one, ↓exec_bsX, ↓exec_sliceX, ↓exec_copyX, ↓exec_appNil, ↓exec_carryX, Nat.sub_zero, rep_len, hcq]; with_reducible first | exact EqP.at_ | exact EqP.cont | exact EqP.hcont | exact EqP.gate | exact EqP.hgate))))
  refine AO_call rfl ((AC_shaClone H q p x st held total hH (by omega)).kept (Nat.le_refl _)) ?_
  rintro _ H1 ⟨⟨q', p', x', rfl, hq', hp', hH1, hx'⟩, k1⟩
  have hH2 := hH.chg (Chg.of_kept k1) (fun h => h) (fun h => h) (fun _ _ h => h)
  have hc2 := hcells_own hH2.own
  (repeat (first | refine GOS ?_ | (with_reducible (first | apply AO_any | apply AHd_any | apply AP_go | apply AHP_go); focus (simp only [Sm, wantedA, execA, stepA, List.getElem?_cons_zero, List.getElem?_cons_succ, if_true, if_false, binA, binInt, unA, eqA, Option.map, eq_self, reduceCtorEq, ite_true, ite_false, cellsAV, fitsAll, CK.fits, fillA, AV.cells, writeN, sliceCells, appendA, lenA, i64, loA, hiA, Nat.reduceAdd, Nat.reduceMul, Nat.reduceDiv, Nat.reduceSub, Nat.reduceLeDiff, Nat.reduceLT, Int.reduceLE, Int.reduceLT, foldA, maxA, minA, Int.reduceBEq, Int.reduceBNe, Int.reduceGT, Int.reduceGE, Int.reduceEq, Int.reduceNe, Int.reduceToNat, AOp.stops, ↓want_eq, ↓exec_lenX, ↓exec_storeX, ↓exec_storeN, storeN_one, ↓exec_bsX, ↓exec_sliceX, ↓exec_copyX, ↓exec_appNil, ↓exec_carryX, Nat.sub_zero, rep_len, hc2]; with_reducible first | exact EqP.at_ | exact EqP.cont | exact EqP.hcont | exact EqP.gate | exact EqP.hgate))))
  refine AO_call rfl ((AC_feed_Total H1 p x 64 false held total hH2.feed).floor (by have := k1.1; omega)) ?_
  rintro _ _ ⟨rfl, rfl⟩
  refine GO ?_
  refine AO_call rfl (((AC_shaPad H1 total (by omega)).kept (Nat.le_refl _)).floor (by have := k1.1; omega)) ?_
  rintro _ H3 ⟨rfl, k3⟩
  have hH3 := hH1.chg (Chg.of_kept k3) (fun h => h) (fun h => h) (fun _ _ h => h)
  have hpl := padB_length total
  have hzl : zlen total < 64 := Nat.mod_lt _ (by decide)
  refine GO ?_
  have cx : Chg none_ H3 (H3 ++ [Blk.own [Cell.str (padB total)]]) := Chg.push _ _ _
  have hH4 := hH3.chg cx (fun h => h) (fun h => h) (fun _ _ h => h)
  have hy : Rd (H3 ++ [Blk.own [Cell.str (padB total)]]) (.slc H3.length 0 1 1) 1 ([padB total].map Cell.str) := (Own.one (f := 0) (Nat.zero_le _)).rd
  have hq3 := hown_lt hH3.own
  have hp3 := hown_lt hH3.feed.1
  have hx3 : ∀ b, inX x' b → b < H3.length := fun b hb => hH3.feed.2.1.lt hb
  have l3 := k3.1
  have l1 := k1.1
  have hfl : [padB total].flatten = padB total := by simp
  have hsum : sumO st held total = outO (stO st (blks 64 (held ++ padB total) ((held ++ padB total).length / 64))) := rfl
  refine AO_call rfl (AC_shaAdd H.length _ q' p' x' _ st held total [padB total] hH4 hq' hp' hx' hy (fun h => by have := inX_slc.mp h; omega) (fun b h h2 => by have := inX_slc.mp h; have := hx3 b h2; omega) (by simp) (by rw [hfl]; omega) (by omega) hb) ?_
  rw [hfl]
  rintro _ H5 ⟨x5, rfl, hH5, c5, hx5⟩
  rw [hsum]
  have hwd := hH5.wd
  generalize stO st (blks 64 (held ++ padB total) ((held ++ padB total).length / 64)) = r at *
  have hc5 := hcells_own hH5.own
  have hq5 := hown_lt hH5.own
  have lr : (Cell.ptr p' 0 :: W32 r).length = 9 := by rw [List.length_cons, hwd.len]
  (repeat (first | refine GOS ?_ | (with_reducible (first | apply AO_any | apply AHd_any | apply AP_go | apply AHP_go); focus (simp only [Sm, wantedA, execA, stepA, List.getElem?_cons_zero, List.getElem?_cons_succ, if_true, if_false, binA, binInt, unA, eqA, Option.map, eq_self, reduceCtorEq, ite_true, ite_false, cellsAV, fitsAll, CK.fits, fillA, AV.cells, writeN, sliceCells, appendA, lenA, i64, loA, hiA, Nat.reduceAdd, Nat.reduceMul, Nat.reduceDiv, Nat.reduceSub, Nat.reduceLeDiff, Nat.reduceLT, Int.reduceLE, Int.reduceLT, foldA, maxA, minA, Int.reduceBEq, Int.reduceBNe, Int.reduceGT, Int.reduceGE, Int.reduceEq, Int.reduceNe, Int.reduceToNat, AOp.stops, ↓want_eq, ↓exec_lenX, ↓exec_storeX, ↓exec_storeN, storeN_one, ↓exec_bsX, ↓exec_sliceX, ↓exec_copyX, ↓exec_appNil, ↓exec_carryX, Nat.sub_zero, rep_len, hc5, lr]; with_reducible first | exact EqP.at_ | exact EqP.cont | exact EqP.hcont | exact EqP.gate | exact EqP.hgate))))
  have hr : Rd H5 (.slc q' 1 8 1) 1 (W32 r) := .inr ⟨_, _, _, rfl, by rw [hwd.len], by rw [Nat.mul_one]; exact readN_tail hc5 hwd.len⟩
  refine AO_call rfl ((AC_Big32 H5 _ r hr (by rw [hwd.1]; omega)).floor (by have := c5.1; simp at this; omega)) ?_
  rintro _ H6 ⟨x6, rfl, h6⟩
  rw [W8B8 (flat_lt (beB_lt 4) r r.length)] at h6
  (repeat (first | refine GOS ?_ | (with_reducible (first | apply AO_any | apply AHd_any | apply AP_go | apply AHP_go); focus (simp only [Sm, wantedA, execA, stepA, List.getElem?_cons_zero, List.getElem?_cons_succ, if_true, if_false, binA, binInt, unA, eqA, Option.map, eq_self, reduceCtorEq, ite_true, ite_false, cellsAV, fitsAll, CK.fits, fillA, AV.cells, writeN, sliceCells, appendA, lenA, i64, loA, hiA, Nat.reduceAdd, Nat.reduceMul, Nat.reduceDiv, Nat.reduceSub, Nat.reduceLeDiff, Nat.reduceLT, Int.reduceLE, Int.reduceLT, foldA, maxA, minA, Int.reduceBEq, Int.reduceBNe, Int.reduceGT, Int.reduceGE, Int.reduceEq, Int.reduceNe, Int.reduceToNat, AOp.stops, ↓want_eq, ↓exec_lenX, ↓exec_storeX, ↓exec_storeN, storeN_one, ↓exec_bsX, ↓exec_sliceX, ↓exec_copyX, ↓exec_appNil, ↓exec_carryX, Nat.sub_zero, rep_len, bsX_rd h6.rd]; with_reducible first | exact EqP.at_ | exact EqP.cont | exact EqP.hcont | exact EqP.gate | exact EqP.hgate))))
  exact AW_ret ⟨_, rfl, rfl⟩

def shaO (all : List UInt8) : List UInt8 := sumO (stO Is (blks 64 all (all.length / 64))) (all.drop (all.length / 64 * 64)) all.length
theorem drop_lt (all : List UInt8) : (all.drop (all.length / 64 * 64)).length < 64 := by rw [List.length_drop]; omega
theorem AC_shaOf (H : AHeap) (y : Cell) (ss : List (List UInt8)) (hy : Rd H y 1 (ss.map Cell.str)) (hyl : ∀ b, inX y b → b < H.length) (hl : ss.length ≤ 1000000) (hb : ss.flatten.length ≤ 1000000000) :
    AC A H.length F_sha_Of [.c y] H (fun v H' => v = .c (.str (shaO ss.flatten))) := by
  refine AC_enter t_sha_Of ?_; simp only [c_sha_Of, enterA, List.replicate, List.length_cons, List.length_nil, Nat.reduceAdd, Nat.reduceSub, List.cons_append, List.nil_append]
  refine GO ?_
  refine AO_call rfl ((AC_shaNew H).kept (Nat.le_refl _)) ?_
  rintro _ H1 ⟨⟨q, p, rfl, hq, hp, hH1⟩, k1⟩
  have hy1 := hy.kept k1
  refine GO ?_
  refine AO_call rfl (AC_shaAdd H.length H1 q p .snil y Is [] 0 ss hH1 hq hp (fun b h => absurd h inX_snil) hy1 (fun h => by have := hyl _ h; omega) (fun b h h2 => inX_snil h2) hl (by rw [List.length_nil]; omega) (by omega) (by rw [List.length_nil]; omega)) ?_
  rintro _ H2 ⟨x2, rfl, hH2, c2, hx2⟩
  simp only [List.nil_append, Nat.zero_add] at hH2
  refine GO ?_
  refine AO_call rfl ((AC_shaSum H2 q p x2 _ _ _ hH2 (drop_lt _) hb).floor (by have := c2.1; have := k1.1; omega)) ?_
  rintro _ H3 rfl
  refine GO ?_
  exact AW_ret ⟨_, rfl, rfl⟩
end PK

/- SHA-256: the law's own test; the document's Pad; ShaPads. -/

namespace PK
open Go PAbs
set_option linter.unusedSimpArgs false
set_option linter.unusedVariables false
set_option maxRecDepth 100000
set_option maxHeartbeats 4000000

end PK

/- ShaParts: the plain law; nil hashes; the walk. -/
namespace PK
open Go PAbs
set_option linter.unusedSimpArgs false
set_option linter.unusedVariables false
set_option maxRecDepth 100000
set_option maxHeartbeats 4000000

theorem blks_take {size : Nat} {all : List UInt8} {k n : Nat} (h : n ≤ k) : (blks size all k).take n = blks size all n := by
  simp only [blks, ← List.map_take, List.take_range, Nat.min_eq_left h]
theorem blks_get_ {size : Nat} {all : List UInt8} {k i : Nat} (h : i < k) : (blks size all k)[i]? = some (blk size all i) := by simp [blks, h]
theorem blks_drop_ {size : Nat} {all : List UInt8} {k m : Nat} : blks size (all.drop (k * size)) m = (blks size all (k + m)).drop k := by
  apply List.ext_getElem?
  intro i
  rw [List.getElem?_drop]
  rcases Nat.lt_or_ge i m with h | h
  · rw [blks_get_ h, blks_get_ (by omega)]
    simp only [blk, List.drop_drop, ← Nat.add_mul]
  · rw [List.getElem?_eq_none (by rw [blks_length]; exact h), List.getElem?_eq_none (by rw [blks_length]; omega)]
theorem stO_app {st : List Nat} {a b : List (List UInt8)} : stO st (a ++ b) = stO (stO st a) b := List.foldl_append
def stA (all : List UInt8) : List Nat := stO Is (blks 64 all (all.length / 64))
def heldA (all : List UInt8) : List UInt8 := all.drop (all.length / 64 * 64)
theorem more_of (all s : List UInt8) : stO (stA all) (blks 64 (heldA all ++ s) ((heldA all ++ s).length / 64)) = stA (all ++ s) ∧ (heldA all ++ s).drop ((heldA all ++ s).length / 64 * 64) = heldA (all ++ s) := by
  have h1 : all.length / 64 * 64 ≤ all.length := Nat.div_mul_le_self _ _
  have e1 : heldA all ++ s = (all ++ s).drop (all.length / 64 * 64) := (List.drop_append_of_le_length h1).symm
  have hm : ((all ++ s).drop (all.length / 64 * 64)).length / 64 = (all ++ s).length / 64 - all.length / 64 := by rw [List.length_drop, List.length_append]; omega
  have hle : all.length / 64 ≤ (all ++ s).length / 64 := Nat.div_le_div_right (by rw [List.length_append]; omega)
  rw [e1, hm]
  simp only [stA, heldA]
  generalize hN : (all ++ s).length / 64 = N at *
  generalize hn : all.length / 64 = n at *
  have e2 : blks 64 all n = blks 64 (all ++ s) n := (blks_append h1).symm
  refine ⟨?_, ?_⟩
  · rw [blks_drop_, ← stO_app, e2, ← blks_take (k := n + (N - n)) (by omega), List.take_append_drop, show n + (N - n) = N by omega]
  · rw [List.drop_drop, ← Nat.add_mul, show n + (N - n) = N by omega]
theorem heldA_lt (all : List UInt8) : (heldA all).length < 64 := drop_lt all
def Hashed (H : AHeap) (q p : Nat) (x : Cell) (all : List UInt8) : Prop := HashAt H q p x (stA all) (heldA all) all.length

theorem AC_hashAdd (fl : Nat) (H : AHeap) (q p : Nat) (x y : Cell) (all : List UInt8) (ss : List (List UInt8)) (hH : Hashed H q p x all) (hfq : fl ≤ q) (hfp : fl ≤ p) (hfx : ∀ b, inX x b → fl ≤ b)
    (hy : Rd H y 1 (ss.map Cell.str)) (hyp : ¬ inX y p) (hyx : ∀ b, inX y b → ¬ inX x b) (hl : ss.length ≤ 1000000) (hb : ss.flatten.length ≤ 999999000) (ht : all.length ≤ 1000000000) :
    AC A fl F_sha_Hash_Add [.c (.ptr q 0), .c y] H (fun v H' => ∃ x', v = .c (.ptr q 0) ∧ Hashed H' q p x' (all ++ ss.flatten) ∧
      Chg (fun b => b = q ∨ b = p ∨ inX x b) H H' ∧ ∀ b, inX x' b → H.length ≤ b) := by
  have hh := heldA_lt all
  have h := AC_shaAdd fl H q p x y (stA all) (heldA all) all.length ss hH hfq hfp hfx hy hyp hyx hl (by omega) ht hh
  obtain ⟨m1, m2⟩ := more_of all ss.flatten
  rw [m1, m2, ← List.length_append] at h
  exact h
theorem AC_hashSum (H : AHeap) (q p : Nat) (x : Cell) (all : List UInt8) (hH : Hashed H q p x all) (ht : all.length ≤ 1000000000) :
    AC A H.length F_sha_Hash_Sum [.c (.ptr q 0)] H (fun v H' => v = .c (.str (shaO all)) ∧ Kept H.length H H') :=
  (AC_shaSum H q p x _ _ _ hH (heldA_lt all) ht).kept (Nat.le_refl _)
theorem AC_hashClone (H : AHeap) (q p : Nat) (x : Cell) (all : List UInt8) (hH : Hashed H q p x all) :
    AC A H.length F_sha_Hash_Clone [.c (.ptr q 0)] H (fun v H' => (∃ q' p' x', v = .c (.ptr q' 0) ∧ H.length ≤ q' ∧ H.length ≤ p' ∧ Hashed H' q' p' x' all ∧ ∀ b, inX x' b → H.length ≤ b) ∧ Kept H.length H H') :=
  (AC_shaClone H q p x _ _ _ hH (by have := heldA_lt all; omega)).kept (Nat.le_refl _)
theorem AC_hashNew (H : AHeap) : AC A H.length F_sha_New [] H (fun v H' => (∃ q p, v = .c (.ptr q 0) ∧ H.length ≤ q ∧ H.length ≤ p ∧ Hashed H' q p .snil []) ∧ Kept H.length H H') := (AC_shaNew H).kept (Nat.le_refl _)
theorem Hashed.chg {S : Nat → Prop} {H H' : AHeap} {q p : Nat} {x : Cell} {all : List UInt8} (h : Hashed H q p x all) (hc : Chg S H H') (hq : ¬ S q) (hp : ¬ S p) (hx : ∀ b, inX x b → ¬ S b) : Hashed H' q p x all := HashAt.chg h hc hq hp hx
theorem Hashed.kept {H H' : AHeap} {q p : Nat} {x : Cell} {all : List UInt8} (h : Hashed H q p x all) (k : Kept H.length H H') : Hashed H' q p x all := h.chg (Chg.of_kept k) (fun h => h) (fun h => h) (fun _ _ h => h)
theorem Hashed.xlt {H : AHeap} {q p : Nat} {x : Cell} {all : List UInt8} (h : Hashed H q p x all) {b : Nat} (hb : inX x b) : b < H.length := h.feed.2.1.lt hb

section
variable (fl : Nat) (H : AHeap)
end

end PK

/- SHA-256, the document's: right, shift, spread. -/
namespace PK
open Go PAbs
set_option linter.unusedSimpArgs false
set_option linter.unusedVariables false
set_option maxRecDepth 100000
set_option maxHeartbeats 4000000

section
variable (H : AHeap)

end

/-! bytes taken into words, one by one -/
end PK

/- SHA-256, the document's: Compress. -/
namespace PK
open Go PAbs
set_option linter.unusedSimpArgs false
set_option linter.unusedVariables false
set_option maxRecDepth 100000
set_option maxHeartbeats 4000000

theorem Wd.app {n m : Nat} {l k : List Nat} (h : Wd n l) (h2 : Wd m k) : Wd (n + m) (l ++ k) := by
  refine ⟨by rw [List.length_append, h.1, h2.1], fun i => ?_⟩
  simp only [List.getD_eq_getElem?_getD, List.getElem?_append]
  split
  · have := h.2 i; rwa [List.getD_eq_getElem?_getD] at this
  · have := h2.2 (i - l.length); rwa [List.getD_eq_getElem?_getD] at this
end PK

/- SHA-256, the document's: Known, Sum; ShaSums. -/
namespace PK
open Go PAbs
set_option linter.unusedSimpArgs false
set_option linter.unusedVariables false
set_option maxRecDepth 100000
set_option maxHeartbeats 4000000

end PK

/- Texts put together bit by bit: words.Xor, the document's Mixed and Xor. -/
namespace PK
open Go PAbs
set_option linter.unusedSimpArgs false
set_option linter.unusedVariables false
set_option maxRecDepth 100000
set_option maxHeartbeats 4000000

def xorB (a b : List UInt8) : List UInt8 := List.zipWith (· ^^^ ·) a b
def xorAll : List UInt8 → List (List UInt8) → Option (List UInt8)
  | acc, [] => some acc
  | acc, s :: r => if s.length = acc.length then xorAll (xorB acc s) r else none
def xorL : List (List UInt8) → Option (List UInt8)
  | [] => some []
  | s :: r => xorAll s r
theorem xorB_length {a b : List UInt8} (h : b.length = a.length) : (xorB a b).length = a.length := by simp [xorB, h]
theorem xorAll_length : ∀ {l : List (List UInt8)} {s acc : List UInt8}, xorAll s l = some acc → acc.length = s.length
  | [], s, acc, h => by simp only [xorAll, Option.some.injEq] at h; rw [h]
  | x :: l, s, acc, h => by
    simp only [xorAll] at h
    split at h
    · rename_i hx; rw [xorAll_length h, xorB_length hx]
    · cases h
theorem xorAll_append : ∀ (l m : List (List UInt8)) (s : List UInt8), xorAll s (l ++ m) = (xorAll s l).bind fun acc => xorAll acc m
  | [], m, s => rfl
  | x :: l, m, s => by
    simp only [List.cons_append, xorAll]
    split
    · exact xorAll_append l m _
    · rfl
theorem take_one {α : Type} {l : List α} {i : Nat} {x : α} (h : l[i]? = some x) : l.take (i + 1) = l.take i ++ [x] := by rw [List.take_add_one, h]; rfl
theorem xorAll_step {l : List (List UInt8)} {s acc x : List UInt8} {i : Nat} (h : xorAll s (l.take i) = some acc) (hx : l[i]? = some x) : xorAll s (l.take (i + 1)) = if x.length = acc.length then some (xorB acc x) else none := by
  rw [take_one hx, xorAll_append, h]; rfl
theorem xorAll_stop {l : List (List UInt8)} {s : List UInt8} {i : Nat} (h : xorAll s (l.take i) = none) : xorAll s l = none := by
  rw [← List.take_append_drop i l, xorAll_append, h]; rfl

def mixAt (a x : List UInt8) (k : Nat) : UInt8 := a.getD k 0 ^^^ x.getD k 0
theorem upd_xor {a x : List UInt8} (h : x.length = a.length) : upd (mixAt a x) a a.length = xorB a x := by
  have := upd_eq (f := mixAt a x) (l := a) (m := xorB a x) (by rw [xorB_length h]) ?_
  · rw [xorB_length h] at this; exact this
  · intro j hj
    rw [xorB_length h] at hj
    simp [xorB, mixAt, List.getElem?_zipWith, hj, h]

def xorV (o : Option (List UInt8)) : AV := match o with | some t => .tup [.c (.str t), .c (.int .i64 0)] | none => .tup [.c (.str []), .c (.int .i64 9)]
def xorI (b n : Nat) (x16 : Cell) (s : List UInt8) (l : List (List UInt8)) (H0 : AHeap) (i : Nat) (fr : AFrame) (H : AHeap) : Prop := Kept H0.length H0 H ∧ (∃ acc, xorAll s (l.take i) = some acc ∧ hown H b = some (B8 acc)) ∧ (∃ s : Nat → AV, fr = [s 0, s 1, s 2, s 3, .c (.slc b 0 n 1), s 5, s 6, s 7, s 8, s 9, s 10, s 11, s 12, s 13, s 14, s 15, .c x16, .c (.int .i64 (l.length : Int)), .c (.int .i64 (i : Int)), s 19, s 20, s 21, s 22, s 23, s 24, s 25, s 26, s 27, s 28, s 29, s 30, s 31, s 32, s 33, s 34, s 35, s 36, s 37, s 38, s 39, s 40, s 41, s 42, s 43, s 44])

def xorJ (b n : Nat) (x16 : Cell) (acc x : List UInt8) (l : List (List UInt8)) (i : Nat) (H0 : AHeap) (k : Nat) (fr : AFrame) (H : AHeap) : Prop := Kept H0.length H0 H ∧ hown H b = some (B8 (upd (mixAt acc x) acc k)) ∧ (∃ s : Nat → AV, fr = [s 0, s 1, s 2, s 3, .c (.slc b 0 n 1), s 5, .c (.str x), s 7, s 8, s 9, s 10, s 11, s 12, s 13, s 14, s 15, .c x16, .c (.int .i64 (l.length : Int)), .c (.int .i64 (i : Int)), s 19, s 20, s 21, s 22, s 23, s 24, s 25, s 26, s 27, .c (.int .i64 (n : Int)), .c (.int .i64 (k : Int)), s 30, s 31, s 32, s 33, s 34, s 35, s 36, s 37, s 38, s 39, s 40, s 41, s 42, s 43, s 44])




theorem AC_Xor (H : AHeap) (y : Cell) (ss : List (List UInt8)) (hy : Rd H y 1 (ss.map Cell.str)) (hl : ss.length ≤ 1000000) (hs : ∀ s ∈ ss, s.length ≤ 1000000000) : AC A H.length F_words_Xor [.c y] H (fun v H' => v = xorV (xorL ss)) := by
  have yl : (ss.map Cell.str).length = ss.length := by simp
  refine AC_enter t_words_Xor ?_; simp only [c_words_Xor, enterA, List.replicate, List.length_cons, List.length_nil, Nat.reduceAdd, Nat.reduceSub, List.cons_append, List.nil_append]
  cases ss with
  | nil =>
    (repeat (first | with_reducible refine thenQ_n ?_ | with_reducible refine blockQ_n ?_ | refine AW_skip ?_ | refine AW_seq ?_ | refine AW_ops ?_ | refine AW_blockS ?_ | refine AW_blockR ?_ | refine AW_blockD ?_ | refine AW_blockC ?_ | refine AO_nil ?_ | refine AW_draw ?_ | refine AW_draw3 ?_ | refine AW_blockD3 ?_ | refine AHd_nil ?_ | ((first | with_reducible apply AO_pre | with_reducible apply AHd_pre); focus (simp only [Sm, wantedA, execA, stepA, List.getElem?_cons_zero, List.getElem?_cons_succ, if_true, if_false, binA, binInt, unA, eqA, Option.map, eq_self, reduceCtorEq, ite_true, ite_false, cellsAV, fitsAll, CK.fits, fillA, AV.cells, writeN, readN, sliceCells, appendA, lenA, i64, loA, hiA, Nat.reduceAdd, Nat.reduceMul, Nat.reduceDiv, Nat.reduceSub, Nat.reduceLeDiff, Nat.reduceLT, Int.reduceLE, Int.reduceLT, foldA, maxA, minA, Int.reduceBEq, Int.reduceBNe, Int.reduceGT, Int.reduceGE, Int.reduceEq, Int.reduceNe, Int.reduceToNat, AOp.stops, ↓want_eq, ↓exec_lenX, hy.len0 rfl (by omega)]; with_reducible rfl))))
    refine AW_cond (t := true) rfl (fun _ => ?_) (fun h => by cases h)
    (repeat (first | with_reducible refine thenQ_n ?_ | with_reducible refine blockQ_n ?_ | refine AW_skip ?_ | refine AW_seq ?_ | refine AW_ops ?_ | refine AW_blockS ?_ | refine AW_blockR ?_ | refine AW_blockD ?_ | refine AW_blockC ?_ | refine AO_nil ?_ | refine AW_draw ?_ | refine AW_draw3 ?_ | refine AW_blockD3 ?_ | refine AHd_nil ?_ | ((first | with_reducible apply AO_pre | with_reducible apply AHd_pre); focus (simp only [Sm, wantedA, execA, stepA, List.getElem?_cons_zero, List.getElem?_cons_succ, if_true, if_false, binA, binInt, unA, eqA, Option.map, eq_self, reduceCtorEq, ite_true, ite_false, cellsAV, fitsAll, CK.fits, fillA, AV.cells, writeN, readN, sliceCells, appendA, lenA, i64, loA, hiA, Nat.reduceAdd, Nat.reduceMul, Nat.reduceDiv, Nat.reduceSub, Nat.reduceLeDiff, Nat.reduceLT, Int.reduceLE, Int.reduceLT, foldA, maxA, minA, Int.reduceBEq, Int.reduceBNe, Int.reduceGT, Int.reduceGE, Int.reduceEq, Int.reduceNe, Int.reduceToNat, AOp.stops, ↓want_eq, ↓exec_lenX]; with_reducible rfl))))
    exact AW_ret ⟨_, rfl, rfl⟩
  | cons w l =>
  obtain ⟨m, hm⟩ : ∃ m, l.length = m := ⟨_, rfl⟩
  have hl : m + 1 ≤ 1000000 := by rw [← hm]; exact hl
  have yl : (List.map Cell.str (w :: l)).length = m + 1 := by simp [hm]
  have hsl : w.length ≤ 1000000000 := hs w (by simp)
  obtain ⟨u, o, full, rfl, hf, hg⟩ := hy.get (i := 0) (by omega)
  rw [yl] at hy
  have hy1 : Rd H (.slc u (o + 1) m 1) 1 (l.map Cell.str) := by
    have := hy.sub (i := 1) (j := m + 1) (by omega) (by omega)
    have e : ((List.map Cell.str (w :: l)).drop (1 * 1)).take ((m + 1 - 1) * 1) = l.map Cell.str := by
      simp only [Nat.mul_one, List.map_cons, List.drop_succ_cons, List.drop_zero, Nat.add_sub_cancel]
      exact List.take_of_length_le (by simp [hm])
    rw [e] at this; exact this
  rw [yl]
  simp only [List.map_cons, List.getElem?_cons_zero, Nat.add_zero] at hg
  have e0 : (((m + 1 : Nat) : Int) == 0) = false := by simp; omega
  have c1 : (1 : Int) ≤ ((m + 1 : Nat) : Int) := by omega
  have c2 : (0 : Int) < ((m + 1 : Nat) : Int) := by omega
  have c3 : 1 ≤ m + 1 := by omega
  have hf2 : hcells (H ++ [.own (B8 w)]) u = some full := hcells_app hf
  (repeat (first | with_reducible refine thenQ_n ?_ | with_reducible refine blockQ_n ?_ | refine AW_skip ?_ | refine AW_seq ?_ | refine AW_ops ?_ | refine AW_blockS ?_ | refine AW_blockR ?_ | refine AW_blockD ?_ | refine AW_blockC ?_ | refine AO_nil ?_ | refine AW_draw ?_ | refine AW_draw3 ?_ | refine AW_blockD3 ?_ | refine AHd_nil ?_ | ((first | with_reducible apply AO_pre | with_reducible apply AHd_pre); focus (simp only [Sm, wantedA, execA, stepA, List.getElem?_cons_zero, List.getElem?_cons_succ, if_true, if_false, binA, binInt, unA, eqA, Option.map, eq_self, reduceCtorEq, ite_true, ite_false, cellsAV, fitsAll, CK.fits, fillA, AV.cells, writeN, readN, sliceCells, appendA, lenA, i64, loA, hiA, Nat.reduceAdd, Nat.reduceMul, Nat.reduceDiv, Nat.reduceSub, Nat.reduceLeDiff, Nat.reduceLT, Int.reduceLE, Int.reduceLT, foldA, maxA, minA, Int.reduceBEq, Int.reduceBNe, Int.reduceGT, Int.reduceGE, Int.reduceEq, Int.reduceNe, Int.reduceToNat, AOp.stops, ↓want_eq, ↓exec_lenX, hf, e0]; with_reducible rfl))))
  refine AW_cond (t := false) rfl (fun h => by cases h) fun _ => ?_
  (repeat (first | with_reducible refine thenQ_n ?_ | with_reducible refine blockQ_n ?_ | refine AW_skip ?_ | refine AW_seq ?_ | refine AW_ops ?_ | refine AW_blockS ?_ | refine AW_blockR ?_ | refine AW_blockD ?_ | refine AW_blockC ?_ | refine AO_nil ?_ | refine AW_draw ?_ | refine AW_draw3 ?_ | refine AW_blockD3 ?_ | refine AHd_nil ?_ | ((first | with_reducible apply AO_pre | with_reducible apply AHd_pre); focus (simp only [Sm, wantedA, execA, stepA, List.getElem?_cons_zero, List.getElem?_cons_succ, if_true, if_false, binA, binInt, unA, eqA, Option.map, eq_self, reduceCtorEq, ite_true, ite_false, cellsAV, fitsAll, CK.fits, fillA, AV.cells, writeN, readN, sliceCells, appendA, lenA, i64, loA, hiA, Nat.reduceAdd, Nat.reduceMul, Nat.reduceDiv, Nat.reduceSub, Nat.reduceLeDiff, Nat.reduceLT, Int.reduceLE, Int.reduceLT, foldA, maxA, minA, Int.reduceBEq, Int.reduceBNe, Int.reduceGT, Int.reduceGE, Int.reduceEq, Int.reduceNe, Int.reduceToNat, AOp.stops, ↓want_eq, ↓exec_lenX, hf, hg, c1, c2, c3, B8_of_str, hf2, Int.toNat_one, Int.reduceToNat, Nat.add_sub_cancel]; with_reducible rfl))))
  have k0 : Kept H.length H (H ++ [.own (B8 w)]) := Kept.push _ _ _
  have hb : hown (H ++ [.own (B8 w)]) H.length = some (B8 w) := hown_last
  refine AW_mid (fun e fr H' => (e = .normal ∧ ∃ acc, xorL (w :: l) = some acc ∧ hown H' H.length = some (B8 acc) ∧ acc.length = w.length ∧ (∃ s : Nat → AV, fr = [s 0, s 1, s 2, s 3, .c (.slc H.length 0 w.length 1), s 5, s 6, s 7, s 8, s 9, s 10, s 11, s 12, s 13, s 14, s 15, s 16, s 17, s 18, s 19, s 20, s 21, s 22, s 23, s 24, s 25, s 26, s 27, s 28, s 29, s 30, s 31, s 32, s 33, s 34, s 35, s 36, s 37, s 38, s 39, s 40, s 41, s 42, s 43, s 44])) ∨ (e = .ret ∧ xorL (w :: l) = none ∧ (∃ s : Nat → AV, fr = [s 0, s 1, .c (.str []), .c (.int .i64 9), s 4, s 5, s 6, s 7, s 8, s 9, s 10, s 11, s 12, s 13, s 14, s 15, s 16, s 17, s 18, s 19, s 20, s 21, s 22, s 23, s 24, s 25, s 26, s 27, s 28, s 29, s 30, s 31, s 32, s 33, s 34, s 35, s 36, s 37, s 38, s 39, s 40, s 41, s 42, s 43, s 44]))) ?_ ?_
  · refine AW_block (AW_up (xorI H.length w.length (.slc u (o + 1) m 1) w l H) l.length ⟨k0, ⟨w, rfl, hb⟩, stale _ _ (by rw [hm]; rfl)⟩ ?_)
    rintro i fr H1 hi ⟨k1, ⟨acc, hacc, ho⟩, st, rfl⟩
    have la : acc.length = w.length := xorAll_length hacc
    (repeat (first | with_reducible refine thenQ_n ?_ | with_reducible refine blockQ_n ?_ | refine AW_skip ?_ | refine AW_seq ?_ | refine AW_ops ?_ | refine AW_blockS ?_ | refine AW_blockR ?_ | refine AW_blockD ?_ | refine AW_blockC ?_ | refine AO_nil ?_ | refine AW_draw ?_ | refine AW_draw3 ?_ | refine AW_blockD3 ?_ | refine AHd_nil ?_ | ((first | with_reducible apply AO_pre | with_reducible apply AHd_pre); focus (simp only [Sm, wantedA, execA, stepA, List.getElem?_cons_zero, List.getElem?_cons_succ, if_true, if_false, binA, binInt, unA, eqA, Option.map, eq_self, reduceCtorEq, ite_true, ite_false, cellsAV, fitsAll, CK.fits, fillA, AV.cells, writeN, readN, sliceCells, appendA, lenA, i64, loA, hiA, Nat.reduceAdd, Nat.reduceMul, Nat.reduceDiv, Nat.reduceSub, Nat.reduceLeDiff, Nat.reduceLT, Int.reduceLE, Int.reduceLT, foldA, maxA, minA, Int.reduceBEq, Int.reduceBNe, Int.reduceGT, Int.reduceGE, Int.reduceEq, Int.reduceNe, Int.reduceToNat, AOp.stops, ↓want_eq, ↓exec_lenX]; with_reducible rfl))))
    refine AW_cond rfl ?_ ?_ <;> intro ht
    · have ht : (i : Int) < l.length := of_decide_eq_true ht
      have ht2 : i < l.length := by omega
      obtain ⟨x, hx⟩ : ∃ x, l[i]? = some x := ⟨_, List.getElem?_eq_getElem ht2⟩
      have hxl : x.length ≤ 1000000000 := hs x (List.mem_cons_of_mem _ (List.mem_of_getElem? hx))
      obtain ⟨u', o', full', e, hf', hg'⟩ := (hy1.kept k1).get (i := i) (by simpa using ht2)
      simp only [Cell.slc.injEq] at e
      obtain ⟨rfl, rfl, _, _⟩ := e
      have gx : full'[o + 1 + i]? = some (.str x) := by rw [hg']; simp [hx]
      have cm : (i : Int) < (m : Int) := by omega
      have hc1 := hcells_own ho
      by_cases hlen : x.length = acc.length
      · have hn : ((x.length : Int) != (w.length : Int)) = false := by simp; omega
        (repeat (first | with_reducible refine thenQ_n ?_ | with_reducible refine blockQ_n ?_ | refine AW_skip ?_ | refine AW_seq ?_ | refine AW_ops ?_ | refine AW_blockS ?_ | refine AW_blockR ?_ | refine AW_blockD ?_ | refine AW_blockC ?_ | refine AO_nil ?_ | refine AW_draw ?_ | refine AW_draw3 ?_ | refine AW_blockD3 ?_ | refine AHd_nil ?_ | ((first | with_reducible apply AO_pre | with_reducible apply AHd_pre); focus (simp only [Sm, wantedA, execA, stepA, List.getElem?_cons_zero, List.getElem?_cons_succ, if_true, if_false, binA, binInt, unA, eqA, Option.map, eq_self, reduceCtorEq, ite_true, ite_false, cellsAV, fitsAll, CK.fits, fillA, AV.cells, writeN, readN, sliceCells, appendA, lenA, i64, loA, hiA, Nat.reduceAdd, Nat.reduceMul, Nat.reduceDiv, Nat.reduceSub, Nat.reduceLeDiff, Nat.reduceLT, Int.reduceLE, Int.reduceLT, foldA, maxA, minA, Int.reduceBEq, Int.reduceBNe, Int.reduceGT, Int.reduceGE, Int.reduceEq, Int.reduceNe, Int.reduceToNat, AOp.stops, ↓want_eq, ↓exec_lenX, hf', gx, cm, hc1, hn]; with_reducible rfl))))
        refine AW_cond (t := false) rfl (fun h => by cases h) fun _ => ?_
        (repeat (first | with_reducible refine thenQ_n ?_ | with_reducible refine blockQ_n ?_ | refine AW_skip ?_ | refine AW_seq ?_ | refine AW_ops ?_ | refine AW_blockS ?_ | refine AW_blockR ?_ | refine AW_blockD ?_ | refine AW_blockC ?_ | refine AO_nil ?_ | refine AW_draw ?_ | refine AW_draw3 ?_ | refine AW_blockD3 ?_ | refine AHd_nil ?_ | ((first | with_reducible apply AO_pre | with_reducible apply AHd_pre); focus (simp only [Sm, wantedA, execA, stepA, List.getElem?_cons_zero, List.getElem?_cons_succ, if_true, if_false, binA, binInt, unA, eqA, Option.map, eq_self, reduceCtorEq, ite_true, ite_false, cellsAV, fitsAll, CK.fits, fillA, AV.cells, writeN, readN, sliceCells, appendA, lenA, i64, loA, hiA, Nat.reduceAdd, Nat.reduceMul, Nat.reduceDiv, Nat.reduceSub, Nat.reduceLeDiff, Nat.reduceLT, Int.reduceLE, Int.reduceLT, foldA, maxA, minA, Int.reduceBEq, Int.reduceBNe, Int.reduceGT, Int.reduceGE, Int.reduceEq, Int.reduceNe, Int.reduceToNat, AOp.stops, ↓want_eq, ↓exec_lenX, hc1]; with_reducible rfl))))
        refine AW_mid (fun e fr H' => e = .normal ∧ Kept H.length H H' ∧ hown H' H.length = some (B8 (xorB acc x)) ∧ (∃ s : Nat → AV, fr = [s 0, s 1, s 2, s 3, .c (.slc H.length 0 w.length 1), s 5, s 6, s 7, s 8, s 9, s 10, s 11, s 12, s 13, s 14, s 15, .c (.slc u (o + 1) m 1), .c (.int .i64 (l.length : Int)), .c (.int .i64 (i : Int)), s 19, s 20, s 21, s 22, s 23, s 24, s 25, s 26, s 27, s 28, s 29, s 30, s 31, s 32, s 33, s 34, s 35, s 36, s 37, s 38, s 39, s 40, s 41, s 42, s 43, s 44])) ?_ ?_
        · refine AW_block (AW_up (xorJ H.length w.length (.slc u (o + 1) m 1) acc x l i H) w.length ⟨k1, ho, stale _ _ rfl⟩ ?_)
          rintro k fr H2 hk ⟨k2, hown2, st, rfl⟩
          (repeat (first | with_reducible refine thenQ_n ?_ | with_reducible refine blockQ_n ?_ | refine AW_skip ?_ | refine AW_seq ?_ | refine AW_ops ?_ | refine AW_blockS ?_ | refine AW_blockR ?_ | refine AW_blockD ?_ | refine AW_blockC ?_ | refine AO_nil ?_ | refine AW_draw ?_ | refine AW_draw3 ?_ | refine AW_blockD3 ?_ | refine AHd_nil ?_ | ((first | with_reducible apply AO_pre | with_reducible apply AHd_pre); focus (simp only [Sm, wantedA, execA, stepA, List.getElem?_cons_zero, List.getElem?_cons_succ, if_true, if_false, binA, binInt, unA, eqA, Option.map, eq_self, reduceCtorEq, ite_true, ite_false, cellsAV, fitsAll, CK.fits, fillA, AV.cells, writeN, readN, sliceCells, appendA, lenA, i64, loA, hiA, Nat.reduceAdd, Nat.reduceMul, Nat.reduceDiv, Nat.reduceSub, Nat.reduceLeDiff, Nat.reduceLT, Int.reduceLE, Int.reduceLT, foldA, maxA, minA, Int.reduceBEq, Int.reduceBNe, Int.reduceGT, Int.reduceGE, Int.reduceEq, Int.reduceNe, Int.reduceToNat, AOp.stops, ↓want_eq, ↓exec_lenX]; with_reducible rfl))))
          refine AW_cond rfl ?_ ?_ <;> intro ht
          · have ht : (k : Int) < w.length := of_decide_eq_true ht
            have ht2 : k < w.length := by omega
            have hc2 := hcells_own hown2
            have ul : (B8 (upd (mixAt acc x) acc k)).length = w.length := by rw [B8_length, upd_length, la]
            have g1 : (B8 (upd (mixAt acc x) acc k))[k]? = some (.int .u8 ((acc.getD k 0).toNat : Int)) := B8_get (by rw [upd_self k (by omega)]; simp [show k < acc.length by omega])
            have g2 : x[k]? = some (x.getD k 0) := by simp [show k < x.length by omega]
            (repeat (first | with_reducible refine thenQ_n ?_ | with_reducible refine blockQ_n ?_ | refine AW_skip ?_ | refine AW_seq ?_ | refine AW_ops ?_ | refine AW_blockS ?_ | refine AW_blockR ?_ | refine AW_blockD ?_ | refine AW_blockC ?_ | refine AO_nil ?_ | refine AW_draw ?_ | refine AW_draw3 ?_ | refine AW_blockD3 ?_ | refine AHd_nil ?_ | ((first | with_reducible apply AO_pre | with_reducible apply AHd_pre); focus (simp only [Sm, wantedA, execA, stepA, List.getElem?_cons_zero, List.getElem?_cons_succ, if_true, if_false, binA, binInt, unA, eqA, Option.map, eq_self, reduceCtorEq, ite_true, ite_false, cellsAV, fitsAll, CK.fits, fillA, AV.cells, writeN, readN, sliceCells, appendA, lenA, i64, loA, hiA, Nat.reduceAdd, Nat.reduceMul, Nat.reduceDiv, Nat.reduceSub, Nat.reduceLeDiff, Nat.reduceLT, Int.reduceLE, Int.reduceLT, foldA, maxA, minA, Int.reduceBEq, Int.reduceBNe, Int.reduceGT, Int.reduceGE, Int.reduceEq, Int.reduceNe, Int.reduceToNat, AOp.stops, ↓want_eq, ↓exec_lenX, hc2, g1, g2, ht, xor_byte, Nat.zero_add, storeX_own hown2 (Nat.le_refl _) (by rw [ul]; exact ht2 : k < _), ↓exec_storeX, i64_succ (show k < 9223372036854775807 by omega)]; with_reducible rfl))))
            refine ⟨ht2, k2.trans ?_, ?_, stale _ _ rfl⟩
            · exact Kept.setB (Nat.le_refl _)
            · rw [B8_set]; exact hown_set (hown_lt hown2)
          · obtain rfl : k = w.length := by have : ¬ (k : Int) < w.length := of_decide_eq_false ht; omega
            exact AW_exit ⟨rfl, k2, by rw [← la, upd_xor hlen] at hown2; exact hown2, stale _ _ rfl⟩
        rintro e fr H2 ⟨rfl, k2, ho2, st, rfl⟩
        (repeat (first | with_reducible refine thenQ_n ?_ | with_reducible refine blockQ_n ?_ | refine AW_skip ?_ | refine AW_seq ?_ | refine AW_ops ?_ | refine AW_blockS ?_ | refine AW_blockR ?_ | refine AW_blockD ?_ | refine AW_blockC ?_ | refine AO_nil ?_ | refine AW_draw ?_ | refine AW_draw3 ?_ | refine AW_blockD3 ?_ | refine AHd_nil ?_ | ((first | with_reducible apply AO_pre | with_reducible apply AHd_pre); focus (simp only [Sm, wantedA, execA, stepA, List.getElem?_cons_zero, List.getElem?_cons_succ, if_true, if_false, binA, binInt, unA, eqA, Option.map, eq_self, reduceCtorEq, ite_true, ite_false, cellsAV, fitsAll, CK.fits, fillA, AV.cells, writeN, readN, sliceCells, appendA, lenA, i64, loA, hiA, Nat.reduceAdd, Nat.reduceMul, Nat.reduceDiv, Nat.reduceSub, Nat.reduceLeDiff, Nat.reduceLT, Int.reduceLE, Int.reduceLT, foldA, maxA, minA, Int.reduceBEq, Int.reduceBNe, Int.reduceGT, Int.reduceGE, Int.reduceEq, Int.reduceNe, Int.reduceToNat, AOp.stops, ↓want_eq, ↓exec_lenX, i64_succ (show i < 9223372036854775807 by omega)]; with_reducible rfl))))
        refine ⟨ht2, k2, ⟨_, ?_, ho2⟩, stale _ _ rfl⟩
        rw [xorAll_step hacc hx, if_pos hlen]
      · have hn : ((x.length : Int) != (w.length : Int)) = true := by simp; omega
        (repeat (first | with_reducible refine thenQ_n ?_ | with_reducible refine blockQ_n ?_ | refine AW_skip ?_ | refine AW_seq ?_ | refine AW_ops ?_ | refine AW_blockS ?_ | refine AW_blockR ?_ | refine AW_blockD ?_ | refine AW_blockC ?_ | refine AO_nil ?_ | refine AW_draw ?_ | refine AW_draw3 ?_ | refine AW_blockD3 ?_ | refine AHd_nil ?_ | ((first | with_reducible apply AO_pre | with_reducible apply AHd_pre); focus (simp only [Sm, wantedA, execA, stepA, List.getElem?_cons_zero, List.getElem?_cons_succ, if_true, if_false, binA, binInt, unA, eqA, Option.map, eq_self, reduceCtorEq, ite_true, ite_false, cellsAV, fitsAll, CK.fits, fillA, AV.cells, writeN, readN, sliceCells, appendA, lenA, i64, loA, hiA, Nat.reduceAdd, Nat.reduceMul, Nat.reduceDiv, Nat.reduceSub, Nat.reduceLeDiff, Nat.reduceLT, Int.reduceLE, Int.reduceLT, foldA, maxA, minA, Int.reduceBEq, Int.reduceBNe, Int.reduceGT, Int.reduceGE, Int.reduceEq, Int.reduceNe, Int.reduceToNat, AOp.stops, ↓want_eq, ↓exec_lenX, hf', gx, cm, hc1, hn]; with_reducible rfl))))
        refine AW_cond (t := true) rfl (fun _ => ?_) (fun h => by cases h)
        (repeat (first | with_reducible refine thenQ_n ?_ | with_reducible refine blockQ_n ?_ | refine AW_skip ?_ | refine AW_seq ?_ | refine AW_ops ?_ | refine AW_blockS ?_ | refine AW_blockR ?_ | refine AW_blockD ?_ | refine AW_blockC ?_ | refine AO_nil ?_ | refine AW_draw ?_ | refine AW_draw3 ?_ | refine AW_blockD3 ?_ | refine AHd_nil ?_ | ((first | with_reducible apply AO_pre | with_reducible apply AHd_pre); focus (simp only [Sm, wantedA, execA, stepA, List.getElem?_cons_zero, List.getElem?_cons_succ, if_true, if_false, binA, binInt, unA, eqA, Option.map, eq_self, reduceCtorEq, ite_true, ite_false, cellsAV, fitsAll, CK.fits, fillA, AV.cells, writeN, readN, sliceCells, appendA, lenA, i64, loA, hiA, Nat.reduceAdd, Nat.reduceMul, Nat.reduceDiv, Nat.reduceSub, Nat.reduceLeDiff, Nat.reduceLT, Int.reduceLE, Int.reduceLT, foldA, maxA, minA, Int.reduceBEq, Int.reduceBNe, Int.reduceGT, Int.reduceGE, Int.reduceEq, Int.reduceNe, Int.reduceToNat, AOp.stops, ↓want_eq, ↓exec_lenX]; with_reducible rfl))))
        refine AW_ret (.inr ⟨rfl, ?_, stale _ _ rfl⟩)
        exact xorAll_stop (i := i + 1) (by rw [xorAll_step hacc hx, if_neg hlen])
    · obtain rfl : i = l.length := by have : ¬ (i : Int) < l.length := of_decide_eq_false ht; omega
      refine AW_exit (.inl ⟨rfl, acc, ?_, ho, la, stale _ _ rfl⟩)
      rw [List.take_length] at hacc; exact hacc
  rintro e fr H1 (⟨rfl, acc, hacc, ho, la, st, rfl⟩ | ⟨rfl, hno, st, rfl⟩)
  · have hr : sliceCells H1 1 (.c (.slc H.length 0 w.length 1)) = some (B8 acc) := by
      have hO : Own H.length H1 (.slc H.length 0 w.length 1) 1 (B8 acc) := .inr ⟨_, _, rfl, by rw [B8_length, la, Nat.mul_one], Nat.le_refl _, ho⟩
      exact hO.rd.cells
    (repeat (first | with_reducible refine thenQ_n ?_ | with_reducible refine blockQ_n ?_ | refine AW_skip ?_ | refine AW_seq ?_ | refine AW_ops ?_ | refine AW_blockS ?_ | refine AW_blockR ?_ | refine AW_blockD ?_ | refine AW_blockC ?_ | refine AO_nil ?_ | refine AW_draw ?_ | refine AW_draw3 ?_ | refine AW_blockD3 ?_ | refine AHd_nil ?_ | ((first | with_reducible apply AO_pre | with_reducible apply AHd_pre); focus (simp only [Sm, wantedA, execA, stepA, List.getElem?_cons_zero, List.getElem?_cons_succ, if_true, if_false, binA, binInt, unA, eqA, Option.map, eq_self, reduceCtorEq, ite_true, ite_false, cellsAV, fitsAll, CK.fits, fillA, AV.cells, writeN, readN, sliceCells, appendA, lenA, i64, loA, hiA, Nat.reduceAdd, Nat.reduceMul, Nat.reduceDiv, Nat.reduceSub, Nat.reduceLeDiff, Nat.reduceLT, Int.reduceLE, Int.reduceLT, foldA, maxA, minA, Int.reduceBEq, Int.reduceBNe, Int.reduceGT, Int.reduceGE, Int.reduceEq, Int.reduceNe, Int.reduceToNat, AOp.stops, ↓want_eq, ↓exec_lenX, ↓hr, bytesOf_B8]; with_reducible rfl))))
    exact AW_ret ⟨_, rfl, by rw [hacc]; rfl⟩
  · simp only [thenQ, exitQ]
    exact ⟨_, rfl, by rw [hno]; rfl⟩

end PK

/- Package mac as code of the abstract machine. -/
namespace PK
open Go PAbs

noncomputable def c_mac_New : AFn := AFn.mk 18 [.tmp 2]
  (.seq (.region
      [⟨some 2, .mv (.k (.c (.pnil))), none⟩])
  (.seq (.region
      [⟨some 4, .mv (.t 0), none⟩,
        ⟨some 5, .call F_mac_key [.t 4], none⟩,
        ⟨some 3, .mv (.t 5), none⟩])
  (.seq (.region
      [⟨some 6, .call F_sha_New [], none⟩,
        ⟨some 7, .mv (.t 3), none⟩,
        ⟨some 8, .call F_mac_masked [.t 7, .k (.c (.int .u8 54))], none⟩,
        ⟨some 9, .buildSlice ([.str []]) 1 1 [(0, 1, .t 8)], none⟩,
        ⟨some 10, .call F_sha_Hash_Add [.t 6, .t 9], none⟩,
        ⟨some 11, .call F_sha_New [], none⟩,
        ⟨some 12, .mv (.t 3), none⟩,
        ⟨some 13, .call F_mac_masked [.t 12, .k (.c (.int .u8 92))], none⟩,
        ⟨some 14, .buildSlice ([.str []]) 1 1 [(0, 1, .t 13)], none⟩,
        ⟨some 15, .call F_sha_Hash_Add [.t 11, .t 14], none⟩,
        ⟨some 16, .build ([.pnil, .pnil]) [(0, 1, .t 10), (1, 1, .t 15)], none⟩,
        ⟨some 17, .box (.t 16), none⟩,
        ⟨some 2, .mv (.t 17), none⟩])
  (.ret))))
theorem t_mac_New : A F_mac_New = some c_mac_New := by kernel_rfl

noncomputable def c_mac_key : AFn := AFn.mk 16 [.tmp 2]
  (.seq (.region
      [⟨some 2, .mv (.k (.c (.str []))), none⟩])
  (.seq (.seq (.region
        [⟨some 3, .mv (.t 0), none⟩,
          ⟨some 4, .len true (.t 3), none⟩,
          ⟨some 5, .bin .gtr (.t 4) (.k (.c (.int .i64 64))), none⟩])
    (.cond (.t 5)
      (.region
        [⟨some 6, .mv (.t 0), none⟩,
          ⟨some 7, .buildSlice ([.str []]) 1 1 [(0, 1, .t 6)], none⟩,
          ⟨some 8, .call F_sha_Of [.t 7], none⟩,
          ⟨some 0, .mv (.t 8), none⟩])
      (.skip)))
  (.seq (.region
      [⟨some 9, .mv (.t 0), none⟩,
        ⟨some 10, .mv (.t 0), none⟩,
        ⟨some 11, .len true (.t 10), none⟩,
        ⟨some 12, .bin .sub (.k (.c (.int .i64 64))) (.t 11), none⟩,
        ⟨some 13, .makeSlice ([.int .u8 0]) 1 (.t 12) (.t 12), none⟩,
        ⟨some 14, .bytesStr (.t 13), none⟩,
        ⟨some 15, .bin .add (.t 9) (.t 14), none⟩,
        ⟨some 2, .mv (.t 15), none⟩])
  (.ret))))
theorem t_mac_key : A F_mac_key = some c_mac_key := by kernel_rfl

noncomputable def c_mac_masked : AFn := AFn.mk 31 [.tmp 4]
  (.seq (.region
      [⟨some 4, .mv (.k (.c (.str []))), none⟩])
  (.seq (.region
      [⟨some 9, .mv (.t 0), none⟩,
        ⟨some 10, .len true (.t 9), none⟩,
        ⟨some 11, .makeSlice ([.int .u8 0]) 1 (.t 10) (.t 10), none⟩,
        ⟨some 5, .mv (.t 11), none⟩])
  (.seq (.seq (.region
        [⟨some 12, .mv (.t 5), none⟩,
          ⟨some 13, .len false (.t 12), none⟩,
          ⟨some 14, .mv (.k (.c (.int .i64 0))), none⟩])
    (.block 0
      (.loop
        (.seq (.region
            [⟨some 15, .bin .lss (.t 14) (.t 13), none⟩])
        (.seq (.cond (.t 15)
            (.skip)
            (.exit 0))
        (.seq (.block 1
            (.seq (.region
                [⟨some 16, .mv (.t 14), none⟩,
                  ⟨some 6, .mv (.t 16), none⟩])
            (.region
              [⟨some 17, .mv (.t 5), none⟩,
                ⟨some 18, .mv (.t 6), none⟩,
                ⟨some 19, .mv (.t 1), none⟩,
                ⟨some 20, .idxSlc 1 (.t 17) (.t 18), none⟩,
                ⟨none, .store 1 (.t 20) (.t 19), none⟩])))
        (.region
          [⟨some 21, .bin .add (.t 14) (.k (.c (.int .i64 1))), none⟩,
            ⟨some 14, .mv (.t 21), none⟩])))))))
  (.seq (.region
      [⟨some 23, .mv (.t 0), none⟩,
        ⟨some 24, .mv (.t 5), none⟩,
        ⟨some 25, .bytesStr (.t 24), none⟩,
        ⟨some 26, .buildSlice ([.str [], .str []]) 1 2 [(0, 1, .t 23), (1, 1, .t 25)], none⟩,
        ⟨some 27, .call F_words_Xor [.t 26], none⟩,
        ⟨some 22, .mv (.t 27), none⟩,
        ⟨some 28, .extract (.t 22) 0, none⟩,
        ⟨some 29, .extract (.t 22) 1, none⟩,
        ⟨some 7, .mv (.t 28), none⟩,
        ⟨some 8, .mv (.t 29), none⟩])
  (.seq (.region
      [⟨some 30, .mv (.t 7), none⟩,
        ⟨some 4, .mv (.t 30), none⟩])
  (.ret))))))
theorem t_mac_masked : A F_mac_masked = some c_mac_masked := by kernel_rfl

noncomputable def c_mac_Mac_Chain : AFn := AFn.mk 41 [.tmp 6, .tmp 7]
  (.seq (.region
      [⟨some 6, .mv (.k (.c (.str []))), none⟩,
        ⟨some 7, .mv (.k (.c (.str []))), none⟩])
  (.seq (.seq (.region
        [⟨some 11, .mv (.t 0), none⟩,
          ⟨some 12, .eq false .ptr (.t 11) (.k (.c (.pnil))), none⟩,
          ⟨some 13, .mv (.t 12), none⟩,
          ⟨some 14, .mv (.t 1), some (13, false)⟩,
          ⟨some 15, .bin .lss (.t 14) (.k (.c (.int .i64 1))), some (13, false)⟩,
          ⟨some 16, .pick (.t 13) (.k (.c (.bool true))) (.t 15), none⟩])
    (.cond (.t 16)
      (.seq (.region
          [⟨some 6, .mv (.k (.c (.str []))), none⟩,
            ⟨some 7, .mv (.k (.c (.str []))), none⟩])
      (.ret))
      (.skip)))
  (.seq (.region
      [⟨some 17, .mv (.t 0), none⟩,
        ⟨some 18, .mv (.t 2), none⟩,
        ⟨some 19, .call F_mac_Mac_With [.t 17, .t 18], none⟩,
        ⟨some 20, .call F_mac_Mac_Tag [.t 19], none⟩,
        ⟨some 8, .mv (.t 20), none⟩])
  (.seq (.region
      [⟨some 21, .mv (.t 8), none⟩,
        ⟨some 9, .mv (.t 21), none⟩])
  (.seq (.seq (.region
        [⟨some 10, .mv (.k (.c (.int .i64 1))), none⟩])
    (.block 0
      (.loop
        (.seq (.seq (.region
              [⟨some 22, .mv (.t 10), none⟩,
                ⟨some 23, .mv (.t 1), none⟩,
                ⟨some 24, .bin .lss (.t 22) (.t 23), none⟩])
          (.cond (.t 24)
            (.skip)
            (.exit 0)))
        (.seq (.block 1
            (.seq (.region
                [⟨some 27, .mv (.t 0), none⟩,
                  ⟨some 28, .mv (.t 8), none⟩,
                  ⟨some 29, .buildSlice ([.str []]) 1 1 [(0, 1, .t 28)], none⟩,
                  ⟨some 30, .call F_mac_Mac_With [.t 27, .t 29], none⟩,
                  ⟨some 31, .call F_mac_Mac_Tag [.t 30], none⟩,
                  ⟨some 8, .mv (.t 31), none⟩])
            (.region
              [⟨some 33, .mv (.t 9), none⟩,
                ⟨some 34, .mv (.t 8), none⟩,
                ⟨some 35, .buildSlice ([.str [], .str []]) 1 2 [(0, 1, .t 33), (1, 1, .t 34)], none⟩,
                ⟨some 36, .call F_words_Xor [.t 35], none⟩,
                ⟨some 32, .mv (.t 36), none⟩,
                ⟨some 37, .extract (.t 32) 0, none⟩,
                ⟨some 38, .extract (.t 32) 1, none⟩,
                ⟨some 9, .mv (.t 37), none⟩])))
        (.region
          [⟨some 25, .mv (.t 10), none⟩,
            ⟨some 26, .bin .add (.t 25) (.k (.c (.int .i64 1))), none⟩,
            ⟨some 10, .mv (.t 26), none⟩]))))))
  (.seq (.region
      [⟨some 39, .mv (.t 8), none⟩,
        ⟨some 40, .mv (.t 9), none⟩,
        ⟨some 6, .mv (.t 39), none⟩,
        ⟨some 7, .mv (.t 40), none⟩])
  (.ret)))))))
theorem t_mac_Mac_Chain : A F_mac_Mac_Chain = some c_mac_Mac_Chain := by kernel_rfl

noncomputable def c_mac_Mac_With : AFn := AFn.mk 20 [.tmp 4]
  (.seq (.region
      [⟨some 4, .mv (.k (.c (.pnil))), none⟩])
  (.seq (.seq (.region
        [⟨some 5, .mv (.t 0), none⟩,
          ⟨some 6, .eq false .ptr (.t 5) (.k (.c (.pnil))), none⟩])
    (.cond (.t 6)
      (.seq (.region
          [⟨some 4, .mv (.k (.c (.pnil))), none⟩])
      (.ret))
      (.skip)))
  (.seq (.draw3
      [⟨some 7, .mv (.t 0), none⟩,
        ⟨some 8, .nilCheck (.t 7), none⟩,
        ⟨some 9, .fieldAddr 0 (.t 8), none⟩,
        ⟨some 10, .load1 (.t 9), none⟩,
        ⟨some 11, .call F_sha_Hash_Clone [.t 10], none⟩,
        ⟨some 12, .mv (.t 1), none⟩,
        ⟨some 13, .call F_sha_Hash_Add [.t 11, .t 12], none⟩,
        ⟨some 14, .mv (.t 0), none⟩,
        ⟨some 15, .nilCheck (.t 14), none⟩,
        ⟨some 16, .fieldAddr 1 (.t 15), none⟩,
        ⟨some 17, .load1 (.t 16), none⟩]
      [⟨some 18, .build ([.pnil, .pnil]) [(0, 1, .t 13), (1, 1, .t 17)], none⟩,
        ⟨some 19, .box (.t 18), none⟩,
        ⟨some 4, .mv (.t 19), none⟩])
  (.ret))))
theorem t_mac_Mac_With : A F_mac_Mac_With = some c_mac_Mac_With := by kernel_rfl

noncomputable def c_mac_Mac_Tag : AFn := AFn.mk 18 [.tmp 2]
  (.seq (.region
      [⟨some 2, .mv (.k (.c (.str []))), none⟩])
  (.seq (.seq (.region
        [⟨some 3, .mv (.t 0), none⟩,
          ⟨some 4, .eq false .ptr (.t 3) (.k (.c (.pnil))), none⟩])
    (.cond (.t 4)
      (.seq (.region
          [⟨some 2, .mv (.k (.c (.str []))), none⟩])
      (.ret))
      (.skip)))
  (.seq (.draw3
      [⟨some 5, .mv (.t 0), none⟩,
        ⟨some 6, .nilCheck (.t 5), none⟩,
        ⟨some 7, .fieldAddr 1 (.t 6), none⟩,
        ⟨some 8, .load1 (.t 7), none⟩,
        ⟨some 9, .call F_sha_Hash_Clone [.t 8], none⟩,
        ⟨some 10, .mv (.t 0), none⟩,
        ⟨some 11, .nilCheck (.t 10), none⟩,
        ⟨some 12, .fieldAddr 0 (.t 11), none⟩,
        ⟨some 13, .load1 (.t 12), none⟩]
      [⟨some 14, .call F_sha_Hash_Sum [.t 13], none⟩,
        ⟨some 15, .buildSlice ([.str []]) 1 1 [(0, 1, .t 14)], none⟩,
        ⟨some 16, .call F_sha_Hash_Add [.t 9, .t 15], none⟩,
        ⟨some 17, .call F_sha_Hash_Sum [.t 16], none⟩,
        ⟨some 2, .mv (.t 17), none⟩])
  (.ret))))
theorem t_mac_Mac_Tag : A F_mac_Mac_Tag = some c_mac_Mac_Tag := by kernel_rfl
end PK

/- Package mac: key, masked, New, With, Tag, Of. -/
namespace PK
open Go PAbs
set_option linter.unusedSimpArgs false
set_option linter.unusedVariables false
set_option maxRecDepth 100000
set_option maxHeartbeats 4000000

def shortO (k : List UInt8) : List UInt8 := if k.length > 64 then shaO k else k
def keyO (k : List UInt8) : List UInt8 := shortO k ++ List.replicate (64 - (shortO k).length) 0
def maskO (k : List UInt8) (v : UInt8) : List UInt8 := xorB (keyO k) (List.replicate 64 v)
theorem outO_length {st : List Nat} (h : Wd 8 st) : (outO st).length = 32 := by rw [outO, List.length_map, flat_length (beB_length 4), h.1]
theorem shaO_length (m : List UInt8) : (shaO m).length = 32 := outO_length (stO_wd (stO_wd Is_wd _) _)
theorem shortO_length (k : List UInt8) : (shortO k).length ≤ 64 := by simp only [shortO]; split; rw [shaO_length]; omega; omega
theorem keyO_length (k : List UInt8) : (keyO k).length = 64 := by have := shortO_length k; simp only [keyO, List.length_append, List.length_replicate]; omega
theorem maskO_length (k : List UInt8) (v : UInt8) : (maskO k v).length = 64 := by rw [maskO, xorB_length (by rw [keyO_length, List.length_replicate]), keyO_length]
theorem zerosB (n : Nat) : (List.replicate n [Cell.int .u8 0]).flatten = B8 (List.replicate n 0) := by rw [zeros8_, B8_toN]; simp [toN]

theorem AC_macKey (H : AHeap) (k : List UInt8) (hl : k.length ≤ 1000000) : AC A H.length F_mac_key [.c (.str k)] H (fun v H' => v = .c (.str (keyO k)) ∧ Kept H.length H H') := by
  refine AC.kept ?_ (Nat.le_refl _)
  have hcut : ∀ (H1 : AHeap) (s : List UInt8), s.length ≤ 64 → IntKind.i64.wrap (64 - ((s.length : Nat) : Int)) = ((64 - s.length : Nat) : Int) := fun _ s h => by rw [i64_of (by omega) (by omega)]; omega
  refine AC_enter t_mac_key ?_; simp only [c_mac_key, enterA, List.replicate, List.length_cons, List.length_nil, Nat.reduceAdd, Nat.reduceSub, List.cons_append, List.nil_append]
  rcases Nat.lt_or_ge 64 k.length with h | h
  · have hs : shortO k = shaO k := if_pos h
    have hk : keyO k = shaO k ++ List.replicate 32 0 := by rw [keyO, hs, shaO_length]
    rw [hk]
    (repeat (first | refine GOS ?_ | (with_reducible (first | apply AO_any | apply AHd_any | apply AP_go | apply AHP_go); focus (simp only [Sm, wantedA, execA, stepA, List.getElem?_cons_zero, List.getElem?_cons_succ, if_true, if_false, binA, binInt, unA, eqA, Option.map, eq_self, reduceCtorEq, ite_true, ite_false, cellsAV, fitsAll, CK.fits, fillA, AV.cells, writeN, sliceCells, appendA, lenA, i64, loA, hiA, Nat.reduceAdd, Nat.reduceMul, Nat.reduceDiv, Nat.reduceSub, Nat.reduceLeDiff, Nat.reduceLT, Int.reduceLE, Int.reduceLT, foldA, maxA, minA, Int.reduceBEq, Int.reduceBNe, Int.reduceGT, Int.reduceGE, Int.reduceEq, Int.reduceNe, Int.reduceToNat, AOp.stops, ↓want_eq, ↓exec_lenX, ↓exec_storeX, ↓exec_storeN, storeN_one, ↓exec_bsX, ↓exec_sliceX, ↓exec_copyX, ↓exec_appNil, ↓exec_carryX, Nat.sub_zero, rep_len, decide_eq_true (show (64 : Int) < ((k.length : Nat) : Int) by omega), decide_eq_true (show ((k.length : Nat) : Int) > 64 by omega)]; with_reducible first | exact EqP.at_ | exact EqP.cont | exact EqP.hcont | exact EqP.gate | exact EqP.hgate))))
    have hy : Rd (H ++ [Blk.own [Cell.str k]]) (.slc H.length 0 1 1) 1 ([k].map Cell.str) := (Own.one (f := 0) (Nat.zero_le _)).rd
    refine AO_call rfl ((AC_shaOf _ _ [k] hy (fun b h => by have := inX_slc.mp h; simp; omega) (by simp) (by simp; omega)).floor (by simp)) ?_
    rintro _ H1 rfl
    have hfl : [k].flatten = k := by simp
    have hsl := shaO_length k
    rw [hfl]
    generalize shaO k = s at *
    have e1 : IntKind.i64.wrap (64 - ((32 : Nat) : Int)) = ((32 : Nat) : Int) := by decide
    have b1 : (0 : Int) ≤ ((32 : Nat) : Int) := by decide
    have b2 : ((32 : Nat) : Int) ≤ 140737488355328 := by decide
    have hz : Rd (H1 ++ [Blk.own (B8 (List.replicate 32 0))]) (.slc H1.length 0 32 1) 1 (B8 (List.replicate 32 0)) := (Own.one (f := 0) (Nat.zero_le _)).rd
    have b3 : s.length + 32 ≤ 9223372036854775807 := by omega
    (repeat (first | refine GOS ?_ | (with_reducible (first | apply AO_any | apply AHd_any | apply AP_go | apply AHP_go); focus (simp only [Sm, wantedA, execA, stepA, List.getElem?_cons_zero, List.getElem?_cons_succ, if_true, if_false, binA, binInt, unA, eqA, Option.map, eq_self, reduceCtorEq, ite_true, ite_false, cellsAV, fitsAll, CK.fits, fillA, AV.cells, writeN, sliceCells, appendA, lenA, i64, loA, hiA, Nat.reduceAdd, Nat.reduceMul, Nat.reduceDiv, Nat.reduceSub, Nat.reduceLeDiff, Nat.reduceLT, Int.reduceLE, Int.reduceLT, foldA, maxA, minA, Int.reduceBEq, Int.reduceBNe, Int.reduceGT, Int.reduceGE, Int.reduceEq, Int.reduceNe, Int.reduceToNat, AOp.stops, ↓want_eq, ↓exec_lenX, ↓exec_storeX, ↓exec_storeN, storeN_one, ↓exec_bsX, ↓exec_sliceX, ↓exec_copyX, ↓exec_appNil, ↓exec_carryX, Nat.sub_zero, rep_len, hsl, e1, b1, b2, Int.le_refl, zerosB, Int.mul_one, Int.toNat_natCast, bsX_rd hz, binStr, b3, List.length_replicate]; with_reducible first | exact EqP.at_ | exact EqP.cont | exact EqP.hcont | exact EqP.gate | exact EqP.hgate))))
    exact AW_ret ⟨_, rfl, rfl⟩
  · have hs : shortO k = k := if_neg (by omega)
    have hk : keyO k = k ++ List.replicate (64 - k.length) 0 := by rw [keyO, hs]
    rw [hk]
    have e1 := hcut H k h
    generalize hn : 64 - k.length = n at *
    have b1 : (0 : Int) ≤ ((n : Nat) : Int) := by omega
    have b2 : ((n : Nat) : Int) ≤ 140737488355328 := by omega
    have hz : Rd (H ++ [Blk.own (B8 (List.replicate n 0))]) (.slc H.length 0 n 1) 1 (B8 (List.replicate n 0)) := Rd.all (hcells_own hown_last) (by simp [B8])
    have b3 : k.length + n ≤ 9223372036854775807 := by omega
    (repeat (first | refine GOS ?_ | (with_reducible (first | apply AO_any | apply AHd_any | apply AP_go | apply AHP_go); focus (simp only [Sm, wantedA, execA, stepA, List.getElem?_cons_zero, List.getElem?_cons_succ, if_true, if_false, binA, binInt, unA, eqA, Option.map, eq_self, reduceCtorEq, ite_true, ite_false, cellsAV, fitsAll, CK.fits, fillA, AV.cells, writeN, sliceCells, appendA, lenA, i64, loA, hiA, Nat.reduceAdd, Nat.reduceMul, Nat.reduceDiv, Nat.reduceSub, Nat.reduceLeDiff, Nat.reduceLT, Int.reduceLE, Int.reduceLT, foldA, maxA, minA, Int.reduceBEq, Int.reduceBNe, Int.reduceGT, Int.reduceGE, Int.reduceEq, Int.reduceNe, Int.reduceToNat, AOp.stops, ↓want_eq, ↓exec_lenX, ↓exec_storeX, ↓exec_storeN, storeN_one, ↓exec_bsX, ↓exec_sliceX, ↓exec_copyX, ↓exec_appNil, ↓exec_carryX, Nat.sub_zero, rep_len, decide_eq_false (show ¬ ((k.length : Nat) : Int) > 64 by omega), e1, b1, b2, Int.le_refl, zerosB, Int.mul_one, Int.toNat_natCast, bsX_rd hz, binStr, b3, List.length_replicate]; with_reducible first | exact EqP.at_ | exact EqP.cont | exact EqP.hcont | exact EqP.gate | exact EqP.hgate))))
    exact AW_ret ⟨_, rfl, rfl⟩

theorem repl_set {α : Type} (i n : Nat) (v z : α) (h : i < n) : (List.replicate i v ++ List.replicate (n - i) z).set i v = List.replicate (i + 1) v ++ List.replicate (n - (i + 1)) z := by
  rw [List.set_append_right _ _ (by simp), List.length_replicate, Nat.sub_self, show n - i = (n - (i + 1)) + 1 by omega, List.replicate_succ, List.set_cons_zero, List.replicate_succ', List.append_assoc]
  rfl
theorem B8_set {l : List UInt8} {i : Nat} {v : UInt8} : (B8 l).set i (.int .u8 (v.toNat : Int)) = B8 (l.set i v) := by simp [B8, List.map_set]
theorem B8_len {l : List UInt8} : (B8 l).length = l.length := by simp [B8]

def mmI (q n : Nat) (tx : List UInt8) (v : UInt8) (H0 : AHeap) (i : Nat) (fr : AFrame) (H : AHeap) : Prop := Chg (· = q) H0 H ∧ hown H q = some (B8 (List.replicate i v ++ List.replicate (n - i) 0)) ∧ (∃ s : Nat → AV, fr = [.c (.str tx), .c (.int .u8 (v.toNat : Int)), s 2, s 3, s 4, .c (.slc q 0 n 1), s 6, s 7, s 8, s 9, s 10, s 11, s 12, .c (.int .i64 (n : Int)), .c (.int .i64 (i : Int)), s 15, s 16, s 17, s 18, s 19, s 20, s 21, s 22, s 23, s 24, s 25, s 26, s 27, s 28, s 29, s 30])
theorem AC_macMasked (H : AHeap) (s : List UInt8) (v : UInt8) (hl : s.length ≤ 1000000) : AC A H.length F_mac_masked [.c (.str s), .c (.int .u8 (v.toNat : Int))] H (fun r H' => r = .c (.str (xorB s (List.replicate s.length v))) ∧ Kept H.length H H') := by
  refine AC.kept ?_ (Nat.le_refl _)
  refine AC_enter t_mac_masked ?_; simp only [c_mac_masked, enterA, List.replicate, List.length_cons, List.length_nil, Nat.reduceAdd, Nat.reduceSub, List.cons_append, List.nil_append]
  obtain ⟨n, hn⟩ : ∃ n, s.length = n := ⟨_, rfl⟩
  have b1 : (0 : Int) ≤ ((n : Nat) : Int) := by omega
  have b2 : ((n : Nat) : Int) ≤ 140737488355328 := by omega
  have o1 : hown (H ++ [Blk.own (B8 (List.replicate n 0))]) H.length = some (B8 (List.replicate n 0)) := hown_last
  have l1 : (H ++ [Blk.own (B8 (List.replicate n 0))]).length = H.length + 1 := by simp
  have ly : lenX (H ++ [Blk.own (B8 (List.replicate n 0))]) (.c (.slc H.length 0 n 1)) = some (.c (.int .i64 (n : Int)), H ++ [Blk.own (B8 (List.replicate n 0))]) := (Rd.all (hcells_own o1) (by simp [B8])).len n (by simp [B8]) (by decide)
  (repeat (first | refine GOS ?_ | (with_reducible (first | apply AO_any | apply AHd_any | apply AP_go | apply AHP_go); focus (simp only [Sm, wantedA, execA, stepA, List.getElem?_cons_zero, List.getElem?_cons_succ, if_true, if_false, binA, binInt, unA, eqA, Option.map, eq_self, reduceCtorEq, ite_true, ite_false, cellsAV, fitsAll, CK.fits, fillA, AV.cells, writeN, sliceCells, appendA, lenA, i64, loA, hiA, Nat.reduceAdd, Nat.reduceMul, Nat.reduceDiv, Nat.reduceSub, Nat.reduceLeDiff, Nat.reduceLT, Int.reduceLE, Int.reduceLT, foldA, maxA, minA, Int.reduceBEq, Int.reduceBNe, Int.reduceGT, Int.reduceGE, Int.reduceEq, Int.reduceNe, Int.reduceToNat, AOp.stops, ↓want_eq, ↓exec_lenX, ↓exec_storeX, ↓exec_storeN, storeN_one, ↓exec_bsX, ↓exec_sliceX, ↓exec_copyX, ↓exec_appNil, ↓exec_carryX, Nat.sub_zero, rep_len, hn, b1, b2, Int.le_refl, zerosB, Int.mul_one, Int.toNat_natCast, List.length_replicate, ly]; with_reducible first | exact EqP.at_ | exact EqP.cont | exact EqP.hcont | exact EqP.gate | exact EqP.hgate))))
  generalize H ++ [Blk.own (B8 (List.replicate n 0))] = H1 at *
  refine AW_mid (fun e fr H' => e = .normal ∧ mmI H.length n s v H1 n fr H') ?_ ?_
  · refine AW_block (AW_up (mmI H.length n s v H1) n ⟨Chg.refl _ _, o1, stale _ _ rfl⟩ ?_)
    rintro i fr H2 hi ⟨c2, o2, st, rfl⟩
    refine GO ?_
    refine AW_cond rfl ?_ ?_ <;> intro ht
    · have ht : (i : Int) < n := of_decide_eq_true ht
      have hi2 : i < n := by omega
      have h2 := hcells_own o2
      have esc := i64_succ (show i < 9223372036854775807 by omega)
      have hlen : (B8 (List.replicate i v ++ List.replicate (n - i) 0)).length = n := by rw [B8_len]; simp; omega
      (repeat (first | refine GOS ?_ | (with_reducible (first | apply AO_any | apply AHd_any | apply AP_go | apply AHP_go); focus (simp only [Sm, wantedA, execA, stepA, List.getElem?_cons_zero, List.getElem?_cons_succ, if_true, if_false, binA, binInt, unA, eqA, Option.map, eq_self, reduceCtorEq, ite_true, ite_false, cellsAV, fitsAll, CK.fits, fillA, AV.cells, writeN, sliceCells, appendA, lenA, i64, loA, hiA, Nat.reduceAdd, Nat.reduceMul, Nat.reduceDiv, Nat.reduceSub, Nat.reduceLeDiff, Nat.reduceLT, Int.reduceLE, Int.reduceLT, foldA, maxA, minA, Int.reduceBEq, Int.reduceBNe, Int.reduceGT, Int.reduceGE, Int.reduceEq, Int.reduceNe, Int.reduceToNat, AOp.stops, ↓want_eq, ↓exec_lenX, ↓exec_storeX, ↓exec_storeN, storeN_one, ↓exec_bsX, ↓exec_sliceX, ↓exec_copyX, ↓exec_appNil, ↓exec_carryX, Nat.sub_zero, rep_len, h2, ht, Nat.zero_add, storeX_own o2 (Nat.le_refl H.length) (by rw [hlen]; exact hi2 : i < _), esc]; with_reducible first | exact EqP.at_ | exact EqP.cont | exact EqP.hcont | exact EqP.gate | exact EqP.hgate))))
      refine ⟨hi2, c2.trans (Chg.set (S := (· = H.length)) rfl) fun _ _ h => h, ?_, stale _ _ rfl⟩
      rw [hown_set (hown_lt o2), B8_set, repl_set _ _ _ _ hi2]
    · obtain rfl : i = n := by have : ¬ (i : Int) < n := of_decide_eq_false ht; omega
      exact AW_exit ⟨rfl, c2, o2, stale _ _ rfl⟩
  rintro e fr H2 ⟨rfl, c2, o2, st, rfl⟩
  have e2 : List.replicate n v ++ List.replicate (n - n) (0 : UInt8) = List.replicate n v := by simp
  rw [e2] at o2
  have l2 : H.length ≤ H2.length := by have := c2.1; omega
  have hz : Rd H2 (.slc H.length 0 n 1) 1 (B8 (List.replicate n v)) := Rd.all (hcells_own o2) (by simp [B8])
  (repeat (first | refine GOS ?_ | (with_reducible (first | apply AO_any | apply AHd_any | apply AP_go | apply AHP_go); focus (simp only [Sm, wantedA, execA, stepA, List.getElem?_cons_zero, List.getElem?_cons_succ, if_true, if_false, binA, binInt, unA, eqA, Option.map, eq_self, reduceCtorEq, ite_true, ite_false, cellsAV, fitsAll, CK.fits, fillA, AV.cells, writeN, sliceCells, appendA, lenA, i64, loA, hiA, Nat.reduceAdd, Nat.reduceMul, Nat.reduceDiv, Nat.reduceSub, Nat.reduceLeDiff, Nat.reduceLT, Int.reduceLE, Int.reduceLT, foldA, maxA, minA, Int.reduceBEq, Int.reduceBNe, Int.reduceGT, Int.reduceGE, Int.reduceEq, Int.reduceNe, Int.reduceToNat, AOp.stops, ↓want_eq, ↓exec_lenX, ↓exec_storeX, ↓exec_storeN, storeN_one, ↓exec_bsX, ↓exec_sliceX, ↓exec_copyX, ↓exec_appNil, ↓exec_carryX, Nat.sub_zero, rep_len, bsX_rd hz]; with_reducible first | exact EqP.at_ | exact EqP.cont | exact EqP.hcont | exact EqP.gate | exact EqP.hgate))))
  have hy : Rd (H2 ++ [Blk.own [Cell.str s, Cell.str (List.replicate n v)]]) (.slc H2.length 0 2 1) 1 ([s, List.replicate n v].map Cell.str) := (Own.one (f := 0) (Nat.zero_le _)).rd
  refine AO_call rfl ((AC_Xor _ _ [s, List.replicate n v] hy (by simp) (by intro x hx; simp at hx; rcases hx with rfl | rfl; omega; simp; omega)).floor (by rw [List.length_append]; omega)) ?_
  rintro _ H3 rfl
  have hx : xorL [s, List.replicate n v] = some (xorB s (List.replicate n v)) := by simp only [xorL, xorAll]; rw [if_pos (by simp [hn])]
  rw [hx, hn]
  generalize xorB s (List.replicate n v) = r at *
  simp only [xorV]
  refine GO ?_
  exact AW_ret ⟨_, rfl, rfl⟩

structure MacAt (H : AHeap) (m q1 p1 q2 p2 : Nat) (x1 x2 : Cell) (a b : List UInt8) : Prop where
  own : hown H m = some [.ptr q1 0, .ptr q2 0]
  h1 : Hashed H q1 p1 x1 a
  h2 : Hashed H q2 p2 x2 b
theorem MacAt.kept {H H' : AHeap} {m q1 p1 q2 p2 : Nat} {x1 x2 : Cell} {a b : List UInt8} (h : MacAt H m q1 p1 q2 p2 x1 x2 a b) (k : Kept H.length H H') : MacAt H' m q1 p1 q2 p2 x1 x2 a b :=
  ⟨(Chg.of_kept k).hown (fun h => h) h.own, h.h1.kept k, h.h2.kept k⟩
def Macked (H : AHeap) (m : Nat) (a b : List UInt8) : Prop := ∃ q1 p1 q2 p2 x1 x2, MacAt H m q1 p1 q2 p2 x1 x2 a b
theorem Macked.kept {H H' : AHeap} {m : Nat} {a b : List UInt8} (h : Macked H m a b) (k : Kept H.length H H') : Macked H' m a b := by
  obtain ⟨q1, p1, q2, p2, x1, x2, h⟩ := h; exact ⟨q1, p1, q2, p2, x1, x2, h.kept k⟩
theorem Chg.kept_of {S : Nat → Prop} {H H' : AHeap} {n : Nat} (h : Chg S H H') (hs : ∀ b, b < n → ¬ S b) (hn : n ≤ H.length) : Kept n H H' := ⟨h.1, fun b hb _ => h.2 b (by omega) (hs b hb)⟩

theorem AC_macNew (H : AHeap) (k : List UInt8) (hl : k.length ≤ 1000000) : AC A H.length F_mac_New [.c (.str k)] H (fun v H' => (∃ m, v = .c (.ptr m 0) ∧ H.length ≤ m ∧ Macked H' m (maskO k 54) (maskO k 92)) ∧ Kept H.length H H') := by
  refine AC.kept ?_ (Nat.le_refl _)
  have hkl := keyO_length k
  have hm1 := maskO_length k 54
  have hm2 := maskO_length k 92
  have hd1 : xorB (keyO k) (List.replicate (keyO k).length 54) = maskO k 54 := by rw [hkl]; rfl
  have hd2 : xorB (keyO k) (List.replicate (keyO k).length 92) = maskO k 92 := by rw [hkl]; rfl
  have n1 : ((54 : UInt8).toNat : Int) = 54 := rfl
  have n2 : ((92 : UInt8).toNat : Int) = 92 := rfl
  have t1 := fun H => AC_macMasked H (keyO k) 54 (by omega)
  have t2 := fun H => AC_macMasked H (keyO k) 92 (by omega)
  rw [n1, hd1] at t1
  rw [n2, hd2] at t2
  refine AC_enter t_mac_New ?_; simp only [c_mac_New, enterA, List.replicate, List.length_cons, List.length_nil, Nat.reduceAdd, Nat.reduceSub, List.cons_append, List.nil_append]
  refine GO ?_
  refine AO_call rfl (AC_macKey H k hl) ?_
  rintro _ H1 ⟨rfl, k1⟩
  generalize keyO k = key at *
  generalize maskO k 54 = a at *
  generalize maskO k 92 = b at *
  have l1 := k1.1
  refine GO ?_
  refine AO_call rfl ((AC_hashNew H1).floor l1) ?_
  rintro _ H2 ⟨⟨q, p, rfl, hq, hp, h2⟩, k2⟩
  refine GO ?_
  refine AO_call rfl ((t1 H2).floor (by have := k2.1; omega)) ?_
  rintro _ H3 ⟨rfl, k3⟩
  have h3 := h2.kept k3
  refine GO ?_
  have hy3 : Rd (H3 ++ [Blk.own [Cell.str a]]) (.slc H3.length 0 1 1) 1 ([a].map Cell.str) := (Own.one (f := 0) (Nat.zero_le _)).rd
  have hfa : [a].flatten = a := by simp
  have hq3 := hown_lt h3.own
  have hp3 := hown_lt h3.feed.1
  have h4 := h3.chg (Chg.push none_ _ [Blk.own [Cell.str a]]) (fun h => h) (fun h => h) (fun _ _ h => h)
  refine AO_call rfl (AC_hashAdd H.length _ q p .snil _ _ [a] h4 (by omega) (by omega) (fun b h => absurd h inX_snil) hy3 (fun h => by have := inX_slc.mp h; omega) (fun b h h2 => inX_snil h2) (by simp) (by rw [hfa]; omega) (by simp)) ?_
  rw [hfa, List.nil_append]
  rintro _ H5 ⟨x5, rfl, h5, c5, hx5⟩
  have l5 : H.length ≤ H5.length := by have h := c5.1; have := k2.1; have := k3.1; rw [List.length_append] at h; omega
  refine GO ?_
  refine AO_call rfl ((AC_hashNew H5).floor l5) ?_
  rintro _ H6 ⟨⟨q', p', rfl, hq', hp', h6⟩, k6⟩
  have h56 := h5.kept k6
  refine GO ?_
  refine AO_call rfl ((t2 H6).floor (by have := k6.1; omega)) ?_
  rintro _ H7 ⟨rfl, k7⟩
  have h7 := h6.kept k7
  have h57 := h56.kept k7
  refine GO ?_
  have hy7 : Rd (H7 ++ [Blk.own [Cell.str b]]) (.slc H7.length 0 1 1) 1 ([b].map Cell.str) := (Own.one (f := 0) (Nat.zero_le _)).rd
  have hfb : [b].flatten = b := by simp
  have hq7 := hown_lt h7.own
  have hp7 := hown_lt h7.feed.1
  have h8 := h7.chg (Chg.push none_ _ [Blk.own [Cell.str b]]) (fun h => h) (fun h => h) (fun _ _ h => h)
  have h58 := h57.chg (Chg.push none_ _ [Blk.own [Cell.str b]]) (fun h => h) (fun h => h) (fun _ _ h => h)
  refine AO_call rfl (AC_hashAdd H.length _ q' p' .snil _ _ [b] h8 (by omega) (by omega) (fun b h => absurd h inX_snil) hy7 (fun h => by have := inX_slc.mp h; omega) (fun b h h2 => inX_snil h2) (by simp) (by rw [hfb]; omega) (by simp)) ?_
  rw [hfb, List.nil_append]
  rintro _ H9 ⟨x9, rfl, h9, c9, hx9⟩
  have hqq := hown_lt h5.own
  have hpp := hown_lt h5.feed.1
  have h59 := h58.chg c9 (by rintro (h | h | h); omega; omega; exact inX_snil h) (by rintro (h | h | h); omega; omega; exact inX_snil h) (fun b hb => by have := h5.xlt hb; rintro (h | h | h); omega; omega; exact inX_snil h)
  refine GO ?_
  exact AW_ret ⟨_, rfl, H9.length, rfl, by have h := c9.1; have := k7.1; have := k6.1; rw [List.length_append] at h; omega, q, p, q', p', x5, x9, hown_last, h59.chg (Chg.push none_ _ _) (fun h => h) (fun h => h) (fun _ _ h => h), h9.chg (Chg.push none_ _ _) (fun h => h) (fun h => h) (fun _ _ h => h)⟩
end PK

/- Package mac: With, Tag, Of, Chain; the document's test. -/

namespace PK
open Go PAbs
set_option linter.unusedSimpArgs false
set_option linter.unusedVariables false
set_option maxRecDepth 100000
set_option maxHeartbeats 4000000

theorem AC_macWith (H : AHeap) (m : Nat) (y : Cell) (a b : List UInt8) (ss : List (List UInt8)) (hM : Macked H m a b) (hy : Rd H y 1 (ss.map Cell.str)) (hyl : ∀ b, inX y b → b < H.length)
    (hl : ss.length ≤ 1000000) (hb : ss.flatten.length ≤ 999999000) (ht : a.length ≤ 1000000000) :
    AC A H.length F_mac_Mac_With [.c (.ptr m 0), .c y] H (fun v H' => (∃ m', v = .c (.ptr m' 0) ∧ H.length ≤ m' ∧ Macked H' m' (a ++ ss.flatten) b) ∧ Kept H.length H H') := by
  refine AC.kept ?_ (Nat.le_refl _)
  obtain ⟨q1, p1, q2, p2, x1, x2, hm⟩ := hM
  refine AC_enter t_mac_Mac_With ?_; simp only [c_mac_Mac_With, enterA, List.replicate, List.length_cons, List.length_nil, Nat.reduceAdd, Nat.reduceSub, List.cons_append, List.nil_append]
  have hcm := hcells_own hm.own
  (repeat (first | refine GOS ?_ | (with_reducible (first | apply AO_any | apply AHd_any | apply AP_go | apply AHP_go); focus (simp only [Sm, wantedA, execA, stepA, List.getElem?_cons_zero, List.getElem?_cons_succ, if_true, if_false, binA, binInt, unA, eqA, Option.map, eq_self, reduceCtorEq, ite_true, ite_false, cellsAV, fitsAll, CK.fits, fillA, AV.cells, writeN, sliceCells, appendA, lenA, i64, loA, hiA, Nat.reduceAdd, Nat.reduceMul, Nat.reduceDiv, Nat.reduceSub, Nat.reduceLeDiff, Nat.reduceLT, Int.reduceLE, Int.reduceLT, foldA, maxA, minA, Int.reduceBEq, Int.reduceBNe, Int.reduceGT, Int.reduceGE, Int.reduceEq, Int.reduceNe, Int.reduceToNat, AOp.stops, ↓want_eq, ↓exec_lenX, ↓exec_storeX, ↓exec_storeN, storeN_one, ↓exec_bsX, ↓exec_sliceX, ↓exec_copyX, ↓exec_appNil, ↓exec_carryX, Nat.sub_zero, rep_len, hcm]; with_reducible first | exact EqP.at_ | exact EqP.cont | exact EqP.hcont | exact EqP.gate | exact EqP.hgate))))
  refine AO_call rfl (AC_hashClone H q1 p1 x1 a hm.h1) ?_
  rintro _ H1 ⟨⟨q', p', x', rfl, hq', hp', h1, hx'⟩, k1⟩
  have hm1 := hm.kept k1
  have hy1 := hy.kept k1
  refine GO ?_
  refine AO_call rfl (AC_hashAdd H.length H1 q' p' x' y a ss h1 hq' hp' hx' hy1 (fun h => by have := hyl _ h; omega) (fun b h h2 => by have := hyl b h; have := hx' b h2; omega) hl hb ht) ?_
  rintro _ H2 ⟨x3, rfl, h3, c3, hx3⟩
  have k2 : Kept H.length H H2 := k1.trans (Chg.kept_of c3 (n := H.length) (by rintro b hb (h | h | h); omega; omega; have := hx' b h; omega) k1.1)
  have hm2 := hm.kept k2
  have hcm2 := hcells_own hm2.own
  have l2 := k2.1
  (repeat (first | refine GOS ?_ | (with_reducible (first | apply AO_any | apply AHd_any | apply AP_go | apply AHP_go); focus (simp only [Sm, wantedA, execA, stepA, List.getElem?_cons_zero, List.getElem?_cons_succ, if_true, if_false, binA, binInt, unA, eqA, Option.map, eq_self, reduceCtorEq, ite_true, ite_false, cellsAV, fitsAll, CK.fits, fillA, AV.cells, writeN, sliceCells, appendA, lenA, i64, loA, hiA, Nat.reduceAdd, Nat.reduceMul, Nat.reduceDiv, Nat.reduceSub, Nat.reduceLeDiff, Nat.reduceLT, Int.reduceLE, Int.reduceLT, foldA, maxA, minA, Int.reduceBEq, Int.reduceBNe, Int.reduceGT, Int.reduceGE, Int.reduceEq, Int.reduceNe, Int.reduceToNat, AOp.stops, ↓want_eq, ↓exec_lenX, ↓exec_storeX, ↓exec_storeN, storeN_one, ↓exec_bsX, ↓exec_sliceX, ↓exec_copyX, ↓exec_appNil, ↓exec_carryX, Nat.sub_zero, rep_len, hcm2]; with_reducible first | exact EqP.at_ | exact EqP.cont | exact EqP.hcont | exact EqP.gate | exact EqP.hgate))))
  exact AW_ret ⟨_, rfl, H2.length, rfl, l2, q', p', q2, p2, x3, x2, hown_last, h3.chg (Chg.push none_ _ _) (fun h => h) (fun h => h) (fun _ _ h => h), hm2.h2.chg (Chg.push none_ _ _) (fun h => h) (fun h => h) (fun _ _ h => h)⟩

def macO (a b : List UInt8) : List UInt8 := shaO (b ++ shaO a)
theorem macO_length (a b : List UInt8) : (macO a b).length = 32 := shaO_length _
theorem AC_macTag (H : AHeap) (m : Nat) (a b : List UInt8) (hM : Macked H m a b) (ha : a.length ≤ 1000000000) (hb : b.length ≤ 1000000) :
    AC A H.length F_mac_Mac_Tag [.c (.ptr m 0)] H (fun v H' => v = .c (.str (macO a b)) ∧ Kept H.length H H') := by
  refine AC.kept ?_ (Nat.le_refl _)
  obtain ⟨q1, p1, q2, p2, x1, x2, hm⟩ := hM
  have hsl := shaO_length a
  refine AC_enter t_mac_Mac_Tag ?_; simp only [c_mac_Mac_Tag, enterA, List.replicate, List.length_cons, List.length_nil, Nat.reduceAdd, Nat.reduceSub, List.cons_append, List.nil_append]
  have hcm := hcells_own hm.own
  (repeat (first | refine GOS ?_ | (with_reducible (first | apply AO_any | apply AHd_any | apply AP_go | apply AHP_go); focus (simp only [Sm, wantedA, execA, stepA, List.getElem?_cons_zero, List.getElem?_cons_succ, if_true, if_false, binA, binInt, unA, eqA, Option.map, eq_self, reduceCtorEq, ite_true, ite_false, cellsAV, fitsAll, CK.fits, fillA, AV.cells, writeN, sliceCells, appendA, lenA, i64, loA, hiA, Nat.reduceAdd, Nat.reduceMul, Nat.reduceDiv, Nat.reduceSub, Nat.reduceLeDiff, Nat.reduceLT, Int.reduceLE, Int.reduceLT, foldA, maxA, minA, Int.reduceBEq, Int.reduceBNe, Int.reduceGT, Int.reduceGE, Int.reduceEq, Int.reduceNe, Int.reduceToNat, AOp.stops, ↓want_eq, ↓exec_lenX, ↓exec_storeX, ↓exec_storeN, storeN_one, ↓exec_bsX, ↓exec_sliceX, ↓exec_copyX, ↓exec_appNil, ↓exec_carryX, Nat.sub_zero, rep_len, hcm]; with_reducible first | exact EqP.at_ | exact EqP.cont | exact EqP.hcont | exact EqP.gate | exact EqP.hgate))))
  refine AO_call rfl (AC_hashClone H q2 p2 x2 b hm.h2) ?_
  rintro _ H1 ⟨⟨q', p', x', rfl, hq', hp', h1, hx'⟩, k1⟩
  have hm1 := hm.kept k1
  have hcm1 := hcells_own hm1.own
  have l1 := k1.1
  (repeat (first | refine GOS ?_ | (with_reducible (first | apply AO_any | apply AHd_any | apply AP_go | apply AHP_go); focus (simp only [Sm, wantedA, execA, stepA, List.getElem?_cons_zero, List.getElem?_cons_succ, if_true, if_false, binA, binInt, unA, eqA, Option.map, eq_self, reduceCtorEq, ite_true, ite_false, cellsAV, fitsAll, CK.fits, fillA, AV.cells, writeN, sliceCells, appendA, lenA, i64, loA, hiA, Nat.reduceAdd, Nat.reduceMul, Nat.reduceDiv, Nat.reduceSub, Nat.reduceLeDiff, Nat.reduceLT, Int.reduceLE, Int.reduceLT, foldA, maxA, minA, Int.reduceBEq, Int.reduceBNe, Int.reduceGT, Int.reduceGE, Int.reduceEq, Int.reduceNe, Int.reduceToNat, AOp.stops, ↓want_eq, ↓exec_lenX, ↓exec_storeX, ↓exec_storeN, storeN_one, ↓exec_bsX, ↓exec_sliceX, ↓exec_copyX, ↓exec_appNil, ↓exec_carryX, Nat.sub_zero, rep_len, hcm1]; with_reducible first | exact EqP.at_ | exact EqP.cont | exact EqP.hcont | exact EqP.gate | exact EqP.hgate))))
  refine AO_call rfl ((AC_hashSum H1 q1 p1 x1 a hm1.h1 ha).floor l1) ?_
  rintro _ H2 ⟨rfl, k2⟩
  rw [macO]
  generalize shaO a = s at *
  have h2 := h1.kept k2
  have l2 := k2.1
  have hp2 := hown_lt h1.feed.1
  have hq2 := hown_lt h1.own
  refine GO ?_
  have hy3 : Rd (H2 ++ [Blk.own [Cell.str s]]) (.slc H2.length 0 1 1) 1 ([s].map Cell.str) := (Own.one (f := 0) (Nat.zero_le _)).rd
  have hfs : [s].flatten = s := by simp
  have h3 := h2.chg (Chg.push none_ _ [Blk.own [Cell.str s]]) (fun h => h) (fun h => h) (fun _ _ h => h)
  refine AO_call rfl (AC_hashAdd H.length _ q' p' x' _ b [s] h3 hq' hp' hx' hy3 (fun h => by have := inX_slc.mp h; omega) (fun b h h2 => by have := inX_slc.mp h; have := h1.xlt h2; omega) (by simp) (by rw [hfs]; omega) (by omega)) ?_
  rw [hfs]
  rintro _ H4 ⟨x4, rfl, h4, c4, hx4⟩
  have l4 := c4.1
  rw [List.length_append] at l4
  refine GO ?_
  refine AO_call rfl ((AC_hashSum H4 q' p' x4 (b ++ s) h4 (by rw [List.length_append]; omega)).floor (by omega)) ?_
  rintro _ H5 ⟨rfl, k5⟩
  refine GO ?_
  exact AW_ret ⟨_, rfl, rfl⟩

def lastO (a b d : List UInt8) : Nat → List UInt8
  | 0 => macO (a ++ d) b
  | i + 1 => macO (a ++ lastO a b d i) b
def accO (a b d : List UInt8) : Nat → List UInt8
  | 0 => macO (a ++ d) b
  | i + 1 => xorB (accO a b d i) (lastO a b d (i + 1))
theorem lastO_length (a b d : List UInt8) : ∀ i, (lastO a b d i).length = 32
  | 0 => macO_length _ _
  | i + 1 => macO_length _ _
theorem accO_length (a b d : List UInt8) : ∀ i, (accO a b d i).length = 32
  | 0 => macO_length _ _
  | i + 1 => by rw [accO, xorB_length (by rw [accO_length a b d i, lastO_length]), accO_length a b d i]
def mcI (m r : Nat) (a b d : List UInt8) (H0 : AHeap) (i : Nat) (fr : AFrame) (H : AHeap) : Prop := Kept H0.length H0 H ∧ (∃ s : Nat → AV, fr = [.c (.ptr m 0), .c (.int .i64 (r : Int)), s 2, s 3, s 4, s 5, s 6, s 7, .c (.str (lastO a b d i)), .c (.str (accO a b d i)), .c (.int .i64 ((i + 1 : Nat) : Int)), s 11, s 12, s 13, s 14, s 15, s 16, s 17, s 18, s 19, s 20, s 21, s 22, s 23, s 24, s 25, s 26, s 27, s 28, s 29, s 30, s 31, s 32, s 33, s 34, s 35, s 36, s 37, s 38, s 39, s 40])
theorem AC_macChain (H : AHeap) (m r : Nat) (y : Cell) (a b : List UInt8) (ss : List (List UInt8)) (hM : Macked H m a b) (hy : Rd H y 1 (ss.map Cell.str)) (hyl : ∀ b, inX y b → b < H.length)
    (hl : ss.length ≤ 1000000) (hs : ss.flatten.length ≤ 99999000) (ha : a.length ≤ 1000000) (hb : b.length ≤ 1000000) (hr : r < 1000000) :
    AC A H.length F_mac_Mac_Chain [.c (.ptr m 0), .c (.int .i64 ((r + 1 : Nat) : Int)), .c y] H (fun v H' => v = .tup [.c (.str (lastO a b ss.flatten r)), .c (.str (accO a b ss.flatten r))] ∧ Kept H.length H H') := by
  refine AC.kept ?_ (Nat.le_refl _)
  obtain ⟨q1, p1, q2, p2, x1, x2, hm⟩ := id hM
  have hcm := hcells_own hm.own
  refine AC_enter t_mac_Mac_Chain ?_; simp only [c_mac_Mac_Chain, enterA, List.replicate, List.length_cons, List.length_nil, Nat.reduceAdd, Nat.reduceSub, List.cons_append, List.nil_append]
  (repeat (first | refine GOS ?_ | (with_reducible (first | apply AO_any | apply AHd_any | apply AP_go | apply AHP_go); focus (simp only [Sm, wantedA, execA, stepA, List.getElem?_cons_zero, List.getElem?_cons_succ, if_true, if_false, binA, binInt, unA, eqA, Option.map, eq_self, reduceCtorEq, ite_true, ite_false, cellsAV, fitsAll, CK.fits, fillA, AV.cells, writeN, sliceCells, appendA, lenA, i64, loA, hiA, Nat.reduceAdd, Nat.reduceMul, Nat.reduceDiv, Nat.reduceSub, Nat.reduceLeDiff, Nat.reduceLT, Int.reduceLE, Int.reduceLT, foldA, maxA, minA, Int.reduceBEq, Int.reduceBNe, Int.reduceGT, Int.reduceGE, Int.reduceEq, Int.reduceNe, Int.reduceToNat, AOp.stops, ↓want_eq, ↓exec_lenX, ↓exec_storeX, ↓exec_storeN, storeN_one, ↓exec_bsX, ↓exec_sliceX, ↓exec_copyX, ↓exec_appNil, ↓exec_carryX, Nat.sub_zero, rep_len, hcm, decide_eq_false (show ¬ ((r + 1 : Nat) : Int) < 1 by omega)]; with_reducible first | exact EqP.at_ | exact EqP.cont | exact EqP.hcont | exact EqP.gate | exact EqP.hgate))))
  refine AO_call rfl (AC_macWith H m y a b ss hM hy hyl hl (by omega) (by omega)) ?_
  rintro _ H1 ⟨⟨m1, rfl, hm1, hM1⟩, k1⟩
  have l1 := k1.1
  refine GO ?_
  refine AO_call rfl ((AC_macTag H1 m1 _ _ hM1 (by rw [List.length_append]; omega) hb).floor l1) ?_
  rintro _ H2 ⟨rfl, k2⟩
  have l2 := k2.1
  have k02 : Kept H.length H H2 := k1.trans (k2.mono l1)
  have hM2 := hM.kept k02
  generalize hd : ss.flatten = d at *
  have e0 : macO (a ++ d) b = lastO a b d 0 := rfl
  have e0' : macO (a ++ d) b = accO a b d 0 := rfl
  refine GO ?_
  refine AW_mid (fun e fr H' => e = .normal ∧ mcI m (r + 1) a b d H2 r fr H') ?_ ?_
  · refine AW_block (AW_up (mcI m (r + 1) a b d H2) r ⟨Kept.refl _ _, stale _ _ rfl⟩ ?_)
    rintro i fr H3 hi ⟨k3, st, rfl⟩
    have l3 := k3.1
    refine GO ?_
    refine AW_cond rfl ?_ ?_ <;> intro ht
    · have ht : ((i + 1 : Nat) : Int) < ((r + 1 : Nat) : Int) := of_decide_eq_true ht
      have hi2 : i < r := by omega
      have hll := lastO_length a b d i
      have hls := lastO_length a b d (i + 1)
      have hal := accO_length a b d i
      have hs1 : macO (a ++ lastO a b d i) b = lastO a b d (i + 1) := rfl
      have hac : xorB (accO a b d i) (lastO a b d (i + 1)) = accO a b d (i + 1) := rfl
      generalize hu : lastO a b d i = u at *
      generalize hw : accO a b d i = w at *
      refine GO ?_
      have hy4 : Rd (H3 ++ [Blk.own [Cell.str u]]) (.slc H3.length 0 1 1) 1 ([u].map Cell.str) := (Own.one (f := 0) (Nat.zero_le _)).rd
      have hfu : [u].flatten = u := by simp
      have k4 : Kept H2.length H2 (H3 ++ [Blk.own [Cell.str u]]) := k3.trans (Kept.push _ _ _)
      have l4 : (H3 ++ [Blk.own [Cell.str u]]).length = H3.length + 1 := by simp
      have hM4 := hM2.kept k4
      refine AO_call rfl ((AC_macWith _ m _ a b [u] hM4 hy4 (fun b h => by have := inX_slc.mp h; omega) (by simp) (by rw [hfu]; omega) (by omega)).floor (by omega)) ?_
      rintro _ H5 ⟨⟨m5, rfl, hm5, hM5⟩, k5⟩
      rw [hfu] at hM5
      have l5 := k5.1
      refine GO ?_
      refine AO_call rfl ((AC_macTag H5 m5 _ _ hM5 (by rw [List.length_append]; omega) hb).floor (by omega)) ?_
      rintro _ H6 ⟨rfl, k6⟩
      have l6 := k6.1
      rw [hs1]
      refine GO ?_
      have hy7 : Rd (H6 ++ [Blk.own [Cell.str w, Cell.str (lastO a b d (i + 1))]]) (.slc H6.length 0 2 1) 1 ([w, lastO a b d (i + 1)].map Cell.str) := (Own.one (f := 0) (Nat.zero_le _)).rd
      refine AO_call rfl (((AC_Xor _ _ [w, lastO a b d (i + 1)] hy7 (by simp) (by intro x hx; simp at hx; rcases hx with rfl | rfl <;> omega)).kept (Nat.le_refl _)).floor (by rw [List.length_append]; omega)) ?_
      rintro _ H8 ⟨rfl, k8⟩
      have hx : xorL [w, lastO a b d (i + 1)] = some (xorB w (lastO a b d (i + 1))) := by simp only [xorL, xorAll]; rw [if_pos (by simp [hal, hls])]
      rw [hx, hac]
      simp only [xorV]
      have e1 : IntKind.i64.wrap (((i + 1 : Nat) : Int) + 1) = ((i + 1 + 1 : Nat) : Int) := i64_succ (by omega)
      (repeat (first | refine GOS ?_ | (with_reducible (first | apply AO_any | apply AHd_any | apply AP_go | apply AHP_go); focus (simp only [Sm, wantedA, execA, stepA, List.getElem?_cons_zero, List.getElem?_cons_succ, if_true, if_false, binA, binInt, unA, eqA, Option.map, eq_self, reduceCtorEq, ite_true, ite_false, cellsAV, fitsAll, CK.fits, fillA, AV.cells, writeN, sliceCells, appendA, lenA, i64, loA, hiA, Nat.reduceAdd, Nat.reduceMul, Nat.reduceDiv, Nat.reduceSub, Nat.reduceLeDiff, Nat.reduceLT, Int.reduceLE, Int.reduceLT, foldA, maxA, minA, Int.reduceBEq, Int.reduceBNe, Int.reduceGT, Int.reduceGE, Int.reduceEq, Int.reduceNe, Int.reduceToNat, AOp.stops, ↓want_eq, ↓exec_lenX, ↓exec_storeX, ↓exec_storeN, storeN_one, ↓exec_bsX, ↓exec_sliceX, ↓exec_copyX, ↓exec_appNil, ↓exec_carryX, Nat.sub_zero, rep_len, e1]; with_reducible first | exact EqP.at_ | exact EqP.cont | exact EqP.hcont | exact EqP.gate | exact EqP.hgate))))
      exact ⟨hi2, ((k4.trans (k5.mono (by omega))).trans (k6.mono (by omega))).trans ((Kept.push _ _ _).trans (k8.mono (by rw [List.length_append]; omega))), stale _ _ rfl⟩
    · obtain rfl : i = r := by have : ¬ ((i + 1 : Nat) : Int) < ((r + 1 : Nat) : Int) := of_decide_eq_false ht; omega
      exact AW_exit ⟨rfl, k3, stale _ _ rfl⟩
  rintro e fr H3 ⟨rfl, k3, st, rfl⟩
  refine GO ?_
  exact AW_ret ⟨_, rfl, rfl⟩
end PK

/- Package pbkdf as code of the abstract machine. -/
namespace PK
open Go PAbs

noncomputable def c_pbkdf_Key : AFn := AFn.mk 52 [.tmp 8, .tmp 9]
  (.seq (.region
      [⟨some 8, .mv (.k (.c (.str []))), none⟩,
        ⟨some 9, .mv (.k (.c (.int .i64 0))), none⟩])
  (.seq (.seq (.region
        [⟨some 18, .mv (.t 2), none⟩,
          ⟨some 19, .mv (.t 3), none⟩,
          ⟨some 20, .call F_pbkdf_Check [.t 18, .t 19], none⟩,
          ⟨some 10, .mv (.t 20), none⟩])
    (.seq (.region
        [⟨some 21, .mv (.t 10), none⟩,
          ⟨some 22, .bin .neq (.t 21) (.k (.c (.int .i64 0))), none⟩])
    (.cond (.t 22)
      (.seq (.region
          [⟨some 23, .mv (.t 10), none⟩,
            ⟨some 8, .mv (.k (.c (.str []))), none⟩,
            ⟨some 9, .mv (.t 23), none⟩])
      (.ret))
      (.skip))))
  (.seq (.region
      [⟨some 24, .mv (.t 0), none⟩,
        ⟨some 25, .call F_mac_New [.t 24], none⟩,
        ⟨some 11, .mv (.t 25), none⟩])
  (.seq (.region
      [⟨some 27, .mv (.t 3), none⟩,
        ⟨some 28, .call F_size_Up [.t 27, .k (.c (.int .i64 32))], none⟩,
        ⟨some 26, .mv (.t 28), none⟩,
        ⟨some 29, .extract (.t 26) 0, none⟩,
        ⟨some 30, .extract (.t 26) 1, none⟩,
        ⟨some 12, .mv (.t 29), none⟩,
        ⟨some 13, .mv (.t 30), none⟩])
  (.seq (.region
      [⟨some 14, .mv (.k (.c (.snil))), none⟩])
  (.seq (.seq (.region
        [⟨some 31, .mv (.t 12), none⟩,
          ⟨some 32, .mv (.k (.c (.int .i64 0))), none⟩])
    (.block 0
      (.loop
        (.seq (.region
            [⟨some 33, .bin .lss (.t 32) (.t 31), none⟩])
        (.seq (.cond (.t 33)
            (.skip)
            (.exit 0))
        (.seq (.block 1
            (.seq (.region
                [⟨some 34, .mv (.t 32), none⟩,
                  ⟨some 15, .mv (.t 34), none⟩])
            (.seq (.region
                [⟨some 36, .mv (.t 11), none⟩,
                  ⟨some 37, .mv (.t 1), none⟩,
                  ⟨some 38, .mv (.t 2), none⟩,
                  ⟨some 39, .mv (.t 15), none⟩,
                  ⟨some 40, .bin .add (.t 39) (.k (.c (.int .i64 1))), none⟩,
                  ⟨some 41, .call F_pbkdf_Part [.t 36, .t 37, .t 38, .t 40], none⟩,
                  ⟨some 35, .mv (.t 41), none⟩,
                  ⟨some 42, .extract (.t 35) 0, none⟩,
                  ⟨some 43, .extract (.t 35) 1, none⟩,
                  ⟨some 16, .mv (.t 42), none⟩,
                  ⟨some 17, .mv (.t 43), none⟩])
            (.region
              [⟨some 44, .mv (.t 14), none⟩,
                ⟨some 45, .mv (.t 16), none⟩,
                ⟨some 46, .append ([.int .u8 0]) 1 (.t 44) (.t 45), none⟩,
                ⟨some 14, .mv (.t 46), none⟩]))))
        (.region
          [⟨some 47, .bin .add (.t 32) (.k (.c (.int .i64 1))), none⟩,
            ⟨some 32, .mv (.t 47), none⟩])))))))
  (.seq (.region
      [⟨some 48, .mv (.t 14), none⟩,
        ⟨some 49, .mv (.t 3), none⟩,
        ⟨some 50, .sliceS 1 (.t 48) none (some (.t 49)), none⟩,
        ⟨some 51, .bytesStr (.t 50), none⟩,
        ⟨some 8, .mv (.t 51), none⟩,
        ⟨some 9, .mv (.k (.c (.int .i64 0))), none⟩])
  (.ret))))))))
theorem t_pbkdf_Key : A F_pbkdf_Key = some c_pbkdf_Key := by kernel_rfl

noncomputable def c_pbkdf_Check : AFn := AFn.mk 13 [.tmp 4]
  (.seq (.region
      [⟨some 4, .mv (.k (.c (.int .i64 0))), none⟩])
  (.seq (.seq (.region
        [⟨some 5, .mv (.t 0), none⟩,
          ⟨some 6, .call F_size_Within [.t 5, .k (.c (.int .i64 1)), .k (.c (.int .i64 4294967295))], none⟩,
          ⟨some 7, .un .not (.t 6), none⟩,
          ⟨some 8, .mv (.t 7), none⟩,
          ⟨some 9, .mv (.t 1), some (8, false)⟩,
          ⟨some 10, .call F_size_Within [.t 9, .k (.c (.int .i64 1)), .k (.c (.int .i64 65536))], some (8, false)⟩,
          ⟨some 11, .un .not (.t 10), some (8, false)⟩,
          ⟨some 12, .pick (.t 8) (.k (.c (.bool true))) (.t 11), none⟩])
    (.cond (.t 12)
      (.seq (.region
          [⟨some 4, .mv (.k (.c (.int .i64 2))), none⟩])
      (.ret))
      (.skip)))
  (.seq (.region
      [⟨some 4, .mv (.k (.c (.int .i64 0))), none⟩])
  (.ret))))
theorem t_pbkdf_Check : A F_pbkdf_Check = some c_pbkdf_Check := by kernel_rfl

noncomputable def c_pbkdf_Part : AFn := AFn.mk 41 [.tmp 8, .tmp 9]
  (.seq (.region
      [⟨some 8, .mv (.k (.c (.str []))), none⟩,
        ⟨some 9, .mv (.k (.c (.int .i64 0))), none⟩])
  (.seq (.seq (.region
        [⟨some 13, .mv (.t 0), none⟩,
          ⟨some 14, .eq false .ptr (.t 13) (.k (.c (.pnil))), none⟩])
    (.cond (.t 14)
      (.seq (.region
          [⟨some 8, .mv (.k (.c (.str []))), none⟩,
            ⟨some 9, .mv (.k (.c (.int .i64 11))), none⟩])
      (.ret))
      (.skip)))
  (.seq (.seq (.region
        [⟨some 15, .mv (.t 2), none⟩,
          ⟨some 16, .call F_pbkdf_Check [.t 15, .k (.c (.int .i64 1))], none⟩,
          ⟨some 10, .mv (.t 16), none⟩])
    (.seq (.region
        [⟨some 17, .mv (.t 10), none⟩,
          ⟨some 18, .bin .neq (.t 17) (.k (.c (.int .i64 0))), none⟩,
          ⟨some 19, .mv (.t 18), none⟩,
          ⟨some 20, .mv (.t 3), some (19, false)⟩,
          ⟨some 21, .bin .lss (.t 20) (.k (.c (.int .i64 1))), some (19, false)⟩,
          ⟨some 22, .pick (.t 19) (.k (.c (.bool true))) (.t 21), none⟩,
          ⟨some 23, .mv (.t 22), none⟩,
          ⟨some 24, .mv (.t 3), some (23, false)⟩,
          ⟨some 25, .bin .gtr (.t 24) (.k (.c (.int .i64 4294967295))), some (23, false)⟩,
          ⟨some 26, .pick (.t 23) (.k (.c (.bool true))) (.t 25), none⟩])
    (.cond (.t 26)
      (.seq (.region
          [⟨some 8, .mv (.k (.c (.str []))), none⟩,
            ⟨some 9, .mv (.k (.c (.int .i64 2))), none⟩])
      (.ret))
      (.skip))))
  (.seq (.region
      [⟨some 28, .mv (.t 0), none⟩,
        ⟨some 29, .mv (.t 2), none⟩,
        ⟨some 30, .mv (.t 1), none⟩,
        ⟨some 31, .mv (.t 3), none⟩,
        ⟨some 32, .convInt .u32 (.t 31), none⟩,
        ⟨some 33, .buildSlice ([.int .u32 0]) 1 1 [(0, 1, .t 32)], none⟩,
        ⟨some 34, .call F_words_Big32 [.t 33], none⟩,
        ⟨some 35, .bytesStr (.t 34), none⟩,
        ⟨some 36, .buildSlice ([.str [], .str []]) 1 2 [(0, 1, .t 30), (1, 1, .t 35)], none⟩,
        ⟨some 37, .call F_mac_Mac_Chain [.t 28, .t 29, .t 36], none⟩,
        ⟨some 27, .mv (.t 37), none⟩,
        ⟨some 38, .extract (.t 27) 0, none⟩,
        ⟨some 39, .extract (.t 27) 1, none⟩,
        ⟨some 11, .mv (.t 38), none⟩,
        ⟨some 12, .mv (.t 39), none⟩])
  (.seq (.region
      [⟨some 40, .mv (.t 12), none⟩,
        ⟨some 8, .mv (.t 40), none⟩,
        ⟨some 9, .mv (.k (.c (.int .i64 0))), none⟩])
  (.ret))))))
theorem t_pbkdf_Part : A F_pbkdf_Part = some c_pbkdf_Part := by kernel_rfl
end PK

/- Package pbkdf: Check, Part, Key. -/
namespace PK
open Go PAbs
set_option linter.unusedSimpArgs false
set_option linter.unusedVariables false
set_option maxRecDepth 100000
set_option maxHeartbeats 4000000

section
variable (fl : Nat) (H : AHeap)
def chkP (r b : Int) : Prop := (1 ≤ r ∧ r ≤ 4294967295) ∧ 1 ≤ b ∧ b ≤ 65536
instance (r b : Int) : Decidable (chkP r b) := by unfold chkP; exact inferInstance
theorem AC_pbkdfCheck (r b : Int) : AC A fl F_pbkdf_Check [.c (.int .i64 r), .c (.int .i64 b)] H (fun v H' => v = .c (.int .i64 (if chkP r b then 0 else 2)) ∧ H = H') := by
  refine AC_enter t_pbkdf_Check ?_; simp only [c_pbkdf_Check, enterA, List.replicate, List.length_cons, List.length_nil, Nat.reduceAdd, Nat.reduceSub, List.cons_append, List.nil_append]
  refine GO ?_
  refine AO_call rfl (AC_Within fl H r 1 4294967295) ?_
  rintro _ _ ⟨rfl, rfl⟩
  by_cases h1 : 1 ≤ r ∧ r ≤ 4294967295
  · rw [decide_eq_true h1]
    refine GO ?_
    refine AO_call rfl (AC_Within fl H b 1 65536) ?_
    rintro _ _ ⟨rfl, rfl⟩
    by_cases h2 : 1 ≤ b ∧ b ≤ 65536
    · rw [decide_eq_true h2, if_pos (show chkP r b from ⟨h1, h2⟩)]
      refine GO ?_
      exact AW_ret ⟨_, rfl, rfl, rfl⟩
    · rw [decide_eq_false h2, if_neg (show ¬ chkP r b from fun h => h2 h.2)]
      refine GO ?_
      exact AW_ret ⟨_, rfl, rfl, rfl⟩
  · rw [decide_eq_false h1, if_neg (show ¬ chkP r b from fun h => h1 h.1)]
    refine GO ?_
    exact AW_ret ⟨_, rfl, rfl, rfl⟩
end

def i4 (i : Nat) : List UInt8 := (beB 4 i).map UInt8.ofNat
theorem i4_length (i : Nat) : (i4 i).length = 4 := by simp [i4, beB_length]
theorem AC_pbkdfPart (H : AHeap) (m r i : Nat) (a b s : List UInt8) (hM : Macked H m a b) (hs : s.length ≤ 1000000) (ha : a.length ≤ 1000000) (hb : b.length ≤ 1000000) (hr : r < 1000000) (hi : 1 ≤ i) (hi2 : i ≤ 4294967295) :
    AC A H.length F_pbkdf_Part [.c (.ptr m 0), .c (.str s), .c (.int .i64 ((r + 1 : Nat) : Int)), .c (.int .i64 (i : Int))] H (fun v H' => v = .tup [.c (.str (accO a b (s ++ i4 i) r)), .c (.int .i64 0)] ∧ Kept H.length H H') := by
  refine AC.kept ?_ (Nat.le_refl _)
  obtain ⟨q1, p1, q2, p2, x1, x2, hm⟩ := id hM
  have hcm := hcells_own hm.own
  have ei := u32_nat (show i < 4294967296 by omega)
  refine AC_enter t_pbkdf_Part ?_; simp only [c_pbkdf_Part, enterA, List.replicate, List.length_cons, List.length_nil, Nat.reduceAdd, Nat.reduceSub, List.cons_append, List.nil_append]
  (repeat (first | refine GOS ?_ | (with_reducible (first | apply AO_any | apply AHd_any | apply AP_go | apply AHP_go); focus (simp only [Sm, wantedA, execA, stepA, List.getElem?_cons_zero, List.getElem?_cons_succ, if_true, if_false, binA, binInt, unA, eqA, Option.map, eq_self, reduceCtorEq, ite_true, ite_false, cellsAV, fitsAll, CK.fits, fillA, AV.cells, writeN, sliceCells, appendA, lenA, i64, loA, hiA, Nat.reduceAdd, Nat.reduceMul, Nat.reduceDiv, Nat.reduceSub, Nat.reduceLeDiff, Nat.reduceLT, Int.reduceLE, Int.reduceLT, foldA, maxA, minA, Int.reduceBEq, Int.reduceBNe, Int.reduceGT, Int.reduceGE, Int.reduceEq, Int.reduceNe, Int.reduceToNat, AOp.stops, ↓want_eq, ↓exec_lenX, ↓exec_storeX, ↓exec_storeN, storeN_one, ↓exec_bsX, ↓exec_sliceX, ↓exec_copyX, ↓exec_appNil, ↓exec_carryX, Nat.sub_zero, rep_len, hcm]; with_reducible first | exact EqP.at_ | exact EqP.cont | exact EqP.hcont | exact EqP.gate | exact EqP.hgate))))
  refine AO_call rfl (AC_pbkdfCheck H.length H ((r + 1 : Nat) : Int) 1) ?_
  rintro _ _ ⟨rfl, rfl⟩
  rw [if_pos (show chkP ((r + 1 : Nat) : Int) 1 from ⟨⟨by omega, by omega⟩, by omega, by omega⟩)]
  (repeat (first | refine GOS ?_ | (with_reducible (first | apply AO_any | apply AHd_any | apply AP_go | apply AHP_go); focus (simp only [Sm, wantedA, execA, stepA, List.getElem?_cons_zero, List.getElem?_cons_succ, if_true, if_false, binA, binInt, unA, eqA, Option.map, eq_self, reduceCtorEq, ite_true, ite_false, cellsAV, fitsAll, CK.fits, fillA, AV.cells, writeN, sliceCells, appendA, lenA, i64, loA, hiA, Nat.reduceAdd, Nat.reduceMul, Nat.reduceDiv, Nat.reduceSub, Nat.reduceLeDiff, Nat.reduceLT, Int.reduceLE, Int.reduceLT, foldA, maxA, minA, Int.reduceBEq, Int.reduceBNe, Int.reduceGT, Int.reduceGE, Int.reduceEq, Int.reduceNe, Int.reduceToNat, AOp.stops, ↓want_eq, ↓exec_lenX, ↓exec_storeX, ↓exec_storeN, storeN_one, ↓exec_bsX, ↓exec_sliceX, ↓exec_copyX, ↓exec_appNil, ↓exec_carryX, Nat.sub_zero, rep_len, decide_eq_false (show ¬ ((i : Nat) : Int) < 1 by omega), decide_eq_false (show ¬ ((i : Nat) : Int) > 4294967295 by omega), ei]; with_reducible first | exact EqP.at_ | exact EqP.cont | exact EqP.hcont | exact EqP.gate | exact EqP.hgate))))
  have hy1 : Rd (H ++ [Blk.own [Cell.int .u32 (i : Int)]]) (.slc H.length 0 1 1) 1 (W32 [i]) := (Own.one (f := 0) (Nat.zero_le _)).rd
  have l1 : (H ++ [Blk.own [Cell.int .u32 (i : Int)]]).length = H.length + 1 := by simp
  have hM1 := hM.kept (Kept.push H.length H [Blk.own [Cell.int .u32 (i : Int)]])
  generalize H ++ [Blk.own [Cell.int .u32 (i : Int)]] = H1 at *
  refine AO_call rfl (((AC_Big32 H1 _ [i] hy1 (by simp)).kept (Nat.le_refl _)).floor (by omega)) ?_
  rintro _ H2 ⟨⟨x, rfl, hx⟩, k2⟩
  have hfl : flat (beB 4) [i] [i].length = beB 4 i := by simp [flat]
  rw [hfl, W8B8 (beB_lt 4 i), show (beB 4 i).map UInt8.ofNat = i4 i from rfl] at hx
  have hM2 := hM1.kept k2
  have l2 := k2.1
  have hil := i4_length i
  (repeat (first | refine GOS ?_ | (with_reducible (first | apply AO_any | apply AHd_any | apply AP_go | apply AHP_go); focus (simp only [Sm, wantedA, execA, stepA, List.getElem?_cons_zero, List.getElem?_cons_succ, if_true, if_false, binA, binInt, unA, eqA, Option.map, eq_self, reduceCtorEq, ite_true, ite_false, cellsAV, fitsAll, CK.fits, fillA, AV.cells, writeN, sliceCells, appendA, lenA, i64, loA, hiA, Nat.reduceAdd, Nat.reduceMul, Nat.reduceDiv, Nat.reduceSub, Nat.reduceLeDiff, Nat.reduceLT, Int.reduceLE, Int.reduceLT, foldA, maxA, minA, Int.reduceBEq, Int.reduceBNe, Int.reduceGT, Int.reduceGE, Int.reduceEq, Int.reduceNe, Int.reduceToNat, AOp.stops, ↓want_eq, ↓exec_lenX, ↓exec_storeX, ↓exec_storeN, storeN_one, ↓exec_bsX, ↓exec_sliceX, ↓exec_copyX, ↓exec_appNil, ↓exec_carryX, Nat.sub_zero, rep_len, bsX_rd hx.rd]; with_reducible first | exact EqP.at_ | exact EqP.cont | exact EqP.hcont | exact EqP.gate | exact EqP.hgate))))
  have hy3 : Rd (H2 ++ [Blk.own [Cell.str s, Cell.str (i4 i)]]) (.slc H2.length 0 2 1) 1 ([s, i4 i].map Cell.str) := (Own.one (f := 0) (Nat.zero_le _)).rd
  have hfs : [s, i4 i].flatten = s ++ i4 i := by simp
  have hM3 := hM2.kept (Kept.push H2.length H2 [Blk.own [Cell.str s, Cell.str (i4 i)]])
  have l3 : (H2 ++ [Blk.own [Cell.str s, Cell.str (i4 i)]]).length = H2.length + 1 := by simp
  refine AO_call rfl ((AC_macChain _ m r _ a b [s, i4 i] hM3 hy3 (fun b h => by have := inX_slc.mp h; omega) (by simp) (by rw [hfs, List.length_append]; omega) ha hb hr).floor (by omega)) ?_
  rw [hfs]
  rintro _ H4 ⟨rfl, k4⟩
  refine GO ?_
  exact AW_ret ⟨_, rfl, rfl⟩

def prtO (a b s : List UInt8) (r i : Nat) : List UInt8 := accO a b (s ++ i4 (i + 1)) r
theorem prtO_length (a b s : List UInt8) (r i : Nat) : (prtO a b s r i).length = 32 := accO_length _ _ _ _
def kyO (a b s : List UInt8) (r n : Nat) : List UInt8 := (joinN (prtO a b s r) n).take n
theorem joinN_take {f : Nat → List UInt8} (h : ∀ i, (f i).length = 32) {n i : Nat} (hi : n ≤ i * 32) : ∀ j, i ≤ j → (joinN f j).take n = (joinN f i).take n
  | 0, hj => by have : i = 0 := by omega
                subst this; rfl
  | j + 1, hj => by
    rcases Nat.eq_or_lt_of_le hj with rfl | hj'
    · rfl
    · have h1 : i * 32 ≤ j * 32 := Nat.mul_le_mul_right _ (by omega)
      rw [joinN, List.take_append_of_le_length (by rw [joinN_length h]; omega)]
      exact joinN_take h hi j (by omega)
theorem kyO_of (a b s : List UInt8) (r : Nat) {n i : Nat} (hi : n ≤ i * 32) (hin : i ≤ n) : (joinN (prtO a b s r) i).take n = kyO a b s r n := (joinN_take (prtO_length a b s r) hi n hin).symm
theorem kyO_length (a b s : List UInt8) (r n : Nat) : (kyO a b s r n).length = n := by rw [kyO, List.length_take, joinN_length (prtO_length a b s r)]; omega
def pyI (sx a b : List UInt8) (m r n N : Nat) (H0 : AHeap) (i : Nat) (fr : AFrame) (H : AHeap) : Prop := Kept H0.length H0 H ∧ ∃ x, Own H0.length H x 1 (B8 (joinN (prtO a b sx r) i)) ∧ (∃ s : Nat → AV, fr = [s 0, .c (.str sx), .c (.int .i64 ((r + 1 : Nat) : Int)), .c (.int .i64 (n : Int)), s 4, s 5, s 6, s 7, s 8, s 9, s 10, .c (.ptr m 0), s 12, s 13, .c x, s 15, s 16, s 17, s 18, s 19, s 20, s 21, s 22, s 23, s 24, s 25, s 26, s 27, s 28, s 29, s 30, .c (.int .i64 (N : Int)), .c (.int .i64 (i : Int)), s 33, s 34, s 35, s 36, s 37, s 38, s 39, s 40, s 41, s 42, s 43, s 44, s 45, s 46, s 47, s 48, s 49, s 50, s 51])
theorem AC_pbkdfKey (H : AHeap) (w sx : List UInt8) (r n : Nat) (hw : w.length ≤ 1000000) (hs : sx.length ≤ 1000000) (hr : r < 1000000) (hn1 : 1 ≤ n) (hn : n ≤ 65536) :
    AC A H.length F_pbkdf_Key [.c (.str w), .c (.str sx), .c (.int .i64 ((r + 1 : Nat) : Int)), .c (.int .i64 (n : Int))] H
      (fun v H' => v = .tup [.c (.str (kyO (maskO w 54) (maskO w 92) sx r n)), .c (.int .i64 0)] ∧ Kept H.length H H') := by
  refine AC.kept ?_ (Nat.le_refl _)
  have n1 := maskO_length w 54
  have n2 := maskO_length w 92
  refine AC_enter t_pbkdf_Key ?_; simp only [c_pbkdf_Key, enterA, List.replicate, List.length_cons, List.length_nil, Nat.reduceAdd, Nat.reduceSub, List.cons_append, List.nil_append]
  refine GO ?_
  refine AO_call rfl (AC_pbkdfCheck H.length H ((r + 1 : Nat) : Int) n) ?_
  rintro _ _ ⟨rfl, rfl⟩
  rw [if_pos (show chkP ((r + 1 : Nat) : Int) n from ⟨⟨by omega, by omega⟩, by omega, by omega⟩)]
  refine GO ?_
  refine AO_call rfl (AC_macNew H w hw) ?_
  rintro _ H1 ⟨⟨m, rfl, hm, hM1⟩, k1⟩
  have l1 := k1.1
  generalize maskO w 54 = a at *
  generalize maskO w 92 = b at *
  refine GO ?_
  refine AO_call rfl (AC_Up_ H.length H1 n 32 (by omega) (by omega) (by omega)) ?_
  rintro _ _ ⟨rfl, rfl⟩
  obtain ⟨N, hN⟩ : ∃ N, upO n 32 = N := ⟨_, rfl⟩
  have hN1 : n ≤ N * 32 := by simp only [upO] at hN; omega
  have hN2 : N ≤ n := by simp only [upO] at hN; omega
  rw [hN]
  have hpl := prtO_length a b sx r
  refine GO ?_
  refine AW_mid (fun e fr H' => e = .normal ∧ pyI sx a b m r n N H1 N fr H') ?_ ?_
  · refine AW_block (AW_up (pyI sx a b m r n N H1) N ⟨Kept.refl _ _, .snil, Own.nil, stale _ _ rfl⟩ ?_)
    rintro i fr H2 hi ⟨k2, x, hx, st, rfl⟩
    have l2 := k2.1
    refine GO ?_
    refine AW_cond rfl ?_ ?_ <;> intro ht
    · have ht : (i : Int) < (N : Int) := of_decide_eq_true ht
      have hi2 : i < N := by omega
      have esc := i64_succ (show i < 9223372036854775807 by omega)
      (repeat (first | refine GOS ?_ | (with_reducible (first | apply AO_any | apply AHd_any | apply AP_go | apply AHP_go); focus (simp only [Sm, wantedA, execA, stepA, List.getElem?_cons_zero, List.getElem?_cons_succ, if_true, if_false, binA, binInt, unA, eqA, Option.map, eq_self, reduceCtorEq, ite_true, ite_false, cellsAV, fitsAll, CK.fits, fillA, AV.cells, writeN, sliceCells, appendA, lenA, i64, loA, hiA, Nat.reduceAdd, Nat.reduceMul, Nat.reduceDiv, Nat.reduceSub, Nat.reduceLeDiff, Nat.reduceLT, Int.reduceLE, Int.reduceLT, foldA, maxA, minA, Int.reduceBEq, Int.reduceBNe, Int.reduceGT, Int.reduceGE, Int.reduceEq, Int.reduceNe, Int.reduceToNat, AOp.stops, ↓want_eq, ↓exec_lenX, ↓exec_storeX, ↓exec_storeN, storeN_one, ↓exec_bsX, ↓exec_sliceX, ↓exec_copyX, ↓exec_appNil, ↓exec_carryX, Nat.sub_zero, rep_len, esc]; with_reducible first | exact EqP.at_ | exact EqP.cont | exact EqP.hcont | exact EqP.gate | exact EqP.hgate))))
      refine AO_call rfl ((AC_pbkdfPart H2 m r (i + 1) a b sx (hM1.kept k2) hs (by omega) (by omega) hr (by omega) (by omega)).floor (by omega)) ?_
      rintro _ H3 ⟨rfl, k3⟩
      have e1 : accO a b (sx ++ i4 (i + 1)) r = prtO a b sx r i := rfl
      rw [e1]
      have hjs : joinN (prtO a b sx r) i ++ prtO a b sx r i = joinN (prtO a b sx r) (i + 1) := rfl
      have hjl := joinN_length hpl i
      have hp := hpl i
      generalize prtO a b sx r i = t at *
      have hx3 := hx.kept k3
      have hst : sliceCells H3 1 (.c (.str t)) = some (B8 t) := by simp only [sliceCells, if_true]; rfl
      refine GO ?_
      refine AO_appendT (bytes := 1) (f := H1.length) hx3.t hst rfl (by omega) (Nat.mod_one _) (by omega) (by have := k3.1; omega) (by rw [B8_length, B8_length]; omega) rfl rfl ?_
      rintro q' n' H4 hq' hx4 c4
      rw [← B8_append, hjs] at hx4
      (repeat (first | refine GOS ?_ | (with_reducible (first | apply AO_any | apply AHd_any | apply AP_go | apply AHP_go); focus (simp only [Sm, wantedA, execA, stepA, List.getElem?_cons_zero, List.getElem?_cons_succ, if_true, if_false, binA, binInt, unA, eqA, Option.map, eq_self, reduceCtorEq, ite_true, ite_false, cellsAV, fitsAll, CK.fits, fillA, AV.cells, writeN, sliceCells, appendA, lenA, i64, loA, hiA, Nat.reduceAdd, Nat.reduceMul, Nat.reduceDiv, Nat.reduceSub, Nat.reduceLeDiff, Nat.reduceLT, Int.reduceLE, Int.reduceLT, foldA, maxA, minA, Int.reduceBEq, Int.reduceBNe, Int.reduceGT, Int.reduceGE, Int.reduceEq, Int.reduceNe, Int.reduceToNat, AOp.stops, ↓want_eq, ↓exec_lenX, ↓exec_storeX, ↓exec_storeN, storeN_one, ↓exec_bsX, ↓exec_sliceX, ↓exec_copyX, ↓exec_appNil, ↓exec_carryX, Nat.sub_zero, rep_len, esc]; with_reducible first | exact EqP.at_ | exact EqP.cont | exact EqP.hcont | exact EqP.gate | exact EqP.hgate))))
      exact ⟨hi2, kept_app (k2.trans (k3.mono l2)) hx3 c4, _, hx4, stale _ _ rfl⟩
    · obtain rfl : i = N := by have : ¬ (i : Int) < (N : Int) := of_decide_eq_false ht; omega
      exact AW_exit ⟨rfl, k2, x, hx, stale _ _ rfl⟩
  rintro e fr H2 ⟨rfl, k2, x, hx, st, rfl⟩
  have hjl := joinN_length hpl N
  have hky := kyO_of a b sx r hN1 hN2
  generalize joinN (prtO a b sx r) N = al at *
  obtain ⟨u, o, full, rfl, hf, hof, hfd⟩ := hx.t.slc (by rw [B8_length]; omega)
  have hsub := hx.rd.sub (i := 0) (j := n) (by omega) (by rw [B8_length]; omega)
  have e4 : (((B8 al).drop (0 * 1)).take ((n - 0) * 1)) = B8 (al.take n) := by simp [B8, List.map_take]
  rw [e4, hky, Nat.zero_mul, Nat.add_zero, Nat.sub_zero] at hsub
  (repeat (first | refine GOS ?_ | (with_reducible (first | apply AO_any | apply AHd_any | apply AP_go | apply AHP_go); focus (simp only [Sm, wantedA, execA, stepA, List.getElem?_cons_zero, List.getElem?_cons_succ, if_true, if_false, binA, binInt, unA, eqA, Option.map, eq_self, reduceCtorEq, ite_true, ite_false, cellsAV, fitsAll, CK.fits, fillA, AV.cells, writeN, sliceCells, appendA, lenA, i64, loA, hiA, Nat.reduceAdd, Nat.reduceMul, Nat.reduceDiv, Nat.reduceSub, Nat.reduceLeDiff, Nat.reduceLT, Int.reduceLE, Int.reduceLT, foldA, maxA, minA, Int.reduceBEq, Int.reduceBNe, Int.reduceGT, Int.reduceGE, Int.reduceEq, Int.reduceNe, Int.reduceToNat, AOp.stops, ↓want_eq, ↓exec_lenX, ↓exec_storeX, ↓exec_storeN, storeN_one, ↓exec_bsX, ↓exec_sliceX, ↓exec_copyX, ↓exec_appNil, ↓exec_carryX, Nat.sub_zero, rep_len, sliceX_to (sz := 1) (hcells_own hf) (show n ≤ (B8 al).length by rw [B8_length]; omega), bsX_rd hsub]; with_reducible first | exact EqP.at_ | exact EqP.cont | exact EqP.hcont | exact EqP.gate | exact EqP.hgate))))
  exact AW_ret ⟨_, rfl, rfl⟩
end PK
