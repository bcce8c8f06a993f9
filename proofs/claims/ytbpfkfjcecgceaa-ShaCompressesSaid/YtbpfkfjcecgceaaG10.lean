/- Texts of this claim, put together: L04b L05d L05e KPestleref04 L04c L05f KPestlelaw05 L05g L05h L01m L01n L01o L01p L05i. -/
import Derived.Test.YtbpfkfjcecgceaaG8
import Derived.Test.YtbpfkfjcecgceaaG9
/- Package feed: Put and Copy. -/
namespace PK
open Go PAbs
set_option linter.unusedSimpArgs false
set_option linter.unusedVariables false
set_option maxRecDepth 100000
set_option maxHeartbeats 4000000

theorem flat_take {ss : List (List UInt8)} {i : Nat} {x : List UInt8} (h : ss[i]? = some x) : (ss.take (i + 1)).flatten = (ss.take i).flatten ++ x := by
  rw [List.take_add_one, h]; simp

structure Fed (H0 H : AHeap) (p : Nat) (x0 x5 xh : Cell) (zs : List Cell) (size : Nat) (lazy : Bool) (all : List UInt8) (total k : Nat) : Prop where
  feed : FeedAt H p xh size lazy (all.drop (k * size)) total
  chg : Chg (fun b => b = p ∨ inX x0 b) H0 H
  hh : ∀ b, inX xh b → inX x0 b ∨ H0.length ≤ b
  out : BB H0.length H x5 zs (blks size all k)
  apart : ∀ b, inB x5 zs b → ¬ inX xh b
  le : k * size ≤ all.length
  self : ∀ z ∈ zs, ∀ b, inX z b → ¬ inX x5 b

theorem FeedAt.put {H : AHeap} {p : Nat} {x x' : Cell} {size : Nat} {lazy : Bool} {held held' : List UInt8} {total total' : Nat} (h : FeedAt H p x size lazy held total) (hx : OwnT 0 H x' 1 (B8 held')) (hn : ¬ inX x' p) :
    FeedAt (H.set p (.own [.int .i64 (size : Int), .bool lazy, x', .int .i64 (total' : Int)])) p x' size lazy held' total' :=
  ⟨hown_set (hown_lt h.1), hx.chg (Chg.set (S := (· = p)) rfl) (fun b hb e => hn (by rw [← e]; exact hb)), hn⟩
theorem drop_part {size : Nat} {all : List UInt8} {k : Nat} (h : (k + 1) * size ≤ all.length) : (all.drop (k * size)).take size = blk size all k ∧ (all.drop (k * size)).drop size = all.drop ((k + 1) * size) := by
  refine ⟨rfl, ?_⟩
  rw [List.drop_drop, Nat.add_mul, Nat.one_mul]


def putI (fl p : Nat) (x0 y : Cell) (size : Nat) (lazy : Bool) (held : List UInt8) (total : Nat) (ss : List (List UInt8)) (H0 : AHeap) (i : Nat) (fr : AFrame) (H : AHeap) : Prop :=
  ∃ x5 xh zs, Fed H0 H p x0 x5 xh zs size lazy (held ++ (ss.take i).flatten) (total + (ss.take i).flatten.length) (nb size lazy (held ++ (ss.take i).flatten).length) ∧ (∃ s : Nat → AV, fr = [.c (.ptr p 0), s 1, s 2, s 3, s 4, .c x5, s 6, s 7, s 8, s 9, s 10, s 11, s 12, s 13, s 14, s 15, s 16, .c y, .c (.int .i64 (ss.length : Int)), .c (.int .i64 (i : Int)), s 20, s 21, s 22, s 23, s 24, s 25, s 26, s 27, s 28, s 29, s 30, s 31, s 32, s 33, s 34, s 35, s 36, s 37, s 38, s 39, s 40, s 41, s 42, s 43, s 44, s 45, s 46, s 47, s 48, s 49, s 50, s 51, s 52, s 53, s 54, s 55, s 56, s 57, s 58, s 59, s 60, s 61, s 62, s 63, s 64, s 65, s 66, s 67, s 68, s 69, s 70, s 71, s 72, s 73, s 74, s 75, s 76, s 77])
def putJ (fl p : Nat) (x0 y : Cell) (size : Nat) (lazy : Bool) (all : List UInt8) (total : Nat) (ss : List (List UInt8)) (i : Nat) (H0 : AHeap) (m : Nat) (fr : AFrame) (H : AHeap) : Prop :=
  ∃ x5 xh zs k, k + m = nb size lazy all.length ∧ Fed H0 H p x0 x5 xh zs size lazy all total k ∧ (∃ s : Nat → AV, fr = [.c (.ptr p 0), s 1, s 2, s 3, s 4, .c x5, s 6, s 7, s 8, s 9, s 10, s 11, s 12, s 13, s 14, s 15, s 16, .c y, .c (.int .i64 (ss.length : Int)), .c (.int .i64 (i : Int)), s 20, s 21, s 22, s 23, s 24, s 25, s 26, s 27, s 28, s 29, s 30, s 31, s 32, s 33, s 34, s 35, s 36, s 37, s 38, s 39, s 40, s 41, s 42, s 43, s 44, s 45, s 46, s 47, s 48, s 49, s 50, s 51, s 52, s 53, s 54, s 55, s 56, s 57, s 58, s 59, s 60, s 61, s 62, s 63, s 64, s 65, s 66, s 67, s 68, s 69, s 70, s 71, s 72, s 73, s 74, s 75, s 76, s 77])

section
variable (fl : Nat) (H : AHeap) (p : Nat) (x y : Cell) (size : Nat) (lazy : Bool) (held : List UInt8) (total : Nat) (ss : List (List UInt8))

theorem AC_feed_Put (hF : FeedAt H p x size lazy held total) (hfl : fl ≤ p) (hfx : ∀ b, inX x b → fl ≤ b) (hy : Rd H y 1 (ss.map Cell.str)) (hyp : ¬ inX y p) (hyx : ∀ b, inX y b → ¬ inX x b)
    (h0 : 0 < size) (hs : size ≤ 65536) (hl : ss.length ≤ 1000000) (hb : held.length + ss.flatten.length ≤ 1000000000) (ht : total ≤ 1000000000) (hn : nb size lazy held.length = 0) :
    AC A fl F_feed_Feed_Put [.c (.ptr p 0), .c y] H (fun v H' => ∃ x' y' zs, v = .c y' ∧
      FeedAt H' p x' size lazy ((held ++ ss.flatten).drop (nb size lazy (held ++ ss.flatten).length * size)) (total + ss.flatten.length) ∧
      Chg (fun b => b = p ∨ inX x b) H H' ∧ (∀ b, inX x' b → H.length ≤ b) ∧ BB H.length H' y' zs (blks size (held ++ ss.flatten) (nb size lazy (held ++ ss.flatten).length)) ∧ (∀ b, inB y' zs b → ¬ inX x' b)) := by
  have yl : (ss.map Cell.str).length = ss.length := by simp
  have hp := hcells_own hF.1
  have hpl := hown_lt hF.1
  have e0 : ((size : Int) == 0) = false := by rw [beq_eq_false_iff_ne]; omega
  refine AC_enter t_feed_Feed_Put ?_; simp only [c_feed_Feed_Put, enterA, List.replicate, List.length_cons, List.length_nil, Nat.reduceAdd, Nat.reduceSub, List.cons_append, List.nil_append]
  (repeat (first | with_reducible refine thenQ_n ?_ | with_reducible refine blockQ_n ?_ | refine AW_skip ?_ | refine AW_seq ?_ | refine AW_ops ?_ | refine AW_blockS ?_ | refine AW_blockR ?_ | refine AW_blockD ?_ | refine AW_blockC ?_ | refine AO_nil ?_ | refine AW_draw ?_ | refine AW_draw3 ?_ | refine AW_blockD3 ?_ | refine AHd_nil ?_ | ((first | with_reducible apply AO_pre | with_reducible apply AHd_pre); focus (simp only [Sm, wantedA, execA, stepA, List.getElem?_cons_zero, List.getElem?_cons_succ, if_true, if_false, binA, binInt, unA, eqA, Option.map, eq_self, reduceCtorEq, ite_true, ite_false, fitsAll, CK.fits, fillA, AV.cells, writeN, readN, sliceCells, appendA, lenA, i64, loA, hiA, Nat.reduceAdd, Nat.reduceMul, Nat.reduceDiv, Nat.reduceSub, Nat.reduceLeDiff, Nat.reduceLT, Int.reduceLE, Int.reduceLT, foldA, maxA, minA, Int.reduceBEq, Int.reduceBNe, Int.reduceGT, Int.reduceGE, Int.reduceEq, Int.reduceNe, Int.reduceToNat, AOp.stops, ↓want_eq, ↓exec_lenX, hp, e0]; with_reducible rfl))))
  refine AW_cond (t := false) rfl (fun h => by cases h) fun _ => ?_
  (repeat (first | with_reducible refine thenQ_n ?_ | with_reducible refine blockQ_n ?_ | refine AW_skip ?_ | refine AW_seq ?_ | refine AW_ops ?_ | refine AW_blockS ?_ | refine AW_blockR ?_ | refine AW_blockD ?_ | refine AW_blockC ?_ | refine AO_nil ?_ | refine AW_draw ?_ | refine AW_draw3 ?_ | refine AW_blockD3 ?_ | refine AHd_nil ?_ | ((first | with_reducible apply AO_pre | with_reducible apply AHd_pre); focus (simp only [Sm, wantedA, execA, stepA, List.getElem?_cons_zero, List.getElem?_cons_succ, if_true, if_false, binA, binInt, unA, eqA, Option.map, eq_self, reduceCtorEq, ite_true, ite_false, fitsAll, CK.fits, fillA, AV.cells, writeN, readN, sliceCells, appendA, lenA, i64, loA, hiA, Nat.reduceAdd, Nat.reduceMul, Nat.reduceDiv, Nat.reduceSub, Nat.reduceLeDiff, Nat.reduceLT, Int.reduceLE, Int.reduceLT, foldA, maxA, minA, Int.reduceBEq, Int.reduceBNe, Int.reduceGT, Int.reduceGE, Int.reduceEq, Int.reduceNe, Int.reduceToNat, AOp.stops, ↓want_eq, ↓exec_lenX, hy.len1 _ yl]; with_reducible rfl))))
  refine AW_mid (fun e fr H' => e = .normal ∧ putI fl p x y size lazy held total ss H ss.length fr H') ?_ ?_
  · refine AW_block (AW_up (putI fl p x y size lazy held total ss H) ss.length ⟨.snil, x, [], ?_, stale _ _ rfl⟩ ?_)
    · simp only [List.take_zero, List.flatten_nil, List.append_nil, List.length_nil, Nat.add_zero, hn]
      exact ⟨by simpa using hF, Chg.refl _ _, fun b hb => .inl hb, BB.nil, fun b hb => by
        rcases hb with hb | ⟨z, hz, _⟩
        · exact absurd hb inX_snil
        · simp at hz, by simp, fun z hz => by simp at hz⟩
    rintro i fr H1 hi ⟨x5, xh, zs, hI, st, rfl⟩
    (repeat (first | with_reducible refine thenQ_n ?_ | with_reducible refine blockQ_n ?_ | refine AW_skip ?_ | refine AW_seq ?_ | refine AW_ops ?_ | refine AW_blockS ?_ | refine AW_blockR ?_ | refine AW_blockD ?_ | refine AW_blockC ?_ | refine AO_nil ?_ | refine AW_draw ?_ | refine AW_draw3 ?_ | refine AW_blockD3 ?_ | refine AHd_nil ?_ | ((first | with_reducible apply AO_pre | with_reducible apply AHd_pre); focus (simp only [Sm, wantedA, execA, stepA, List.getElem?_cons_zero, List.getElem?_cons_succ, if_true, if_false, binA, binInt, unA, eqA, Option.map, eq_self, reduceCtorEq, ite_true, ite_false, fitsAll, CK.fits, fillA, AV.cells, writeN, readN, sliceCells, appendA, lenA, i64, loA, hiA, Nat.reduceAdd, Nat.reduceMul, Nat.reduceDiv, Nat.reduceSub, Nat.reduceLeDiff, Nat.reduceLT, Int.reduceLE, Int.reduceLT, foldA, maxA, minA, Int.reduceBEq, Int.reduceBNe, Int.reduceGT, Int.reduceGE, Int.reduceEq, Int.reduceNe, Int.reduceToNat, AOp.stops, ↓want_eq, ↓exec_lenX]; with_reducible rfl))))
    refine AW_cond rfl ?_ ?_ <;> intro htt
    · have htt : (i : Int) < ss.length := of_decide_eq_true htt
      have hi2 : i < ss.length := by omega
      obtain ⟨w, hw⟩ : ∃ w, ss[i]? = some w := ⟨_, List.getElem?_eq_getElem hi2⟩
      have hyH1 : Rd H1 y 1 (ss.map Cell.str) := hy.chg hI.chg (fun b hb h => by rcases h with rfl | h; exact hyp hb; exact hyx b hb h)
      obtain ⟨u, o, full, rfl, hf, hg⟩ := hyH1.get (i := i) (by omega)
      have gx : full[o + i]? = some (.str w) := by rw [hg]; simp [hw]
      have hp1 := hcells_own hI.feed.1
      have hfe := flat_take hw
      have hwl : ((ss.take i).flatten.length + w.length) ≤ ss.flatten.length := by
        have h := congrArg List.flatten (List.take_append_drop (i + 1) ss)
        rw [List.flatten_append] at h
        have h := congrArg List.length h
        rw [List.length_append, hfe, List.length_append] at h; omega
      generalize hfa : (ss.take i).flatten = fa at *
      have ea : IntKind.i64.wrap (((total + fa.length : Nat) : Int) + (w.length : Int)) = ((total + fa.length + w.length : Nat) : Int) := i64_add (by omega)
      (repeat (first | with_reducible refine thenQ_n ?_ | with_reducible refine blockQ_n ?_ | refine AW_skip ?_ | refine AW_seq ?_ | refine AW_ops ?_ | refine AW_blockS ?_ | refine AW_blockR ?_ | refine AW_blockD ?_ | refine AW_blockC ?_ | refine AO_nil ?_ | refine AW_draw ?_ | refine AW_draw3 ?_ | refine AW_blockD3 ?_ | refine AHd_nil ?_ | ((first | with_reducible apply AO_pre | with_reducible apply AHd_pre); focus (simp only [Sm, wantedA, execA, stepA, List.getElem?_cons_zero, List.getElem?_cons_succ, if_true, if_false, binA, binInt, unA, eqA, Option.map, eq_self, reduceCtorEq, ite_true, ite_false, fitsAll, CK.fits, fillA, AV.cells, writeN, readN, sliceCells, appendA, lenA, i64, loA, hiA, Nat.reduceAdd, Nat.reduceMul, Nat.reduceDiv, Nat.reduceSub, Nat.reduceLeDiff, Nat.reduceLT, Int.reduceLE, Int.reduceLT, foldA, maxA, minA, Int.reduceBEq, Int.reduceBNe, Int.reduceGT, Int.reduceGE, Int.reduceEq, Int.reduceNe, Int.reduceToNat, AOp.stops, ↓want_eq, ↓exec_lenX, hf, gx, yl, htt, hp1, ea, ↓exec_storeX, storeX_own hI.feed.1 hfl (show 3 < 4 by omega)]; with_reducible rfl))))
      -- the total
      have hFa : FeedAt (H1.set p (.own [.int .i64 (size : Int), .bool lazy, xh, .int .i64 ((total + fa.length + w.length : Nat) : Int)])) p xh size lazy ((held ++ fa).drop (nb size lazy (held ++ fa).length * size)) (total + fa.length + w.length) := hI.feed.put hI.feed.2.1 hI.feed.2.2
      have cA : Chg (· = p) H1 (H1.set p (.own [.int .i64 (size : Int), .bool lazy, xh, .int .i64 ((total + fa.length + w.length : Nat) : Int)])) := Chg.set rfl
      generalize H1.set p (.own [.int .i64 (size : Int), .bool lazy, xh, .int .i64 ((total + fa.length + w.length : Nat) : Int)]) = H2 at *
      have hp2 := hcells_own hFa.1
      have hpx : ∀ b, inX xh b → b ≠ p := fun b hb e => hI.feed.2.2 (by rw [← e]; exact hb)
      have hlow : ∀ b, inX xh b → fl ≤ b := fun b hb => by
        rcases hI.hh b hb with h | h
        · exact hfx b h
        · omega
      (repeat (first | with_reducible refine thenQ_n ?_ | with_reducible refine blockQ_n ?_ | refine AW_skip ?_ | refine AW_seq ?_ | refine AW_ops ?_ | refine AW_blockS ?_ | refine AW_blockR ?_ | refine AW_blockD ?_ | refine AW_blockC ?_ | refine AO_nil ?_ | refine AW_draw ?_ | refine AW_draw3 ?_ | refine AW_blockD3 ?_ | refine AHd_nil ?_ | ((first | with_reducible apply AO_pre | with_reducible apply AHd_pre); focus (simp only [Sm, wantedA, execA, stepA, List.getElem?_cons_zero, List.getElem?_cons_succ, if_true, if_false, binA, binInt, unA, eqA, Option.map, eq_self, reduceCtorEq, ite_true, ite_false, fitsAll, CK.fits, fillA, AV.cells, writeN, readN, sliceCells, appendA, lenA, i64, loA, hiA, Nat.reduceAdd, Nat.reduceMul, Nat.reduceDiv, Nat.reduceSub, Nat.reduceLeDiff, Nat.reduceLT, Int.reduceLE, Int.reduceLT, foldA, maxA, minA, Int.reduceBEq, Int.reduceBNe, Int.reduceGT, Int.reduceGE, Int.reduceEq, Int.reduceNe, Int.reduceToNat, AOp.stops, ↓want_eq, ↓exec_lenX, hp2]; with_reducible rfl))))
      -- the bytes
      have hlen1 : (B8 ((held ++ fa).drop (nb size lazy (held ++ fa).length * size))).length ≤ held.length + fa.length := by rw [B8_length, List.length_drop, List.length_append]; omega
      refine AO_appendT (f := fl) (news := B8 w) (hFa.2.1.floor hlow) rfl rfl (by omega) (Nat.mod_one _) (Nat.le_refl _) (by have := hown_lt hFa.1; omega) (by have := B8_length (s := w); omega) rfl rfl ?_
      intro q' n' H3 hq' ho3 c3
      subst hq'
      have hpH2 := hown_lt hFa.1
      have hFp : hown H3 p = some [.int .i64 (size : Int), .bool lazy, xh, .int .i64 ((total + fa.length + w.length : Nat) : Int)] := c3.hown (fun h => hpx p h rfl) hFa.1
      have hp3 := hcells_own hFp
      rw [← B8_append] at ho3
      have hle : nb size lazy (held ++ fa).length * size ≤ (held ++ fa).length := nb_le h0
      have eall : held ++ fa ++ w = (held ++ fa) ++ w := rfl
      rw [← List.drop_append_of_le_length hle] at ho3
      have hq : H2.length ≠ p := by omega
      (repeat (first | with_reducible refine thenQ_n ?_ | with_reducible refine blockQ_n ?_ | refine AW_skip ?_ | refine AW_seq ?_ | refine AW_ops ?_ | refine AW_blockS ?_ | refine AW_blockR ?_ | refine AW_blockD ?_ | refine AW_blockC ?_ | refine AO_nil ?_ | refine AW_draw ?_ | refine AW_draw3 ?_ | refine AW_blockD3 ?_ | refine AHd_nil ?_ | ((first | with_reducible apply AO_pre | with_reducible apply AHd_pre); focus (simp only [Sm, wantedA, execA, stepA, List.getElem?_cons_zero, List.getElem?_cons_succ, if_true, if_false, binA, binInt, unA, eqA, Option.map, eq_self, reduceCtorEq, ite_true, ite_false, fitsAll, CK.fits, fillA, AV.cells, writeN, readN, sliceCells, appendA, lenA, i64, loA, hiA, Nat.reduceAdd, Nat.reduceMul, Nat.reduceDiv, Nat.reduceSub, Nat.reduceLeDiff, Nat.reduceLT, Int.reduceLE, Int.reduceLT, foldA, maxA, minA, Int.reduceBEq, Int.reduceBNe, Int.reduceGT, Int.reduceGE, Int.reduceEq, Int.reduceNe, Int.reduceToNat, AOp.stops, ↓want_eq, ↓exec_lenX, hp3, ↓exec_storeX, storeX_own hFp hfl (show 2 < 4 by omega)]; with_reducible rfl))))
      have hFb : FeedAt (H3.set p (.own [.int .i64 (size : Int), .bool lazy, .slc H2.length 0 n' 1, .int .i64 ((total + fa.length + w.length : Nat) : Int)])) p (.slc H2.length 0 n' 1) size lazy (((held ++ fa) ++ w).drop (nb size lazy (held ++ fa).length * size)) (total + fa.length + w.length) :=
        ⟨hown_set (hown_lt hFp), ((ho3.mono (Nat.zero_le _)).t).chg (Chg.set (S := (· = p)) rfl) (fun b hb e => hq (by rw [← inX_slc.mp hb, e])), fun h => hq (inX_slc.mp h).symm⟩
      have cB : Chg (fun b => b = p ∨ inX xh b) H1 (H3.set p (.own [.int .i64 (size : Int), .bool lazy, .slc H2.length 0 n' 1, .int .i64 ((total + fa.length + w.length : Nat) : Int)])) :=
        ((cA.mono (T := fun b => b = p ∨ inX xh b) fun b _ h => .inl h).trans c3 fun b _ h => .inr h).trans (Chg.set (S := (· = p)) rfl) fun b _ h => .inl h
      have hH2 : H1.length ≤ H2.length := cA.1
      generalize H3.set p (.own [.int .i64 (size : Int), .bool lazy, .slc H2.length 0 n' 1, .int .i64 ((total + fa.length + w.length : Nat) : Int)]) = H4 at *
      have hI4 : Fed H H4 p x x5 (.slc H2.length 0 n' 1) zs size lazy ((held ++ fa) ++ w) (total + fa.length + w.length) (nb size lazy (held ++ fa).length) := by
        refine ⟨hFb, hI.chg.trans cB fun b hb h => ?_, fun b hb => .inr (by rw [inX_slc.mp hb]; have := hI.chg.1; omega), ?_, fun b hb h => ?_, Nat.le_trans hle (by simp), hI.self⟩
        · rcases h with h | h
          · exact .inl h
          · rcases hI.hh b h with h | h
            · exact .inr h
            · omega
        · rw [blks_append hle]
          exact hI.out.chg cB fun b hb h => by
            rcases h with h | h
            · have := hI.out.le hb; omega
            · exact hI.apart b hb h
        · have := hI.out.lt hb
          rw [inX_slc.mp h] at this; omega
      have hmono : nb size lazy (held ++ fa).length ≤ nb size lazy ((held ++ fa) ++ w).length := nb_mono (by simp)
      have hall : ((held ++ fa) ++ w).length ≤ 1000000000 := by simp only [List.length_append]; omega
      have heq : held ++ (ss.take (i + 1)).flatten = (held ++ fa) ++ w := by rw [hfe]; simp
      have heq2 : total + (ss.take (i + 1)).flatten.length = total + fa.length + w.length := by rw [hfe]; simp; omega
      clear hI hFa hFb c3 cA cB hFp hp2 hp3 ho3 hf hp1 hp hlow hpx hg gx
      generalize hk0 : nb size lazy (held ++ fa).length = k0 at *
      generalize hA : (held ++ fa) ++ w = all at *
      generalize total + fa.length + w.length = tot at *
      refine AW_mid (fun e fr H' => e = .normal ∧ putJ fl p x (.slc u o ss.length 1) size lazy all tot ss i H 0 fr H') ?_ ?_
      · refine AW_block (AW_loopN (putJ fl p x (.slc u o ss.length 1) size lazy all tot ss i H) (nb size lazy all.length - k0) ⟨x5, _, zs, k0, by omega, hI4, stale _ _ rfl⟩ ?_)
        clear hI4 hmono hq hpH2 hle hlen1 H4 x5 xh zs H3 H2 hH2 H1 hyH1 n'
        rintro m fr H1 ⟨x5, xh, zs, k, hkm, hI, st, rfl⟩
        have hdl : (all.drop (k * size)).length = all.length - k * size := by rw [List.length_drop]
        have hpl1 := hown_lt hI.feed.1
        (repeat (first | with_reducible refine thenQ_n ?_ | with_reducible refine blockQ_n ?_ | refine AW_skip ?_ | refine AW_seq ?_ | refine AW_ops ?_ | refine AW_blockS ?_ | refine AW_blockR ?_ | refine AW_blockD ?_ | refine AW_blockC ?_ | refine AO_nil ?_ | refine AW_draw ?_ | refine AW_draw3 ?_ | refine AW_blockD3 ?_ | refine AHd_nil ?_ | ((first | with_reducible apply AO_pre | with_reducible apply AHd_pre); focus (simp only [Sm, wantedA, execA, stepA, List.getElem?_cons_zero, List.getElem?_cons_succ, if_true, if_false, binA, binInt, unA, eqA, Option.map, eq_self, reduceCtorEq, ite_true, ite_false, fitsAll, CK.fits, fillA, AV.cells, writeN, readN, sliceCells, appendA, lenA, i64, loA, hiA, Nat.reduceAdd, Nat.reduceMul, Nat.reduceDiv, Nat.reduceSub, Nat.reduceLeDiff, Nat.reduceLT, Int.reduceLE, Int.reduceLT, foldA, maxA, minA, Int.reduceBEq, Int.reduceBNe, Int.reduceGT, Int.reduceGE, Int.reduceEq, Int.reduceNe, Int.reduceToNat, AOp.stops, ↓want_eq, ↓exec_lenX]; with_reducible rfl))))
        refine AO_call rfl ((AC_feed_full H1 p xh size lazy _ tot hI.feed).floor (by omega)) ?_
        rintro v _ ⟨rfl, rfl⟩
        rw [hdl, nb_full h0 hI.le]
        (repeat (first | with_reducible refine thenQ_n ?_ | with_reducible refine blockQ_n ?_ | refine AW_skip ?_ | refine AW_seq ?_ | refine AW_ops ?_ | refine AW_blockS ?_ | refine AW_blockR ?_ | refine AW_blockD ?_ | refine AW_blockC ?_ | refine AO_nil ?_ | refine AW_draw ?_ | refine AW_draw3 ?_ | refine AW_blockD3 ?_ | refine AHd_nil ?_ | ((first | with_reducible apply AO_pre | with_reducible apply AHd_pre); focus (simp only [Sm, wantedA, execA, stepA, List.getElem?_cons_zero, List.getElem?_cons_succ, if_true, if_false, binA, binInt, unA, eqA, Option.map, eq_self, reduceCtorEq, ite_true, ite_false, fitsAll, CK.fits, fillA, AV.cells, writeN, readN, sliceCells, appendA, lenA, i64, loA, hiA, Nat.reduceAdd, Nat.reduceMul, Nat.reduceDiv, Nat.reduceSub, Nat.reduceLeDiff, Nat.reduceLT, Int.reduceLE, Int.reduceLT, foldA, maxA, minA, Int.reduceBEq, Int.reduceBNe, Int.reduceGT, Int.reduceGE, Int.reduceEq, Int.reduceNe, Int.reduceToNat, AOp.stops, ↓want_eq, ↓exec_lenX]; with_reducible rfl))))
        refine AW_cond rfl ?_ ?_ <;> intro hc
        · have hc : k < nb size lazy all.length := of_decide_eq_true hc
          have hk1 : (k + 1) * size ≤ all.length := Nat.le_trans (Nat.mul_le_mul_right size hc) (nb_le h0)
          have hks : (k + 1) * size = k * size + size := by rw [Nat.add_mul, Nat.one_mul]
          obtain ⟨d1, d2⟩ := drop_part hk1
          have hB : 0 < (B8 (all.drop (k * size))).length := by rw [B8_length, hdl]; omega
          obtain ⟨s, o', full', rfl, hs1, hs2, hs3⟩ := hI.feed.2.1.slc hB
          rw [B8_length, hdl] at hs2
          have hsub : Rd H1 (.slc s o' size 1) 1 (B8 (blk size all k)) := by
            have := hI.feed.2.1.rd.sub (i := 0) (j := size) (Nat.zero_le _) (by rw [B8_length, hdl]; omega)
            simp only [Nat.zero_mul, Nat.add_zero, Nat.sub_zero, List.drop_zero, Nat.mul_one] at this
            rw [← d1, show B8 ((all.drop (k * size)).take size) = (B8 (all.drop (k * size))).take size by simp [B8, List.map_take]]
            exact this
          have hdrop : OwnT 0 H1 (.slc s (o' + size) ((B8 (all.drop (k * size))).length - size) 1) 1 (B8 (all.drop ((k + 1) * size))) := by
            have := hI.feed.2.1.drop (k := size) (by rw [B8_length, hdl]; omega)
            rw [← d2, show B8 ((all.drop (k * size)).drop size) = (B8 (all.drop (k * size))).drop size by simp [B8, List.map_drop]]
            exact this
          have hbl : (blk size all k).length = size := by rw [← d1, List.length_take, hdl]; omega
          have bl8 : (B8 (blk size all k)).length = size := by rw [B8_length, hbl]
          have hp1 := hcells_own hI.feed.1
          have hs1' := hcells_own hs1
          have q1 : (size : Int) ≤ (((B8 (all.drop (k * size))).length : Nat) : Int) := by rw [B8_length, hdl]; omega
          have q2 : size ≤ (B8 (all.drop (k * size))).length := by rw [B8_length, hdl]; omega
          generalize (B8 (all.drop (k * size))).length = hn' at *
          (repeat (first | with_reducible refine thenQ_n ?_ | with_reducible refine blockQ_n ?_ | refine AW_skip ?_ | refine AW_seq ?_ | refine AW_ops ?_ | refine AW_blockS ?_ | refine AW_blockR ?_ | refine AW_blockD ?_ | refine AW_blockC ?_ | refine AO_nil ?_ | refine AW_draw ?_ | refine AW_draw3 ?_ | refine AW_blockD3 ?_ | refine AHd_nil ?_ | ((first | with_reducible apply AO_pre | with_reducible apply AHd_pre); focus (simp only [Sm, wantedA, execA, stepA, List.getElem?_cons_zero, List.getElem?_cons_succ, if_true, if_false, binA, binInt, unA, eqA, Option.map, eq_self, reduceCtorEq, ite_true, ite_false, fitsAll, CK.fits, fillA, AV.cells, writeN, readN, sliceCells, appendA, lenA, i64, loA, hiA, Nat.reduceAdd, Nat.reduceMul, Nat.reduceDiv, Nat.reduceSub, Nat.reduceLeDiff, Nat.reduceLT, Int.reduceLE, Int.reduceLT, foldA, maxA, minA, Int.reduceBEq, Int.reduceBNe, Int.reduceGT, Int.reduceGE, Int.reduceEq, Int.reduceNe, Int.reduceToNat, AOp.stops, ↓want_eq, ↓exec_lenX, hp1, hs1', q1, ↓exec_appNil, appNil_one hsub.cells bl8 (show size * 1 ≤ 140737488355328 by omega), Nat.sub_zero, Nat.zero_mul]; with_reducible rfl))))
          have cP : Chg none_ H1 (H1 ++ [.own (B8 (blk size all k))] ++ [.own [.slc H1.length 0 size 1]]) := by rw [List.append_assoc]; exact Chg.push _ _ _
          have hz0 : OwnT H.length (H1 ++ [.own (B8 (blk size all k))]) (.slc H1.length 0 size 1) 1 (B8 (blk size all k)) := OwnT.last hI.chg.1 (by rw [bl8, Nat.mul_one])
          have hz1 := hz0.chg (S := none_) (Chg.push _ _ [.own [.slc H1.length 0 size 1]]) (fun _ _ h => h)
          have hlast := cells_last (H := H1 ++ [.own (B8 (blk size all k))]) (cs := [.slc H1.length 0 size 1]) (n := 1) rfl
          have hout := hI.out.chg cP (fun _ _ h => h)
          have hFP := hI.feed.chg cP (fun h => h) (fun _ _ h => h)
          have hdP := hdrop.chg cP (fun _ _ h => h)
          have hzl : zs.length = k := by rw [hI.out.2.1, blks_length]
          have hPl : (H1 ++ [Blk.own (B8 (blk size all k))] ++ [Blk.own [Cell.slc H1.length 0 size 1]]).length = H1.length + 2 := by simp
          have hkn : k ≤ 1000000000 := by have := Nat.le_mul_of_pos_right k h0; have := hI.le; omega
          generalize hHP : H1 ++ [Blk.own (B8 (blk size all k))] ++ [Blk.own [Cell.slc H1.length 0 size 1]] = HP at *
          refine AO_appendT (f := H.length) (news := [.slc H1.length 0 size 1]) hout.1 ?_ rfl (by omega) (Nat.mod_one _) (by omega) (by have := hI.chg.1; omega) (by rw [hzl]; simp; omega) rfl rfl ?_
          · show sliceCells HP 1 (.c (.slc _ 0 1 1)) = _
            simpa using hlast
          intro q' n2 H2 hq' ho2 c2
          subst hq'
          have hpo : ¬ inX x5 p := fun h => by have := hout.1.le h; omega
          have hF2 := hFP.chg c2 hpo (fun b hb h => hI.apart b (.inl h) hb)
          have hd2 := hdP.chg c2 (fun b hb h => hI.apart b (.inl h) (by rw [inX_slc] at hb ⊢; exact hb))
          have hs2' : hcells H2 s = some full' := hcells_own (c2.hown (fun h => hI.apart s (.inl h) (inX_slc.mpr rfl)) (cP.hown (fun h => h) hs1))
          have hp2 := hcells_own hF2.1
          have hz2 := hz1.chg c2 (fun b hb h => by rw [inX_slc.mp hb] at h; have := hI.out.lt (.inl h); omega)
          have hsne : s ≠ p := fun e => hI.feed.2.2 (inX_slc.mpr e.symm)
          have hsl : s < H1.length := hown_lt hs1
          (repeat (first | with_reducible refine thenQ_n ?_ | with_reducible refine blockQ_n ?_ | refine AW_skip ?_ | refine AW_seq ?_ | refine AW_ops ?_ | refine AW_blockS ?_ | refine AW_blockR ?_ | refine AW_blockD ?_ | refine AW_blockC ?_ | refine AO_nil ?_ | refine AW_draw ?_ | refine AW_draw3 ?_ | refine AW_blockD3 ?_ | refine AHd_nil ?_ | ((first | with_reducible apply AO_pre | with_reducible apply AHd_pre); focus (simp only [Sm, wantedA, execA, stepA, List.getElem?_cons_zero, List.getElem?_cons_succ, if_true, if_false, binA, binInt, unA, eqA, Option.map, eq_self, reduceCtorEq, ite_true, ite_false, fitsAll, CK.fits, fillA, AV.cells, writeN, readN, sliceCells, appendA, lenA, i64, loA, hiA, Nat.reduceAdd, Nat.reduceMul, Nat.reduceDiv, Nat.reduceSub, Nat.reduceLeDiff, Nat.reduceLT, Int.reduceLE, Int.reduceLT, foldA, maxA, minA, Int.reduceBEq, Int.reduceBNe, Int.reduceGT, Int.reduceGE, Int.reduceEq, Int.reduceNe, Int.reduceToNat, AOp.stops, ↓want_eq, ↓exec_lenX, hp2, hs2', q2, Nat.le_refl, ↓exec_storeX, storeX_own hF2.1 hfl (show 2 < 4 by omega)]; with_reducible rfl))))
          have cS : Chg (· = p) H2 (H2.set p (.own [.int .i64 (size : Int), .bool lazy, .slc s (o' + size) (hn' - size) 1, .int .i64 (tot : Int)])) := Chg.set rfl
          have hF3 := hF2.put (total' := tot) hd2 (fun h => hsne (inX_slc.mp h).symm)
          generalize H2.set p (.own [.int .i64 (size : Int), .bool lazy, .slc s (o' + size) (hn' - size) 1, .int .i64 (tot : Int)]) = H3 at *
          have c13 : Chg (fun b => b = p ∨ inX x5 b) H1 H3 := (((cP.mono (T := fun b => b = p ∨ inX x5 b) fun _ _ h => h.elim).trans c2 fun _ _ h => .inr h).trans cS fun _ _ h => .inl h)
          refine ⟨m - 1, by omega, _, _, zs ++ [.slc H1.length 0 size 1], k + 1, by omega, ⟨hF3, ?_, ?_, ?_, ?_, hk1, ?_⟩, stale _ _ rfl⟩
          · refine hI.chg.trans c13 fun b hb h => ?_
            rcases h with h | h
            · exact .inl h
            · have := hI.out.le (.inl h); omega
          · intro b hb
            exact hI.hh b (by rw [inX_slc] at hb ⊢; exact hb)
          · rw [blks_succ]
            refine BB.snoc (fun j z w h1 h2 => ?_) hI.out.2.1 ?_ ?_
            · have hz := hI.out.2.2 j z w h1 h2
              refine ((hz.chg cP (fun _ _ h => h)).chg c2 (hI.self z (List.mem_of_getElem? h1))).chg cS fun b hb e => ?_
              have := hz.le hb; omega
            · exact ho2.t.chg cS fun b hb e => by rw [inX_slc.mp hb] at e; omega
            · exact hz2.chg cS fun b hb e => by rw [inX_slc.mp hb] at e; have := hI.chg.1; omega
          · intro b hb h
            rw [inX_slc.mp h] at hb
            rcases hb with hb | ⟨z, hz, hb⟩
            · have := inX_slc.mp hb; omega
            · rcases List.mem_append.mp hz with hz | hz
              · exact hI.apart s (.inr ⟨z, hz, hb⟩) (inX_slc.mpr rfl)
              · rw [List.mem_singleton.mp hz] at hb
                have := inX_slc.mp hb; omega
          · intro z hz b hb h
            rw [inX_slc.mp h] at hb
            rcases List.mem_append.mp hz with hz | hz
            · have := hI.out.lt (.inr ⟨z, hz, hb⟩); omega
            · rw [List.mem_singleton.mp hz] at hb
              have := inX_slc.mp hb; omega
        · have hc : ¬ k < nb size lazy all.length := of_decide_eq_false hc
          obtain rfl : m = 0 := by omega
          exact AW_exit ⟨rfl, x5, xh, zs, k, hkm, hI, stale _ _ rfl⟩
      rintro e fr H5 ⟨rfl, x5', xh', zs', k, hkm, hI5, st, rfl⟩
      (repeat (first | with_reducible refine thenQ_n ?_ | with_reducible refine blockQ_n ?_ | refine AW_skip ?_ | refine AW_seq ?_ | refine AW_ops ?_ | refine AW_blockS ?_ | refine AW_blockR ?_ | refine AW_blockD ?_ | refine AW_blockC ?_ | refine AO_nil ?_ | refine AW_draw ?_ | refine AW_draw3 ?_ | refine AW_blockD3 ?_ | refine AHd_nil ?_ | ((first | with_reducible apply AO_pre | with_reducible apply AHd_pre); focus (simp only [Sm, wantedA, execA, stepA, List.getElem?_cons_zero, List.getElem?_cons_succ, if_true, if_false, binA, binInt, unA, eqA, Option.map, eq_self, reduceCtorEq, ite_true, ite_false, fitsAll, CK.fits, fillA, AV.cells, writeN, readN, sliceCells, appendA, lenA, i64, loA, hiA, Nat.reduceAdd, Nat.reduceMul, Nat.reduceDiv, Nat.reduceSub, Nat.reduceLeDiff, Nat.reduceLT, Int.reduceLE, Int.reduceLT, foldA, maxA, minA, Int.reduceBEq, Int.reduceBNe, Int.reduceGT, Int.reduceGE, Int.reduceEq, Int.reduceNe, Int.reduceToNat, AOp.stops, ↓want_eq, ↓exec_lenX, i64_succ (show i < 9223372036854775807 by omega)]; with_reducible rfl))))
      refine ⟨hi2, x5', xh', zs', ?_, stale _ _ (by rw [yl]; rfl)⟩
      rw [heq, heq2, ← hkm]; exact hI5
    · obtain rfl : i = ss.length := by have : ¬ (i : Int) < ss.length := of_decide_eq_false htt; omega
      exact AW_exit ⟨rfl, x5, xh, zs, hI, stale _ _ rfl⟩
  rintro e fr H5 ⟨rfl, x5, xh, zs, hI, st, rfl⟩
  rw [List.take_length] at hI
  have hlen2 : (held ++ ss.flatten).length ≤ 1000000000 := by rw [List.length_append]; omega
  generalize held ++ ss.flatten = all at *
  have hfeed := hI.feed
  have hp5 := hcells_own hfeed.1
  have hdl : (all.drop (nb size lazy all.length * size)).length ≤ 1000000000 := by rw [List.length_drop]; omega
  generalize hrest : all.drop (nb size lazy all.length * size) = rest at *
  have hp6 := hcells_app (l := [Blk.own (B8 rest)]) hp5
  have ho6 := hown_app (l := [Blk.own (B8 rest)]) hfeed.1
  have hpl5 := hown_lt hfeed.1
  (repeat (first | with_reducible refine thenQ_n ?_ | with_reducible refine blockQ_n ?_ | refine AW_skip ?_ | refine AW_seq ?_ | refine AW_ops ?_ | refine AW_blockS ?_ | refine AW_blockR ?_ | refine AW_blockD ?_ | refine AW_blockC ?_ | refine AO_nil ?_ | refine AW_draw ?_ | refine AW_draw3 ?_ | refine AW_blockD3 ?_ | refine AHd_nil ?_ | ((first | with_reducible apply AO_pre | with_reducible apply AHd_pre); focus (simp only [Sm, wantedA, execA, stepA, List.getElem?_cons_zero, List.getElem?_cons_succ, if_true, if_false, binA, binInt, unA, eqA, Option.map, eq_self, reduceCtorEq, ite_true, ite_false, fitsAll, CK.fits, fillA, AV.cells, writeN, readN, sliceCells, appendA, lenA, i64, loA, hiA, Nat.reduceAdd, Nat.reduceMul, Nat.reduceDiv, Nat.reduceSub, Nat.reduceLeDiff, Nat.reduceLT, Int.reduceLE, Int.reduceLT, foldA, maxA, minA, Int.reduceBEq, Int.reduceBNe, Int.reduceGT, Int.reduceGE, Int.reduceEq, Int.reduceNe, Int.reduceToNat, AOp.stops, ↓want_eq, ↓exec_lenX, hp5, ↓exec_appNil, appNil_one hfeed.2.1.rd.cells B8_length (show rest.length * 1 ≤ 140737488355328 by omega), hp6, ↓exec_storeX, storeX_own ho6 hfl (show 2 < 4 by omega)]; with_reducible rfl))))
  refine AW_ret ⟨_, rfl, .slc H5.length 0 rest.length 1, x5, zs, rfl, ?_, ?_, ?_, ?_, ?_⟩
  · have hx : OwnT 0 (H5 ++ [Blk.own (B8 rest)]) (.slc H5.length 0 rest.length 1) 1 (B8 rest) := OwnT.last (Nat.zero_le _) (by rw [B8_length, Nat.mul_one])
    exact (hfeed.chg (S := none_) (Chg.push _ _ _) (fun h => h) (fun _ _ h => h)).put hx (fun h => by have := inX_slc.mp h; omega)
  · refine (hI.chg.trans (Chg.push none_ _ _) fun _ _ h => h.elim).trans (Chg.set (S := (· = p)) rfl) fun _ _ h => .inl h
  · intro b hb
    rw [inX_slc.mp hb]; exact hI.chg.1
  · refine (hI.out.chg (S := none_) (Chg.push _ _ _) (fun _ _ h => h)).chg (Chg.set (S := (· = p)) rfl) fun b hb e => ?_
    have := hI.out.le hb; omega
  · intro b hb h
    have := hI.out.lt hb
    rw [inX_slc.mp h] at this; omega
end

theorem AC_feed_Copy (H : AHeap) (p : Nat) (x : Cell) (size : Nat) (lazy : Bool) (held : List UInt8) (total : Nat) (hF : FeedAt H p x size lazy held total) (hb : held.length ≤ 100000000000) :
    AC A H.length F_feed_Feed_Copy [.c (.ptr p 0)] H (fun v H' => ∃ q, v = .c (.ptr q 0) ∧ H.length ≤ q ∧ ∃ x', FeedAt H' q x' size lazy held total ∧ ∀ b, inX x' b → H.length ≤ b) := by
  have hp := hcells_own hF.1
  have hpl := hown_lt hF.1
  have r1 : readN H p 0 4 = some [.int .i64 (size : Int), .bool lazy, x, .int .i64 (total : Int)] := by simp only [readN, hp]; rfl
  refine AC_enter t_feed_Feed_Copy ?_; simp only [c_feed_Feed_Copy, enterA, List.replicate, List.length_cons, List.length_nil, Nat.reduceAdd, Nat.reduceSub, List.cons_append, List.nil_append]
  (repeat (first | with_reducible refine thenQ_n ?_ | with_reducible refine blockQ_n ?_ | refine AW_skip ?_ | refine AW_seq ?_ | refine AW_ops ?_ | refine AW_blockS ?_ | refine AW_blockR ?_ | refine AW_blockD ?_ | refine AW_blockC ?_ | refine AO_nil ?_ | refine AW_draw ?_ | refine AW_draw3 ?_ | refine AW_blockD3 ?_ | refine AHd_nil ?_ | ((first | with_reducible apply AO_pre | with_reducible apply AHd_pre); focus (simp only [Sm, wantedA, execA, stepA, List.getElem?_cons_zero, List.getElem?_cons_succ, if_true, if_false, binA, binInt, unA, eqA, Option.map, eq_self, reduceCtorEq, ite_true, ite_false, fitsAll, CK.fits, fillA, AV.cells, writeN, readN, sliceCells, appendA, lenA, i64, loA, hiA, Nat.reduceAdd, Nat.reduceMul, Nat.reduceDiv, Nat.reduceSub, Nat.reduceLeDiff, Nat.reduceLT, Int.reduceLE, Int.reduceLT, foldA, maxA, minA, Int.reduceBEq, Int.reduceBNe, Int.reduceGT, Int.reduceGE, Int.reduceEq, Int.reduceNe, Int.reduceToNat, AOp.stops, ↓want_eq, ↓exec_lenX, hp]; with_reducible rfl))))
  refine AW_cond (t := false) rfl (fun h => by cases h) fun _ => ?_
  have n1 : hown (H ++ [Blk.own [.int .i64 0, .bool false, .snil, .int .i64 0]]) H.length = some [.int .i64 0, .bool false, .snil, .int .i64 0] := hown_last
  (repeat (first | with_reducible refine thenQ_n ?_ | with_reducible refine blockQ_n ?_ | refine AW_skip ?_ | refine AW_seq ?_ | refine AW_ops ?_ | refine AW_blockS ?_ | refine AW_blockR ?_ | refine AW_blockD ?_ | refine AW_blockC ?_ | refine AO_nil ?_ | refine AW_draw ?_ | refine AW_draw3 ?_ | refine AW_blockD3 ?_ | refine AHd_nil ?_ | ((first | with_reducible apply AO_pre | with_reducible apply AHd_pre); focus (simp only [Sm, wantedA, execA, stepA, List.getElem?_cons_zero, List.getElem?_cons_succ, if_true, if_false, binA, binInt, unA, eqA, Option.map, eq_self, reduceCtorEq, ite_true, ite_false, fitsAll, CK.fits, fillA, AV.cells, writeN, readN, sliceCells, appendA, lenA, i64, loA, hiA, Nat.reduceAdd, Nat.reduceMul, Nat.reduceDiv, Nat.reduceSub, Nat.reduceLeDiff, Nat.reduceLT, Int.reduceLE, Int.reduceLT, foldA, maxA, minA, Int.reduceBEq, Int.reduceBNe, Int.reduceGT, Int.reduceGE, Int.reduceEq, Int.reduceNe, Int.reduceToNat, AOp.stops, ↓want_eq, ↓exec_lenX, hp, ↓r1, ↓exec_storeN, storeN_all n1 (Nat.le_refl _) (show _ = 4 from rfl) (show List.length [Cell.int .i64 (size : Int), .bool lazy, x, .int .i64 (total : Int)] = 4 from rfl)]; with_reducible rfl))))
  have hset : (H ++ [Blk.own [.int .i64 0, .bool false, .snil, .int .i64 0]]).set H.length (Blk.own [.int .i64 (size : Int), .bool lazy, x, .int .i64 (total : Int)]) = H ++ [Blk.own [.int .i64 (size : Int), .bool lazy, x, .int .i64 (total : Int)]] := by
    rw [List.set_append_right _ _ (Nat.le_refl _), Nat.sub_self]; rfl
  rw [hset]
  have c1 : Chg none_ H (H ++ [Blk.own [.int .i64 (size : Int), .bool lazy, x, .int .i64 (total : Int)]]) := Chg.push _ _ _
  have hF1 := hF.chg c1 (fun h => h) (fun _ _ h => h)
  have hq : hown (H ++ [Blk.own [.int .i64 (size : Int), .bool lazy, x, .int .i64 (total : Int)]]) H.length = some _ := hown_last
  have hl1 : (H ++ [Blk.own [.int .i64 (size : Int), .bool lazy, x, .int .i64 (total : Int)]]).length = H.length + 1 := by simp
  generalize H ++ [Blk.own [.int .i64 (size : Int), .bool lazy, x, .int .i64 (total : Int)]] = H1 at *
  refine AO_call rfl ((AC_feed_Rest H1 p x size lazy held total hF1 hb).floor (by omega)) ?_
  rintro _ _ ⟨rfl, rfl⟩
  have hq2 := hown_app (l := [Blk.own (B8 held)]) hq
  have hx : OwnT 0 (H1 ++ [Blk.own (B8 held)]) (.slc H1.length 0 held.length 1) 1 (B8 held) := OwnT.last (Nat.zero_le _) (by rw [B8_length, Nat.mul_one])
  have hF2 : FeedAt (H1 ++ [Blk.own (B8 held)]) H.length (.slc H1.length 0 held.length 1) size lazy held total → True := fun _ => trivial
  (repeat (first | with_reducible refine thenQ_n ?_ | with_reducible refine blockQ_n ?_ | refine AW_skip ?_ | refine AW_seq ?_ | refine AW_ops ?_ | refine AW_blockS ?_ | refine AW_blockR ?_ | refine AW_blockD ?_ | refine AW_blockC ?_ | refine AO_nil ?_ | refine AW_draw ?_ | refine AW_draw3 ?_ | refine AW_blockD3 ?_ | refine AHd_nil ?_ | ((first | with_reducible apply AO_pre | with_reducible apply AHd_pre); focus (simp only [Sm, wantedA, execA, stepA, List.getElem?_cons_zero, List.getElem?_cons_succ, if_true, if_false, binA, binInt, unA, eqA, Option.map, eq_self, reduceCtorEq, ite_true, ite_false, fitsAll, CK.fits, fillA, AV.cells, writeN, readN, sliceCells, appendA, lenA, i64, loA, hiA, Nat.reduceAdd, Nat.reduceMul, Nat.reduceDiv, Nat.reduceSub, Nat.reduceLeDiff, Nat.reduceLT, Int.reduceLE, Int.reduceLT, foldA, maxA, minA, Int.reduceBEq, Int.reduceBNe, Int.reduceGT, Int.reduceGE, Int.reduceEq, Int.reduceNe, Int.reduceToNat, AOp.stops, ↓want_eq, ↓exec_lenX, hcells_own hq2, ↓exec_storeX, storeX_own hq2 (Nat.le_refl _) (show 2 < 4 by omega)]; with_reducible rfl))))
  refine AW_ret ⟨_, rfl, H.length, rfl, Nat.le_refl _, .slc H1.length 0 held.length 1, ⟨hown_set (hown_lt hq2), ?_, fun h => by have := inX_slc.mp h; omega⟩, fun b h => by rw [inX_slc.mp h]; omega⟩
  exact hx.chg (Chg.set (S := (· = H.length)) rfl) fun b h e => by rw [inX_slc.mp h] at e; omega
end PK

/- SHA-256: what is put behind, walked. -/
namespace PK
open Go PAbs
set_option linter.unusedSimpArgs false
set_option linter.unusedVariables false
set_option maxRecDepth 100000
set_option maxHeartbeats 4000000

theorem W8B8 {l : List Nat} (h : ∀ b ∈ l, b < 256) : W8 l = B8 (l.map UInt8.ofNat) := by
  simp only [W8, B8, List.map_map]
  apply List.map_congr_left
  intro b hb
  have := h b hb
  simp only [Function.comp_apply, UInt8.toNat_ofNat']
  rw [Nat.mod_eq_of_lt (by simpa using this)]
theorem zeros8_ (n : Nat) : (List.replicate n [Cell.int .u8 0]).flatten = W8 (List.replicate n 0) := by
  induction n with
  | zero => rfl
  | succ n ih => simp only [List.replicate_succ, List.flatten_cons, ih, W8, List.map_cons]; rfl
def zlen (n : Nat) : Nat := (119 - n % 64) % 64
def padN (n : Nat) : List Nat := 128 :: List.replicate (zlen n) 0 ++ beB 8 (n * 8 % 18446744073709551616)
def padB (n : Nat) : List UInt8 := (padN n).map UInt8.ofNat
theorem padN_lt (n : Nat) : ∀ b ∈ padN n, b < 256 := by
  intro b hb
  simp only [padN, List.cons_append, List.mem_cons, List.mem_append, List.mem_replicate, beB, List.mem_reverse] at hb
  rcases hb with rfl | ⟨_, rfl⟩ | hb
  · decide
  · decide
  · exact leB_lt hb
theorem padN_length (n : Nat) : (padN n).length = zlen n + 9 := by simp only [padN, List.length_append, List.length_cons, List.length_replicate, beB_length]
theorem padB_length (n : Nat) : (padB n).length = zlen n + 9 := by rw [padB, List.length_map, padN_length]

theorem AC_shaPad (H : AHeap) (n : Nat) (hn : n < 9223372036854775808) : AC A H.length F_sha_Pad [.c (.int .i64 (n : Int))] H (fun v H' => v = .c (.str (padB n))) := by
  have e0 : decide ((n : Int) < 0) = false := decide_eq_false (by omega)
  have hzl : zlen n < 64 := Nat.mod_lt _ (by decide)
  have e1 : (n : Int).tmod 64 = ((n % 64 : Nat) : Int) := by rw [Int.tmod_eq_emod_of_nonneg (by omega)]; omega
  have e2 : IntKind.i64.wrap (119 - ((n % 64 : Nat) : Int)) = ((119 - n % 64 : Nat) : Int) := by rw [i64_of (by omega) (by omega)]; omega
  have e3 : ((119 - n % 64 : Nat) : Int).tmod 64 = ((zlen n : Nat) : Int) := by rw [Int.tmod_eq_emod_of_nonneg (by omega)]; simp only [zlen]; omega
  have e4 : IntKind.i64.wrap (((zlen n : Nat) : Int) + 1) = ((zlen n + 1 : Nat) : Int) := by rw [i64_of (by omega) (by omega)]; omega
  have e5 : IntKind.u64.wrap (n : Int) = (n : Int) := u64_nat (by omega)
  have e6 : IntKind.u64.wrap ((n : Int) * 8) = ((n * 8 % 18446744073709551616 : Nat) : Int) := by rw [wrap64]; omega
  have z : ¬ ((64 : Int) = 0) := by omega
  have hw : n * 8 % 18446744073709551616 < 18446744073709551616 := Nat.mod_lt _ (by decide)
  have hpad : padN n = 128 :: List.replicate (zlen n) 0 ++ beB 8 (n * 8 % 18446744073709551616) := rfl
  generalize n * 8 % 18446744073709551616 = w at *
  have b1 : ((zlen n + 1 : Nat) : Int) ≤ 140737488355328 := by omega
  have b0 : (0 : Int) ≤ ((zlen n + 1 : Nat) : Int) := by omega
  have b2 : (0 : Int) < ((zlen n + 1 : Nat) : Int) := by omega
  have o1 : hown (H ++ [Blk.own (W8 (List.replicate (zlen n + 1) 0))]) H.length = some (W8 (List.replicate (zlen n + 1) 0)) := hown_last
  obtain ⟨H2, s2, o2, c2, l2⟩ := storeX_ex (o := 0) o1 (Nat.le_refl _) (by rw [W8_length, List.length_replicate]; omega) (.int .u8 128)
  have e7 : (W8 (List.replicate (zlen n + 1) 0)).set 0 (.int .u8 128) = W8 (128 :: List.replicate (zlen n) 0) := rfl
  rw [e7] at o2
  have hc1 := hcells_own o1
  refine AC_enter t_sha_Pad ?_; simp only [c_sha_Pad, enterA, List.replicate, List.length_cons, List.length_nil, Nat.reduceAdd, Nat.reduceSub, List.cons_append, List.nil_append]
  (repeat (first | with_reducible (first | refine thenQ_n ?_ | refine blockQ_n ?_ | refine thenQ_e ?_ | refine thenQ_r ?_ | refine blockQ_r ?_ | refine blockQ_s ?_ | refine blockQ_o rfl ?_) | refine AW_skip ?_ | refine AW_seq ?_ | refine AW_ops ?_ | refine AW_blockS ?_ | refine AW_blockR ?_ | refine AW_blockD ?_ | refine AW_blockC ?_ | refine AO_nil ?_ | refine AW_draw ?_ | refine AW_draw3 ?_ | refine AW_blockD3 ?_ | (refine AW_drawA ?_; simp only [atBlk, Sm]) | refine AHd_nil ?_ | with_reducible (first | refine AP_at ?_ | refine AHP_at ?_) | (with_reducible (first | apply AO_any | apply AHd_any | apply AP_go | apply AHP_go); focus (simp only [Sm, wantedA, execA, stepA, List.getElem?_cons_zero, List.getElem?_cons_succ, if_true, if_false, binA, binInt, unA, eqA, Option.map, eq_self, reduceCtorEq, ite_true, ite_false, fitsAll, CK.fits, fillA, AV.cells, writeN, sliceCells, appendA, lenA, i64, loA, hiA, Nat.reduceAdd, Nat.reduceMul, Nat.reduceDiv, Nat.reduceSub, Nat.reduceLeDiff, Nat.reduceLT, Int.reduceLE, Int.reduceLT, foldA, maxA, minA, Int.reduceBEq, Int.reduceBNe, Int.reduceGT, Int.reduceGE, Int.reduceEq, Int.reduceNe, Int.reduceToNat, AOp.stops, ↓want_eq, ↓exec_lenX, ↓exec_storeX, ↓exec_storeN, storeN_one, ↓exec_bsX, ↓exec_sliceX, ↓exec_copyX, ↓exec_appNil, ↓exec_carryX, Nat.sub_zero, rep_len, e0, z, e1, e2, e3, e4, b0, b1, b2, Int.le_refl, zeros8_, Int.mul_one, hc1, s2, Nat.zero_add, e5, e6]; with_reducible first | exact EqP.at_ | exact EqP.cont | exact EqP.hcont | exact EqP.gate | exact EqP.hgate)) | (refine AW_ift ?_ ?_; focus (simp only [Sm]; done)) | (refine AW_iff ?_ ?_; focus (simp only [Sm]; done))))
  have l2 : H2.length = H.length + 1 := by rw [l2]; simp
  have cx : Chg none_ H2 (H2 ++ [Blk.own [Cell.int .u64 (w : Int)]]) := Chg.push _ _ _
  have hy : Rd (H2 ++ [Blk.own [Cell.int .u64 (w : Int)]]) (.slc H2.length 0 1 1) 1 (W64w [w]) := (Own.one (f := 0) (Nat.zero_le _)).rd
  have o3 := cx.hown (fun h => h) o2
  have l3 : (H2 ++ [Blk.own [Cell.int .u64 (w : Int)]]).length = H2.length + 1 := by simp
  generalize H2 ++ [Blk.own [Cell.int .u64 (w : Int)]] = H3 at *
  refine AO_call rfl (((AC_Big64 H3 _ [w] hy (by simp)).kept (Nat.le_refl _)).floor (by omega)) ?_
  rintro v H4 ⟨⟨x, rfl, hx⟩, k4⟩
  have o4 : hown H4 H.length = some (W8 (128 :: List.replicate (zlen n) 0)) := by rw [k4.hown (by omega) (by omega)]; exact o3
  have fl1 : flat (beB 8) [w] [w].length = beB 8 w := rfl
  rw [fl1] at hx
  have hu : OwnT H.length H4 (.slc H.length 0 (zlen n + 1) 1) 1 (W8 (128 :: List.replicate (zlen n) 0)) := Own.t (.inr ⟨_, _, rfl, by simp [W8], Nat.le_refl _, o4⟩)
  refine AO_appendT (bytes := 1) (f := H.length) hu hx.rd.cells rfl (by omega) (Nat.mod_one _) (Nat.le_refl _) (by have := k4.1; omega) (by rw [W8_length, W8_length, beB_length]; simp; omega) rfl rfl ?_
  rintro q n' H5 hq h5 c5
  rw [← W8_append, ← hpad, W8B8 (padN_lt n)] at h5
  (repeat (first | with_reducible (first | refine thenQ_n ?_ | refine blockQ_n ?_ | refine thenQ_e ?_ | refine thenQ_r ?_ | refine blockQ_r ?_ | refine blockQ_s ?_ | refine blockQ_o rfl ?_) | refine AW_skip ?_ | refine AW_seq ?_ | refine AW_ops ?_ | refine AW_blockS ?_ | refine AW_blockR ?_ | refine AW_blockD ?_ | refine AW_blockC ?_ | refine AO_nil ?_ | refine AW_draw ?_ | refine AW_draw3 ?_ | refine AW_blockD3 ?_ | (refine AW_drawA ?_; simp only [atBlk, Sm]) | refine AHd_nil ?_ | with_reducible (first | refine AP_at ?_ | refine AHP_at ?_) | (with_reducible (first | apply AO_any | apply AHd_any | apply AP_go | apply AHP_go); focus (simp only [Sm, wantedA, execA, stepA, List.getElem?_cons_zero, List.getElem?_cons_succ, if_true, if_false, binA, binInt, unA, eqA, Option.map, eq_self, reduceCtorEq, ite_true, ite_false, fitsAll, CK.fits, fillA, AV.cells, writeN, sliceCells, appendA, lenA, i64, loA, hiA, Nat.reduceAdd, Nat.reduceMul, Nat.reduceDiv, Nat.reduceSub, Nat.reduceLeDiff, Nat.reduceLT, Int.reduceLE, Int.reduceLT, foldA, maxA, minA, Int.reduceBEq, Int.reduceBNe, Int.reduceGT, Int.reduceGE, Int.reduceEq, Int.reduceNe, Int.reduceToNat, AOp.stops, ↓want_eq, ↓exec_lenX, ↓exec_storeX, ↓exec_storeN, storeN_one, ↓exec_bsX, ↓exec_sliceX, ↓exec_copyX, ↓exec_appNil, ↓exec_carryX, Nat.sub_zero, rep_len, bsX_rd h5.rd]; with_reducible first | exact EqP.at_ | exact EqP.cont | exact EqP.hcont | exact EqP.gate | exact EqP.hgate)) | (refine AW_ift ?_ ?_; focus (simp only [Sm]; done)) | (refine AW_iff ?_ ?_; focus (simp only [Sm]; done))))
  exact AW_ret ⟨_, rfl, rfl⟩
end PK

/- SHA-256: a hash: New and Add, walked. -/
namespace PK
open Go PAbs
set_option linter.unusedSimpArgs false
set_option linter.unusedVariables false
set_option maxRecDepth 100000
set_option maxHeartbeats 4000000

theorem FeedAt.new_ (H : AHeap) (size : Nat) (lazy : Bool) : FeedAt (H ++ [Blk.own [.int .i64 (size : Int), .bool lazy, .snil, .int .i64 0]]) H.length .snil size lazy [] 0 := ⟨hown_last, OwnT.nil, inX_snil⟩
theorem BB.get_ {n : Nat} {H : AHeap} {y : Cell} {zs : List Cell} {bs : List (List UInt8)} (h : BB n H y zs bs) {i m : Nat} {b : List UInt8} (hb : bs[i]? = some b) (hm : bs.length = m) : ∃ s o full z, y = .slc s o m 1 ∧ hcells H s = some full ∧ full[o + i]? = some z ∧ Rd H z 1 (B8 b) := by
  have hi : i < zs.length := by rw [h.2.1]; exact (List.getElem?_eq_some_iff.mp hb).1
  obtain ⟨s, o, full, e, hf, hg⟩ := h.1.rd.get hi
  have hz : zs[i]? = some zs[i] := List.getElem?_eq_getElem hi
  exact ⟨s, o, full, zs[i], by rw [e, h.2.1, hm], hf, by rw [hg, hz], (h.2.2 i _ _ hz hb).rd⟩
theorem storeN_tail {n fl p : Nat} {H : AHeap} {c : Cell} {cs vs : List Cell} (hb : hown H p = some (c :: cs)) (hf : fl ≤ p) (hc : cs.length = n) (hv : vs.length = n) : storeN n fl H (.c (.ptr p 1)) (.agg vs) = some (aundef, H.set p (.own (c :: vs))) := by
  simp only [storeN, AV.cells, writeN, hb, hv, if_true]
  rw [if_pos ⟨hf, by simp only [List.length_cons]; omega⟩, List.drop_eq_nil_of_le (by simp only [List.length_cons]; omega)]; simp
theorem storeN_tail_ex {n fl p : Nat} {H : AHeap} {c : Cell} {cs : List Cell} (ho : hown H p = some (c :: cs)) (hf : fl ≤ p) (hc : cs.length = n) (vs : List Cell) (hv : vs.length = n) :
    ∃ H', storeN n fl H (.c (.ptr p 1)) (.agg vs) = some (aundef, H') ∧ hown H' p = some (c :: vs) ∧ Chg (· = p) H H' ∧ H'.length = H.length :=
  ⟨_, storeN_tail ho hf hc hv, hown_set (hown_lt ho), Chg.set rfl, by simp⟩
theorem readN_tail {n p : Nat} {H : AHeap} {c : Cell} {cs : List Cell} (ho : hcells H p = some (c :: cs)) (hc : cs.length = n) : readN H p 1 n = some cs := by
  subst hc; simp [readN, ho]; omega

def toN (b : List UInt8) : List Nat := b.map UInt8.toNat
theorem B8_toN (b : List UInt8) : B8 b = W8 (toN b) := by simp [B8, W8, toN]
theorem toN_lt (b : List UInt8) (k : Nat) : (toN b).getD k 0 < 256 := by
  refine getD_lt_of (by decide) (fun x hx => ?_) k
  simp only [toN, List.mem_map] at hx
  obtain ⟨u, _, rfl⟩ := hx
  exact u.toNat_lt
theorem toN_length (b : List UInt8) : (toN b).length = b.length := by simp [toN]
theorem tk16 {bs : List Nat} (hl : bs.length = 64) : Wd 16 (tk 4 (3 - ·) bs bs.length) := ⟨by rw [tk_length, hl], tk_lt 4 _ _ _⟩
def stO (st : List Nat) (bl : List (List UInt8)) : List Nat := bl.foldl (fun s b => compO s (toN b)) st
theorem stO_wd {st : List Nat} (h : Wd 8 st) (bl : List (List UInt8)) : Wd 8 (stO st bl) := by
  induction bl generalizing st with
  | nil => exact h
  | cons b l ih => exact ih (compO_wd h)
theorem stO_succ {st : List Nat} {bl : List (List UInt8)} {i : Nat} {b : List UInt8} (h : bl[i]? = some b) : stO st (bl.take (i + 1)) = compO (stO st (bl.take i)) (toN b) := by
  rw [List.take_add_one, h]; simp [stO]
theorem blk_len {all : List UInt8} {k i : Nat} {b : List UInt8} (hk : k * 64 ≤ all.length) (h : (blks 64 all k)[i]? = some b) : b.length = 64 := by
  have hi : i < k := by have := (List.getElem?_eq_some_iff.mp h).1; rwa [blks_length] at this
  simp only [blks, List.getElem?_map, List.getElem?_range hi, Option.map_some, Option.some.injEq] at h
  subst h
  simp only [blk, List.length_take, List.length_drop]
  have : (i + 1) * 64 ≤ k * 64 := Nat.mul_le_mul_right _ hi
  omega

structure HashAt (H : AHeap) (q p : Nat) (x : Cell) (st : List Nat) (held : List UInt8) (total : Nat) : Prop where
  own : hown H q = some (.ptr p 0 :: W32 st)
  feed : FeedAt H p x 64 false held total
  ne : q ≠ p
  nx : ¬ inX x q
  wd : Wd 8 st
theorem HashAt.chg {S : Nat → Prop} {H H' : AHeap} {q p : Nat} {x : Cell} {st : List Nat} {held : List UInt8} {total : Nat} (h : HashAt H q p x st held total) (hc : Chg S H H') (hq : ¬ S q) (hp : ¬ S p) (hx : ∀ b, inX x b → ¬ S b) : HashAt H' q p x st held total :=
  ⟨hc.hown hq h.own, h.feed.chg hc hp hx, h.ne, h.nx, h.wd⟩

theorem AC_shaNew (H : AHeap) : AC A H.length F_sha_New [] H (fun v H' => ∃ q p, v = .c (.ptr q 0) ∧ H.length ≤ q ∧ H.length ≤ p ∧ HashAt H' q p .snil Is [] 0) := by
  refine AC_enter t_sha_New ?_; simp only [c_sha_New, enterA, List.replicate, List.length_cons, List.length_nil, Nat.reduceAdd, Nat.reduceSub, List.cons_append, List.nil_append]
  (repeat (first | with_reducible (first | refine thenQ_n ?_ | refine blockQ_n ?_ | refine thenQ_e ?_ | refine thenQ_r ?_ | refine blockQ_r ?_ | refine blockQ_s ?_ | refine blockQ_o rfl ?_) | refine AW_skip ?_ | refine AW_seq ?_ | refine AW_ops ?_ | refine AW_blockS ?_ | refine AW_blockR ?_ | refine AW_blockD ?_ | refine AW_blockC ?_ | refine AO_nil ?_ | refine AW_draw ?_ | refine AW_draw3 ?_ | refine AW_blockD3 ?_ | (refine AW_drawA ?_; simp only [atBlk, Sm]) | refine AHd_nil ?_ | with_reducible (first | refine AP_at ?_ | refine AHP_at ?_) | (with_reducible (first | apply AO_any | apply AHd_any | apply AP_go | apply AHP_go); focus (simp only [Sm, wantedA, execA, stepA, List.getElem?_cons_zero, List.getElem?_cons_succ, if_true, if_false, binA, binInt, unA, eqA, Option.map, eq_self, reduceCtorEq, ite_true, ite_false, fitsAll, CK.fits, fillA, AV.cells, writeN, sliceCells, appendA, lenA, i64, loA, hiA, Nat.reduceAdd, Nat.reduceMul, Nat.reduceDiv, Nat.reduceSub, Nat.reduceLeDiff, Nat.reduceLT, Int.reduceLE, Int.reduceLT, foldA, maxA, minA, Int.reduceBEq, Int.reduceBNe, Int.reduceGT, Int.reduceGE, Int.reduceEq, Int.reduceNe, Int.reduceToNat, AOp.stops, ↓want_eq, ↓exec_lenX, ↓exec_storeX, ↓exec_storeN, storeN_one, ↓exec_bsX, ↓exec_sliceX, ↓exec_copyX, ↓exec_appNil, ↓exec_carryX, Nat.sub_zero, rep_len]; with_reducible first | exact EqP.at_ | exact EqP.cont | exact EqP.hcont | exact EqP.gate | exact EqP.hgate)) | (refine AW_ift ?_ ?_; focus (simp only [Sm]; done)) | (refine AW_iff ?_ ?_; focus (simp only [Sm]; done))))
  refine AO_call rfl (AC_feed_New H.length H 64 false) ?_
  rintro v H1 (⟨hbad, rfl, rfl⟩ | ⟨h1, h2, rfl, rfl⟩)
  · omega
  have hF1 : FeedAt (H ++ [Blk.own [.int .i64 64, .bool false, .snil, .int .i64 0]]) H.length .snil 64 false [] 0 := FeedAt.new_ H 64 false
  have l1 : (H ++ [Blk.own [.int .i64 64, .bool false, .snil, .int .i64 0]]).length = H.length + 1 := by simp
  generalize H ++ [Blk.own [.int .i64 64, .bool false, .snil, .int .i64 0]] = H1 at *
  (repeat (first | with_reducible (first | refine thenQ_n ?_ | refine blockQ_n ?_ | refine thenQ_e ?_ | refine thenQ_r ?_ | refine blockQ_r ?_ | refine blockQ_s ?_ | refine blockQ_o rfl ?_) | refine AW_skip ?_ | refine AW_seq ?_ | refine AW_ops ?_ | refine AW_blockS ?_ | refine AW_blockR ?_ | refine AW_blockD ?_ | refine AW_blockC ?_ | refine AO_nil ?_ | refine AW_draw ?_ | refine AW_draw3 ?_ | refine AW_blockD3 ?_ | (refine AW_drawA ?_; simp only [atBlk, Sm]) | refine AHd_nil ?_ | with_reducible (first | refine AP_at ?_ | refine AHP_at ?_) | (with_reducible (first | apply AO_any | apply AHd_any | apply AP_go | apply AHP_go); focus (simp only [Sm, wantedA, execA, stepA, List.getElem?_cons_zero, List.getElem?_cons_succ, if_true, if_false, binA, binInt, unA, eqA, Option.map, eq_self, reduceCtorEq, ite_true, ite_false, fitsAll, CK.fits, fillA, AV.cells, writeN, sliceCells, appendA, lenA, i64, loA, hiA, Nat.reduceAdd, Nat.reduceMul, Nat.reduceDiv, Nat.reduceSub, Nat.reduceLeDiff, Nat.reduceLT, Int.reduceLE, Int.reduceLT, foldA, maxA, minA, Int.reduceBEq, Int.reduceBNe, Int.reduceGT, Int.reduceGE, Int.reduceEq, Int.reduceNe, Int.reduceToNat, AOp.stops, ↓want_eq, ↓exec_lenX, ↓exec_storeX, ↓exec_storeN, storeN_one, ↓exec_bsX, ↓exec_sliceX, ↓exec_copyX, ↓exec_appNil, ↓exec_carryX, Nat.sub_zero, rep_len]; with_reducible first | exact EqP.at_ | exact EqP.cont | exact EqP.hcont | exact EqP.gate | exact EqP.hgate)) | (refine AW_ift ?_ ?_; focus (simp only [Sm]; done)) | (refine AW_iff ?_ ?_; focus (simp only [Sm]; done))))
  refine AO_call rfl (((AC_Initial H1).kept (Nat.le_refl _)).floor (by omega)) ?_
  rintro _ H2 ⟨rfl, k2⟩
  have hF2 := hF1.chg (Chg.of_kept k2) (fun h => h) (fun _ _ h => h)
  have hI := Is_wd
  have hIl := hI.len
  generalize Is = st at *
  have tk8 : (W32 st).drop 8 = [] := List.drop_eq_nil_of_le (by omega)
  have tt8 : (W32 st).take 8 = W32 st := List.take_of_length_le (by omega)
  (repeat (first | with_reducible (first | refine thenQ_n ?_ | refine blockQ_n ?_ | refine thenQ_e ?_ | refine thenQ_r ?_ | refine blockQ_r ?_ | refine blockQ_s ?_ | refine blockQ_o rfl ?_) | refine AW_skip ?_ | refine AW_seq ?_ | refine AW_ops ?_ | refine AW_blockS ?_ | refine AW_blockR ?_ | refine AW_blockD ?_ | refine AW_blockC ?_ | refine AO_nil ?_ | refine AW_draw ?_ | refine AW_draw3 ?_ | refine AW_blockD3 ?_ | (refine AW_drawA ?_; simp only [atBlk, Sm]) | refine AHd_nil ?_ | with_reducible (first | refine AP_at ?_ | refine AHP_at ?_) | (with_reducible (first | apply AO_any | apply AHd_any | apply AP_go | apply AHP_go); focus (simp only [Sm, wantedA, execA, stepA, List.getElem?_cons_zero, List.getElem?_cons_succ, if_true, if_false, binA, binInt, unA, eqA, Option.map, eq_self, reduceCtorEq, ite_true, ite_false, fitsAll, CK.fits, fillA, AV.cells, writeN, sliceCells, appendA, lenA, i64, loA, hiA, Nat.reduceAdd, Nat.reduceMul, Nat.reduceDiv, Nat.reduceSub, Nat.reduceLeDiff, Nat.reduceLT, Int.reduceLE, Int.reduceLT, foldA, maxA, minA, Int.reduceBEq, Int.reduceBNe, Int.reduceGT, Int.reduceGE, Int.reduceEq, Int.reduceNe, Int.reduceToNat, AOp.stops, ↓want_eq, ↓exec_lenX, ↓exec_storeX, ↓exec_storeN, storeN_one, ↓exec_bsX, ↓exec_sliceX, ↓exec_copyX, ↓exec_appNil, ↓exec_carryX, Nat.sub_zero, rep_len, hIl, tk8, tt8]; with_reducible first | exact EqP.at_ | exact EqP.cont | exact EqP.hcont | exact EqP.gate | exact EqP.hgate)) | (refine AW_ift ?_ ?_; focus (simp only [Sm]; done)) | (refine AW_iff ?_ ?_; focus (simp only [Sm]; done))))
  have l2 := k2.1
  refine AW_ret ⟨_, rfl, H2.length, H.length, rfl, by omega, Nat.le_refl _, hown_last, hF2.chg (Chg.push none_ _ _) (fun h => h) (fun _ _ h => h), by omega, inX_snil, hI⟩

theorem AC_Compress' (H : AHeap) (y : Cell) (s : List Nat) (b : List UInt8) (hs : Wd 8 s) (hy : Rd H y 1 (B8 b)) (hl : b.length = 64) :
    AC A H.length F_sha_Compress [.agg (W32 s), .c y] H (fun v H' => v = .tup [.agg (W32 (compO s (toN b))), .c (.int .i64 0)] ∧ Kept H.length H H') :=
  (AC_Compress H y s (toN b) hs (by rw [← B8_toN]; exact hy) (by rw [toN_length]; exact hl) (toN_lt b) (tk16 (by rw [toN_length]; exact hl))).kept (Nat.le_refl _)


def addI (q p n : Nat) (y : Cell) (st : List Nat) (bl : List (List UInt8)) (H0 : AHeap) (i : Nat) (fr : AFrame) (H : AHeap) : Prop := Chg (· = q) H0 H ∧ hown H q = some (.ptr p 0 :: W32 (stO st (bl.take i))) ∧ (∃ s : Nat → AV, fr = [.c (.ptr q 0), s 1, s 2, s 3, s 4, s 5, s 6, s 7, s 8, s 9, s 10, s 11, s 12, s 13, .c y, .c (.int .i64 (n : Int)), .c (.int .i64 (i : Int)), s 17, s 18, s 19, s 20, s 21, s 22, s 23, s 24, s 25, s 26, s 27, s 28, s 29, s 30, s 31, s 32, s 33])
theorem AC_shaAdd (fl : Nat) (H : AHeap) (q p : Nat) (x y : Cell) (st : List Nat) (held : List UInt8) (total : Nat) (ss : List (List UInt8)) (hH : HashAt H q p x st held total) (hfq : fl ≤ q) (hfp : fl ≤ p) (hfx : ∀ b, inX x b → fl ≤ b)
    (hy : Rd H y 1 (ss.map Cell.str)) (hyp : ¬ inX y p) (hyx : ∀ b, inX y b → ¬ inX x b) (hl : ss.length ≤ 1000000) (hb : held.length + ss.flatten.length ≤ 1000000000) (ht : total ≤ 1000000000) (hn : held.length < 64) :
    AC A fl F_sha_Hash_Add [.c (.ptr q 0), .c y] H (fun v H' => ∃ x', v = .c (.ptr q 0) ∧
      HashAt H' q p x' (stO st (blks 64 (held ++ ss.flatten) ((held ++ ss.flatten).length / 64))) ((held ++ ss.flatten).drop ((held ++ ss.flatten).length / 64 * 64)) (total + ss.flatten.length) ∧
      Chg (fun b => b = q ∨ b = p ∨ inX x b) H H' ∧ ∀ b, inX x' b → H.length ≤ b) := by
  have hcq := hcells_own hH.own
  have hql := hown_lt hH.own
  have hpl := hown_lt hH.feed.1
  have hne := hH.ne
  have hnx := hH.nx
  have hwd := hH.wd
  have hn0 : nb 64 false held.length = 0 := by simp only [nb]; simp; omega
  have hnb : nb 64 false (held ++ ss.flatten).length = (held ++ ss.flatten).length / 64 := rfl
  have hkl : (held ++ ss.flatten).length / 64 * 64 ≤ (held ++ ss.flatten).length := Nat.div_mul_le_self _ _
  have hkb : (held ++ ss.flatten).length ≤ 1000000000 := by rw [List.length_append]; exact hb
  refine AC_enter t_sha_Hash_Add ?_; simp only [c_sha_Hash_Add, enterA, List.replicate, List.length_cons, List.length_nil, Nat.reduceAdd, Nat.reduceSub, List.cons_append, List.nil_append]
  (repeat (first | with_reducible (first | refine thenQ_n ?_ | refine blockQ_n ?_ | refine thenQ_e ?_ | refine thenQ_r ?_ | refine blockQ_r ?_ | refine blockQ_s ?_ | refine blockQ_o rfl ?_) | refine AW_skip ?_ | refine AW_seq ?_ | refine AW_ops ?_ | refine AW_blockS ?_ | refine AW_blockR ?_ | refine AW_blockD ?_ | refine AW_blockC ?_ | refine AO_nil ?_ | refine AW_draw ?_ | refine AW_draw3 ?_ | refine AW_blockD3 ?_ | (refine AW_drawA ?_; simp only [atBlk, Sm]) | refine AHd_nil ?_ | with_reducible (first | refine AP_at ?_ | refine AHP_at ?_) | (with_reducible (first | apply AO_any | apply AHd_any | apply AP_go | apply AHP_go); focus (simp only [Sm, wantedA, execA, stepA, List.getElem?_cons_zero, List.getElem?_cons_succ, if_true, if_false, binA, binInt, unA, eqA, Option.map, eq_self, reduceCtorEq, ite_true, ite_false, fitsAll, CK.fits, fillA, AV.cells, writeN, sliceCells, appendA, lenA, i64, loA, hiA, Nat.reduceAdd, Nat.reduceMul, Nat.reduceDiv, Nat.reduceSub, Nat.reduceLeDiff, Nat.reduceLT, Int.reduceLE, Int.reduceLT, foldA, maxA, minA, Int.reduceBEq, Int.reduceBNe, Int.reduceGT, Int.reduceGE, Int.reduceEq, Int.reduceNe, Int.reduceToNat, AOp.stops, ↓want_eq, ↓exec_lenX, ↓exec_storeX, ↓exec_storeN, storeN_one, ↓exec_bsX, ↓exec_sliceX, ↓exec_copyX, ↓exec_appNil, ↓exec_carryX, Nat.sub_zero, rep_len, hcq]; with_reducible first | exact EqP.at_ | exact EqP.cont | exact EqP.hcont | exact EqP.gate | exact EqP.hgate)) | (refine AW_ift ?_ ?_; focus (simp only [Sm]; done)) | (refine AW_iff ?_ ?_; focus (simp only [Sm]; done))))
  refine AO_call rfl (AC_feed_Put fl H p x y 64 false held total ss hH.feed hfp hfx hy hyp hyx (by omega) (by omega) hl hb ht hn0) ?_
  rintro v H1 ⟨x', y', zs, rfl, hF1, c1, hx1, hBB, hap⟩
  rw [hnb] at hF1 hBB
  have hbll := blks_length (size := 64) (all := held ++ ss.flatten) (k := (held ++ ss.flatten).length / 64)
  have hbl64 : ∀ (i : Nat) (b : List UInt8), (blks 64 (held ++ ss.flatten) ((held ++ ss.flatten).length / 64))[i]? = some b → b.length = 64 := fun i b h => blk_len hkl h
  have hnk : (held ++ ss.flatten).length / 64 ≤ 1000000000 := by omega
  generalize (held ++ ss.flatten).length / 64 = n at *
  generalize blks 64 (held ++ ss.flatten) n = bl at *
  have o1 := c1.hown (by rintro (h | h); exact hne h; exact hnx h) hH.own
  have ly := hBB.1.rd.len n (by rw [hBB.2.1, hbll, Nat.mul_one]) (by decide)
  (repeat (first | with_reducible (first | refine thenQ_n ?_ | refine blockQ_n ?_ | refine thenQ_e ?_ | refine thenQ_r ?_ | refine blockQ_r ?_ | refine blockQ_s ?_ | refine blockQ_o rfl ?_) | refine AW_skip ?_ | refine AW_seq ?_ | refine AW_ops ?_ | refine AW_blockS ?_ | refine AW_blockR ?_ | refine AW_blockD ?_ | refine AW_blockC ?_ | refine AO_nil ?_ | refine AW_draw ?_ | refine AW_draw3 ?_ | refine AW_blockD3 ?_ | (refine AW_drawA ?_; simp only [atBlk, Sm]) | refine AHd_nil ?_ | with_reducible (first | refine AP_at ?_ | refine AHP_at ?_) | (with_reducible (first | apply AO_any | apply AHd_any | apply AP_go | apply AHP_go); focus (simp only [Sm, wantedA, execA, stepA, List.getElem?_cons_zero, List.getElem?_cons_succ, if_true, if_false, binA, binInt, unA, eqA, Option.map, eq_self, reduceCtorEq, ite_true, ite_false, fitsAll, CK.fits, fillA, AV.cells, writeN, sliceCells, appendA, lenA, i64, loA, hiA, Nat.reduceAdd, Nat.reduceMul, Nat.reduceDiv, Nat.reduceSub, Nat.reduceLeDiff, Nat.reduceLT, Int.reduceLE, Int.reduceLT, foldA, maxA, minA, Int.reduceBEq, Int.reduceBNe, Int.reduceGT, Int.reduceGE, Int.reduceEq, Int.reduceNe, Int.reduceToNat, AOp.stops, ↓want_eq, ↓exec_lenX, ↓exec_storeX, ↓exec_storeN, storeN_one, ↓exec_bsX, ↓exec_sliceX, ↓exec_copyX, ↓exec_appNil, ↓exec_carryX, Nat.sub_zero, rep_len, ly]; with_reducible first | exact EqP.at_ | exact EqP.cont | exact EqP.hcont | exact EqP.gate | exact EqP.hgate)) | (refine AW_ift ?_ ?_; focus (simp only [Sm]; done)) | (refine AW_iff ?_ ?_; focus (simp only [Sm]; done))))
  refine AW_mid (fun e fr H' => e = .normal ∧ addI q p n y' st bl H1 n fr H') ?_ ?_
  · refine AW_block (AW_up (addI q p n y' st bl H1) n ⟨Chg.refl _ _, o1, stale _ _ rfl⟩ ?_)
    rintro i fr H2 hi ⟨c2, o2, ste, rfl⟩
    have hBB2 := hBB.chg c2 (fun b hb e => by have := hBB.le hb; omega)
    (repeat (first | with_reducible (first | refine thenQ_n ?_ | refine blockQ_n ?_ | refine thenQ_e ?_ | refine thenQ_r ?_ | refine blockQ_r ?_ | refine blockQ_s ?_ | refine blockQ_o rfl ?_) | refine AW_skip ?_ | refine AW_seq ?_ | refine AW_ops ?_ | refine AW_blockS ?_ | refine AW_blockR ?_ | refine AW_blockD ?_ | refine AW_blockC ?_ | refine AO_nil ?_ | refine AW_draw ?_ | refine AW_draw3 ?_ | refine AW_blockD3 ?_ | (refine AW_drawA ?_; simp only [atBlk, Sm]) | refine AHd_nil ?_ | with_reducible (first | refine AP_at ?_ | refine AHP_at ?_) | (with_reducible (first | apply AO_any | apply AHd_any | apply AP_go | apply AHP_go); focus (simp only [Sm, wantedA, execA, stepA, List.getElem?_cons_zero, List.getElem?_cons_succ, if_true, if_false, binA, binInt, unA, eqA, Option.map, eq_self, reduceCtorEq, ite_true, ite_false, fitsAll, CK.fits, fillA, AV.cells, writeN, sliceCells, appendA, lenA, i64, loA, hiA, Nat.reduceAdd, Nat.reduceMul, Nat.reduceDiv, Nat.reduceSub, Nat.reduceLeDiff, Nat.reduceLT, Int.reduceLE, Int.reduceLT, foldA, maxA, minA, Int.reduceBEq, Int.reduceBNe, Int.reduceGT, Int.reduceGE, Int.reduceEq, Int.reduceNe, Int.reduceToNat, AOp.stops, ↓want_eq, ↓exec_lenX, ↓exec_storeX, ↓exec_storeN, storeN_one, ↓exec_bsX, ↓exec_sliceX, ↓exec_copyX, ↓exec_appNil, ↓exec_carryX, Nat.sub_zero, rep_len]; with_reducible first | exact EqP.at_ | exact EqP.cont | exact EqP.hcont | exact EqP.gate | exact EqP.hgate)) | (refine AW_ift ?_ ?_; focus (simp only [Sm]; done)) | (refine AW_iff ?_ ?_; focus (simp only [Sm]; done))))
    refine AW_cond rfl ?_ ?_ <;> intro ht
    · have ht : (i : Int) < n := of_decide_eq_true ht
      have hi2 : i < n := by omega
      obtain ⟨b, hb⟩ : ∃ b, bl[i]? = some b := ⟨_, List.getElem?_eq_getElem (by omega)⟩
      obtain ⟨s1, o, f1, z1, rfl, g1, g2, g3⟩ := BB.get_ hBB2 hb hbll
      have hsw := stO_wd hwd (bl.take i)
      have hsucc := stO_succ (st := st) hb
      generalize stO st (bl.take i) = si at *
      have hc2 := hcells_own o2
      have r2 := readN_tail (n := 8) hc2 hsw.len
      (repeat (first | with_reducible (first | refine thenQ_n ?_ | refine blockQ_n ?_ | refine thenQ_e ?_ | refine thenQ_r ?_ | refine blockQ_r ?_ | refine blockQ_s ?_ | refine blockQ_o rfl ?_) | refine AW_skip ?_ | refine AW_seq ?_ | refine AW_ops ?_ | refine AW_blockS ?_ | refine AW_blockR ?_ | refine AW_blockD ?_ | refine AW_blockC ?_ | refine AO_nil ?_ | refine AW_draw ?_ | refine AW_draw3 ?_ | refine AW_blockD3 ?_ | (refine AW_drawA ?_; simp only [atBlk, Sm]) | refine AHd_nil ?_ | with_reducible (first | refine AP_at ?_ | refine AHP_at ?_) | (with_reducible (first | apply AO_any | apply AHd_any | apply AP_go | apply AHP_go); focus (simp only [Sm, wantedA, execA, stepA, List.getElem?_cons_zero, List.getElem?_cons_succ, if_true, if_false, binA, binInt, unA, eqA, Option.map, eq_self, reduceCtorEq, ite_true, ite_false, fitsAll, CK.fits, fillA, AV.cells, writeN, sliceCells, appendA, lenA, i64, loA, hiA, Nat.reduceAdd, Nat.reduceMul, Nat.reduceDiv, Nat.reduceSub, Nat.reduceLeDiff, Nat.reduceLT, Int.reduceLE, Int.reduceLT, foldA, maxA, minA, Int.reduceBEq, Int.reduceBNe, Int.reduceGT, Int.reduceGE, Int.reduceEq, Int.reduceNe, Int.reduceToNat, AOp.stops, ↓want_eq, ↓exec_lenX, ↓exec_storeX, ↓exec_storeN, storeN_one, ↓exec_bsX, ↓exec_sliceX, ↓exec_copyX, ↓exec_appNil, ↓exec_carryX, Nat.sub_zero, rep_len, g1, g2, ht, hc2, ↓r2]; with_reducible first | exact EqP.at_ | exact EqP.cont | exact EqP.hcont | exact EqP.gate | exact EqP.hgate)) | (refine AW_ift ?_ ?_; focus (simp only [Sm]; done)) | (refine AW_iff ?_ ?_; focus (simp only [Sm]; done))))
      refine AO_call rfl ((AC_Compress' H2 z1 si b hsw g3 (hbl64 i b hb)).floor (by have := c2.1; have := c1.1; omega)) ?_
      rintro _ H3 ⟨rfl, k3⟩
      have hcw := compO_wd (bs := toN b) hsw
      rw [← hsucc] at hcw
      have ek : compO si (toN b) = stO st (bl.take (i + 1)) := hsucc.symm
      have o3 := (Chg.of_kept k3).hown (fun h => h) o2
      have hc3 := hcells_own o3
      obtain ⟨H4, s4, o4, c4, l4⟩ := storeN_tail_ex o3 hfq hsw.len (W32 (stO st (bl.take (i + 1)))) hcw.len
      (repeat (first | with_reducible (first | refine thenQ_n ?_ | refine blockQ_n ?_ | refine thenQ_e ?_ | refine thenQ_r ?_ | refine blockQ_r ?_ | refine blockQ_s ?_ | refine blockQ_o rfl ?_) | refine AW_skip ?_ | refine AW_seq ?_ | refine AW_ops ?_ | refine AW_blockS ?_ | refine AW_blockR ?_ | refine AW_blockD ?_ | refine AW_blockC ?_ | refine AO_nil ?_ | refine AW_draw ?_ | refine AW_draw3 ?_ | refine AW_blockD3 ?_ | (refine AW_drawA ?_; simp only [atBlk, Sm]) | refine AHd_nil ?_ | with_reducible (first | refine AP_at ?_ | refine AHP_at ?_) | (with_reducible (first | apply AO_any | apply AHd_any | apply AP_go | apply AHP_go); focus (simp only [Sm, wantedA, execA, stepA, List.getElem?_cons_zero, List.getElem?_cons_succ, if_true, if_false, binA, binInt, unA, eqA, Option.map, eq_self, reduceCtorEq, ite_true, ite_false, fitsAll, CK.fits, fillA, AV.cells, writeN, sliceCells, appendA, lenA, i64, loA, hiA, Nat.reduceAdd, Nat.reduceMul, Nat.reduceDiv, Nat.reduceSub, Nat.reduceLeDiff, Nat.reduceLT, Int.reduceLE, Int.reduceLT, foldA, maxA, minA, Int.reduceBEq, Int.reduceBNe, Int.reduceGT, Int.reduceGE, Int.reduceEq, Int.reduceNe, Int.reduceToNat, AOp.stops, ↓want_eq, ↓exec_lenX, ↓exec_storeX, ↓exec_storeN, storeN_one, ↓exec_bsX, ↓exec_sliceX, ↓exec_copyX, ↓exec_appNil, ↓exec_carryX, Nat.sub_zero, rep_len, ek, hc3, s4, i64_succ (show i < 9223372036854775807 by omega)]; with_reducible first | exact EqP.at_ | exact EqP.cont | exact EqP.hcont | exact EqP.gate | exact EqP.hgate)) | (refine AW_ift ?_ ?_; focus (simp only [Sm]; done)) | (refine AW_iff ?_ ?_; focus (simp only [Sm]; done))))
      exact ⟨hi2, (c2.trans (Chg.of_kept k3) (fun _ _ h => h.elim)).trans c4 (fun _ _ h => h), o4, stale _ _ rfl⟩
    · obtain rfl : i = n := by have : ¬ (i : Int) < n := of_decide_eq_false ht; omega
      exact AW_exit ⟨rfl, c2, o2, stale _ _ rfl⟩
  rintro e fr H2 ⟨rfl, c2, o2, ste, rfl⟩
  rw [List.take_of_length_le (by omega)] at o2
  (repeat (first | with_reducible (first | refine thenQ_n ?_ | refine blockQ_n ?_ | refine thenQ_e ?_ | refine thenQ_r ?_ | refine blockQ_r ?_ | refine blockQ_s ?_ | refine blockQ_o rfl ?_) | refine AW_skip ?_ | refine AW_seq ?_ | refine AW_ops ?_ | refine AW_blockS ?_ | refine AW_blockR ?_ | refine AW_blockD ?_ | refine AW_blockC ?_ | refine AO_nil ?_ | refine AW_draw ?_ | refine AW_draw3 ?_ | refine AW_blockD3 ?_ | (refine AW_drawA ?_; simp only [atBlk, Sm]) | refine AHd_nil ?_ | with_reducible (first | refine AP_at ?_ | refine AHP_at ?_) | (with_reducible (first | apply AO_any | apply AHd_any | apply AP_go | apply AHP_go); focus (simp only [Sm, wantedA, execA, stepA, List.getElem?_cons_zero, List.getElem?_cons_succ, if_true, if_false, binA, binInt, unA, eqA, Option.map, eq_self, reduceCtorEq, ite_true, ite_false, fitsAll, CK.fits, fillA, AV.cells, writeN, sliceCells, appendA, lenA, i64, loA, hiA, Nat.reduceAdd, Nat.reduceMul, Nat.reduceDiv, Nat.reduceSub, Nat.reduceLeDiff, Nat.reduceLT, Int.reduceLE, Int.reduceLT, foldA, maxA, minA, Int.reduceBEq, Int.reduceBNe, Int.reduceGT, Int.reduceGE, Int.reduceEq, Int.reduceNe, Int.reduceToNat, AOp.stops, ↓want_eq, ↓exec_lenX, ↓exec_storeX, ↓exec_storeN, storeN_one, ↓exec_bsX, ↓exec_sliceX, ↓exec_copyX, ↓exec_appNil, ↓exec_carryX, Nat.sub_zero, rep_len]; with_reducible first | exact EqP.at_ | exact EqP.cont | exact EqP.hcont | exact EqP.gate | exact EqP.hgate)) | (refine AW_ift ?_ ?_; focus (simp only [Sm]; done)) | (refine AW_iff ?_ ?_; focus (simp only [Sm]; done))))
  refine AW_ret ⟨_, rfl, x', rfl, ⟨o2, hF1.chg c2 (fun e => hne e.symm) (fun b hb e => by have := hx1 b hb; omega), hne, fun h => by have := hx1 _ h; omega, stO_wd hwd _⟩, ?_, hx1⟩
  exact (c1.mono (T := fun b => b = q ∨ b = p ∨ inX x b) fun b _ h => .inr h).trans c2 fun b _ h => .inl h
end PK

/- Package pestleref04 as code of the abstract machine. -/
namespace PK
open Go PAbs

end PK

/- The document's Bytes, Joined, Blocks: walked; feeds that are nil. -/
namespace PK
open Go PAbs
set_option linter.unusedSimpArgs false
set_option linter.unusedVariables false
set_option maxRecDepth 100000
set_option maxHeartbeats 4000000

section
variable (H : AHeap)
end
end PK

/- SHA-256: Clone, Sum, Of; the document's test. -/
namespace PK
open Go PAbs
set_option linter.unusedSimpArgs false
set_option linter.unusedVariables false
set_option maxRecDepth 100000
set_option maxHeartbeats 4000000

theorem AC_shaClone (H : AHeap) (q p : Nat) (x : Cell) (st : List Nat) (held : List UInt8) (total : Nat) (hH : HashAt H q p x st held total) (hb : held.length ≤ 1000000) :
    AC A H.length F_sha_Hash_Clone [.c (.ptr q 0)] H (fun v H' => ∃ q' p' x', v = .c (.ptr q' 0) ∧ H.length ≤ q' ∧ H.length ≤ p' ∧ HashAt H' q' p' x' st held total ∧ ∀ b, inX x' b → H.length ≤ b) := by
  have hcq := hcells_own hH.own
  have hql := hown_lt hH.own
  have hIl := hH.wd.len
  have tk8 : (W32 st).drop 8 = [] := List.drop_eq_nil_of_le (by omega)
  have tt8 : (W32 st).take 8 = W32 st := List.take_of_length_le (by omega)
  refine AC_enter t_sha_Hash_Clone ?_; simp only [c_sha_Hash_Clone, enterA, List.replicate, List.length_cons, List.length_nil, Nat.reduceAdd, Nat.reduceSub, List.cons_append, List.nil_append]
  (repeat (first | with_reducible (first | refine thenQ_n ?_ | refine blockQ_n ?_ | refine thenQ_e ?_ | refine thenQ_r ?_ | refine blockQ_r ?_ | refine blockQ_s ?_ | refine blockQ_o rfl ?_) | refine AW_skip ?_ | refine AW_seq ?_ | refine AW_ops ?_ | refine AW_blockS ?_ | refine AW_blockR ?_ | refine AW_blockD ?_ | refine AW_blockC ?_ | refine AO_nil ?_ | refine AW_draw ?_ | refine AW_draw3 ?_ | refine AW_blockD3 ?_ | (refine AW_drawA ?_; simp only [atBlk, Sm]) | refine AHd_nil ?_ | with_reducible (first | refine AP_at ?_ | refine AHP_at ?_) | (with_reducible (first | apply AO_any | apply AHd_any | apply AP_go | apply AHP_go); focus (simp only [Sm, wantedA, execA, stepA, List.getElem?_cons_zero, List.getElem?_cons_succ, if_true, if_false, binA, binInt, unA, eqA, Option.map, eq_self, reduceCtorEq, ite_true, ite_false, fitsAll, CK.fits, fillA, AV.cells, writeN, sliceCells, appendA, lenA, i64, loA, hiA, Nat.reduceAdd, Nat.reduceMul, Nat.reduceDiv, Nat.reduceSub, Nat.reduceLeDiff, Nat.reduceLT, Int.reduceLE, Int.reduceLT, foldA, maxA, minA, Int.reduceBEq, Int.reduceBNe, Int.reduceGT, Int.reduceGE, Int.reduceEq, Int.reduceNe, Int.reduceToNat, AOp.stops, ↓want_eq, ↓exec_lenX, ↓exec_storeX, ↓exec_storeN, storeN_one, ↓exec_bsX, ↓exec_sliceX, ↓exec_copyX, ↓exec_appNil, ↓exec_carryX, Nat.sub_zero, rep_len, hcq]; with_reducible first | exact EqP.at_ | exact EqP.cont | exact EqP.hcont | exact EqP.gate | exact EqP.hgate)) | (refine AW_ift ?_ ?_; focus (simp only [Sm]; done)) | (refine AW_iff ?_ ?_; focus (simp only [Sm]; done))))
  refine AHd_call rfl (AC_feed_Copy H p x 64 false held total hH.feed (by omega)) ?_
  rintro _ H1 ⟨p', rfl, hp', x', hF1, hx'⟩ k1
  have hH1 := hH.chg (Chg.of_kept k1) (fun h => h) (fun h => h) (fun _ _ h => h)
  have hc1 := hcells_own hH1.own
  have r1 := readN_tail (n := 8) hc1 hIl
  have hp1 := hown_lt hF1.1
  have hx1 : ∀ b, inX x' b → b < H1.length := fun b hb => hF1.2.1.lt hb
  have l1 := k1.1
  (repeat (first | with_reducible (first | refine thenQ_n ?_ | refine blockQ_n ?_ | refine thenQ_e ?_ | refine thenQ_r ?_ | refine blockQ_r ?_ | refine blockQ_s ?_ | refine blockQ_o rfl ?_) | refine AW_skip ?_ | refine AW_seq ?_ | refine AW_ops ?_ | refine AW_blockS ?_ | refine AW_blockR ?_ | refine AW_blockD ?_ | refine AW_blockC ?_ | refine AO_nil ?_ | refine AW_draw ?_ | refine AW_draw3 ?_ | refine AW_blockD3 ?_ | (refine AW_drawA ?_; simp only [atBlk, Sm]) | refine AHd_nil ?_ | with_reducible (first | refine AP_at ?_ | refine AHP_at ?_) | (with_reducible (first | apply AO_any | apply AHd_any | apply AP_go | apply AHP_go); focus (simp only [Sm, wantedA, execA, stepA, List.getElem?_cons_zero, List.getElem?_cons_succ, if_true, if_false, binA, binInt, unA, eqA, Option.map, eq_self, reduceCtorEq, ite_true, ite_false, fitsAll, CK.fits, fillA, AV.cells, writeN, sliceCells, appendA, lenA, i64, loA, hiA, Nat.reduceAdd, Nat.reduceMul, Nat.reduceDiv, Nat.reduceSub, Nat.reduceLeDiff, Nat.reduceLT, Int.reduceLE, Int.reduceLT, foldA, maxA, minA, Int.reduceBEq, Int.reduceBNe, Int.reduceGT, Int.reduceGE, Int.reduceEq, Int.reduceNe, Int.reduceToNat, AOp.stops, ↓want_eq, ↓exec_lenX, ↓exec_storeX, ↓exec_storeN, storeN_one, ↓exec_bsX, ↓exec_sliceX, ↓exec_copyX, ↓exec_appNil, ↓exec_carryX, Nat.sub_zero, rep_len, hc1, ↓r1, hIl, tk8, tt8]; with_reducible first | exact EqP.at_ | exact EqP.cont | exact EqP.hcont | exact EqP.gate | exact EqP.hgate)) | (refine AW_ift ?_ ?_; focus (simp only [Sm]; done)) | (refine AW_iff ?_ ?_; focus (simp only [Sm]; done))))
  exact AW_ret ⟨_, rfl, H1.length, p', x', rfl, by omega, hp', ⟨hown_last, hF1.chg (Chg.push none_ _ _) (fun h => h) (fun _ _ h => h), by omega, fun h => by have := hx1 _ h; omega, hH.wd⟩, hx'⟩

def outO (st : List Nat) : List UInt8 := (flat (beB 4) st st.length).map UInt8.ofNat
theorem flat_lt {g : Nat → List Nat} (hg : ∀ w, ∀ b ∈ g w, b < 256) (xs : List Nat) : ∀ n, ∀ b ∈ flat g xs n, b < 256
  | 0, b, h => by simp [flat] at h
  | n + 1, b, h => by
    simp only [flat, List.mem_append] at h
    rcases h with h | h
    · exact flat_lt hg xs n b h
    · exact hg _ b h
theorem beB_lt (k w : Nat) : ∀ b ∈ beB k w, b < 256 := fun b h => leB_lt (List.mem_reverse.mp h)
def sumO (st : List Nat) (held : List UInt8) (total : Nat) : List UInt8 := outO (stO st (blks 64 (held ++ padB total) ((held ++ padB total).length / 64)))

theorem AC_shaSum (H : AHeap) (q p : Nat) (x : Cell) (st : List Nat) (held : List UInt8) (total : Nat) (hH : HashAt H q p x st held total) (hb : held.length < 64) (ht : total ≤ 1000000000) :
    AC A H.length F_sha_Hash_Sum [.c (.ptr q 0)] H (fun v H' => v = .c (.str (sumO st held total))) := by
  have hcq := hcells_own hH.own
  have hql := hown_lt hH.own
  refine AC_enter t_sha_Hash_Sum ?_; simp only [c_sha_Hash_Sum, enterA, List.replicate, List.length_cons, List.length_nil, Nat.reduceAdd, Nat.reduceSub, List.cons_append, List.nil_append]
  (repeat (first | with_reducible (first | refine thenQ_n ?_ | refine blockQ_n ?_ | refine thenQ_e ?_ | refine thenQ_r ?_ | refine blockQ_r ?_ | refine blockQ_s ?_ | refine blockQ_o rfl ?_) | refine AW_skip ?_ | refine AW_seq ?_ | refine AW_ops ?_ | refine AW_blockS ?_ | refine AW_blockR ?_ | refine AW_blockD ?_ | refine AW_blockC ?_ | refine AO_nil ?_ | refine AW_draw ?_ | refine AW_draw3 ?_ | refine AW_blockD3 ?_ | (refine AW_drawA ?_; simp only [atBlk, Sm]) | refine AHd_nil ?_ | with_reducible (first | refine AP_at ?_ | refine AHP_at ?_) | (with_reducible (first | apply AO_any | apply AHd_any | apply AP_go | apply AHP_go); focus (simp only [Sm, wantedA, execA, stepA, List.getElem?_cons_zero, List.getElem?_cons_succ, if_true, if_false, binA, binInt, unA, eqA, Option.map, eq_self, reduceCtorEq, ite_true, ite_false, fitsAll, CK.fits, fillA, AV.cells, writeN, sliceCells, appendA, lenA, i64, loA, hiA, Nat.reduceAdd, Nat.reduceMul, Nat.reduceDiv, Nat.reduceSub, Nat.reduceLeDiff, Nat.reduceLT, Int.reduceLE, Int.reduceLT, foldA, maxA, minA, Int.reduceBEq, Int.reduceBNe, Int.reduceGT, Int.reduceGE, Int.reduceEq, Int.reduceNe, Int.reduceToNat, AOp.stops, ↓want_eq, ↓exec_lenX, ↓exec_storeX, ↓exec_storeN, storeN_one, ↓exec_bsX, ↓exec_sliceX, ↓exec_copyX, ↓exec_appNil, ↓exec_carryX, Nat.sub_zero, rep_len, hcq]; with_reducible first | exact EqP.at_ | exact EqP.cont | exact EqP.hcont | exact EqP.gate | exact EqP.hgate)) | (refine AW_ift ?_ ?_; focus (simp only [Sm]; done)) | (refine AW_iff ?_ ?_; focus (simp only [Sm]; done))))
  refine AO_call rfl ((AC_shaClone H q p x st held total hH (by omega)).kept (Nat.le_refl _)) ?_
  rintro _ H1 ⟨⟨q', p', x', rfl, hq', hp', hH1, hx'⟩, k1⟩
  have hH2 := hH.chg (Chg.of_kept k1) (fun h => h) (fun h => h) (fun _ _ h => h)
  have hc2 := hcells_own hH2.own
  (repeat (first | with_reducible (first | refine thenQ_n ?_ | refine blockQ_n ?_ | refine thenQ_e ?_ | refine thenQ_r ?_ | refine blockQ_r ?_ | refine blockQ_s ?_ | refine blockQ_o rfl ?_) | refine AW_skip ?_ | refine AW_seq ?_ | refine AW_ops ?_ | refine AW_blockS ?_ | refine AW_blockR ?_ | refine AW_blockD ?_ | refine AW_blockC ?_ | refine AO_nil ?_ | refine AW_draw ?_ | refine AW_draw3 ?_ | refine AW_blockD3 ?_ | (refine AW_drawA ?_; simp only [atBlk, Sm]) | refine AHd_nil ?_ | with_reducible (first | refine AP_at ?_ | refine AHP_at ?_) | (with_reducible (first | apply AO_any | apply AHd_any | apply AP_go | apply AHP_go); focus (simp only [Sm, wantedA, execA, stepA, List.getElem?_cons_zero, List.getElem?_cons_succ, if_true, if_false, binA, binInt, unA, eqA, Option.map, eq_self, reduceCtorEq, ite_true, ite_false, fitsAll, CK.fits, fillA, AV.cells, writeN, sliceCells, appendA, lenA, i64, loA, hiA, Nat.reduceAdd, Nat.reduceMul, Nat.reduceDiv, Nat.reduceSub, Nat.reduceLeDiff, Nat.reduceLT, Int.reduceLE, Int.reduceLT, foldA, maxA, minA, Int.reduceBEq, Int.reduceBNe, Int.reduceGT, Int.reduceGE, Int.reduceEq, Int.reduceNe, Int.reduceToNat, AOp.stops, ↓want_eq, ↓exec_lenX, ↓exec_storeX, ↓exec_storeN, storeN_one, ↓exec_bsX, ↓exec_sliceX, ↓exec_copyX, ↓exec_appNil, ↓exec_carryX, Nat.sub_zero, rep_len, hc2]; with_reducible first | exact EqP.at_ | exact EqP.cont | exact EqP.hcont | exact EqP.gate | exact EqP.hgate)) | (refine AW_ift ?_ ?_; focus (simp only [Sm]; done)) | (refine AW_iff ?_ ?_; focus (simp only [Sm]; done))))
  refine AO_call rfl ((AC_feed_Total H1 p x 64 false held total hH2.feed).floor (by have := k1.1; omega)) ?_
  rintro _ _ ⟨rfl, rfl⟩
  (repeat (first | with_reducible (first | refine thenQ_n ?_ | refine blockQ_n ?_ | refine thenQ_e ?_ | refine thenQ_r ?_ | refine blockQ_r ?_ | refine blockQ_s ?_ | refine blockQ_o rfl ?_) | refine AW_skip ?_ | refine AW_seq ?_ | refine AW_ops ?_ | refine AW_blockS ?_ | refine AW_blockR ?_ | refine AW_blockD ?_ | refine AW_blockC ?_ | refine AO_nil ?_ | refine AW_draw ?_ | refine AW_draw3 ?_ | refine AW_blockD3 ?_ | (refine AW_drawA ?_; simp only [atBlk, Sm]) | refine AHd_nil ?_ | with_reducible (first | refine AP_at ?_ | refine AHP_at ?_) | (with_reducible (first | apply AO_any | apply AHd_any | apply AP_go | apply AHP_go); focus (simp only [Sm, wantedA, execA, stepA, List.getElem?_cons_zero, List.getElem?_cons_succ, if_true, if_false, binA, binInt, unA, eqA, Option.map, eq_self, reduceCtorEq, ite_true, ite_false, fitsAll, CK.fits, fillA, AV.cells, writeN, sliceCells, appendA, lenA, i64, loA, hiA, Nat.reduceAdd, Nat.reduceMul, Nat.reduceDiv, Nat.reduceSub, Nat.reduceLeDiff, Nat.reduceLT, Int.reduceLE, Int.reduceLT, foldA, maxA, minA, Int.reduceBEq, Int.reduceBNe, Int.reduceGT, Int.reduceGE, Int.reduceEq, Int.reduceNe, Int.reduceToNat, AOp.stops, ↓want_eq, ↓exec_lenX, ↓exec_storeX, ↓exec_storeN, storeN_one, ↓exec_bsX, ↓exec_sliceX, ↓exec_copyX, ↓exec_appNil, ↓exec_carryX, Nat.sub_zero, rep_len]; with_reducible first | exact EqP.at_ | exact EqP.cont | exact EqP.hcont | exact EqP.gate | exact EqP.hgate)) | (refine AW_ift ?_ ?_; focus (simp only [Sm]; done)) | (refine AW_iff ?_ ?_; focus (simp only [Sm]; done))))
  refine AO_call rfl (((AC_shaPad H1 total (by omega)).kept (Nat.le_refl _)).floor (by have := k1.1; omega)) ?_
  rintro _ H3 ⟨rfl, k3⟩
  have hH3 := hH1.chg (Chg.of_kept k3) (fun h => h) (fun h => h) (fun _ _ h => h)
  have hpl := padB_length total
  have hzl : zlen total < 64 := Nat.mod_lt _ (by decide)
  (repeat (first | with_reducible (first | refine thenQ_n ?_ | refine blockQ_n ?_ | refine thenQ_e ?_ | refine thenQ_r ?_ | refine blockQ_r ?_ | refine blockQ_s ?_ | refine blockQ_o rfl ?_) | refine AW_skip ?_ | refine AW_seq ?_ | refine AW_ops ?_ | refine AW_blockS ?_ | refine AW_blockR ?_ | refine AW_blockD ?_ | refine AW_blockC ?_ | refine AO_nil ?_ | refine AW_draw ?_ | refine AW_draw3 ?_ | refine AW_blockD3 ?_ | (refine AW_drawA ?_; simp only [atBlk, Sm]) | refine AHd_nil ?_ | with_reducible (first | refine AP_at ?_ | refine AHP_at ?_) | (with_reducible (first | apply AO_any | apply AHd_any | apply AP_go | apply AHP_go); focus (simp only [Sm, wantedA, execA, stepA, List.getElem?_cons_zero, List.getElem?_cons_succ, if_true, if_false, binA, binInt, unA, eqA, Option.map, eq_self, reduceCtorEq, ite_true, ite_false, fitsAll, CK.fits, fillA, AV.cells, writeN, sliceCells, appendA, lenA, i64, loA, hiA, Nat.reduceAdd, Nat.reduceMul, Nat.reduceDiv, Nat.reduceSub, Nat.reduceLeDiff, Nat.reduceLT, Int.reduceLE, Int.reduceLT, foldA, maxA, minA, Int.reduceBEq, Int.reduceBNe, Int.reduceGT, Int.reduceGE, Int.reduceEq, Int.reduceNe, Int.reduceToNat, AOp.stops, ↓want_eq, ↓exec_lenX, ↓exec_storeX, ↓exec_storeN, storeN_one, ↓exec_bsX, ↓exec_sliceX, ↓exec_copyX, ↓exec_appNil, ↓exec_carryX, Nat.sub_zero, rep_len]; with_reducible first | exact EqP.at_ | exact EqP.cont | exact EqP.hcont | exact EqP.gate | exact EqP.hgate)) | (refine AW_ift ?_ ?_; focus (simp only [Sm]; done)) | (refine AW_iff ?_ ?_; focus (simp only [Sm]; done))))
  have cx : Chg none_ H3 (H3 ++ [Blk.own [Cell.str (padB total)]]) := Chg.push _ _ _
  have hH4 := hH3.chg cx (fun h => h) (fun h => h) (fun _ _ h => h)
  have hy : Rd (H3 ++ [Blk.own [Cell.str (padB total)]]) (.slc H3.length 0 1 1) 1 ([padB total].map Cell.str) := (Own.one (f := 0) (Nat.zero_le _)).rd
  have hq3 := hown_lt hH3.own
  have hp3 := hown_lt hH3.feed.1
  have hx3 : ∀ b, inX x' b → b < H3.length := fun b hb => hH3.feed.2.1.lt hb
  have l3 := k3.1
  have l1 := k1.1
  have hfl : [padB total].flatten = padB total := by simp
  have hsum : sumO st held total = outO (stO st (blks 64 (held ++ padB total) ((held ++ padB total).length / 64))) := rfl
  refine AO_call rfl (AC_shaAdd H.length _ q' p' x' _ st held total [padB total] hH4 hq' hp' hx' hy (fun h => by have := inX_slc.mp h; omega) (fun b h h2 => by have := inX_slc.mp h; have := hx3 b h2; omega) (by simp) (by rw [hfl]; omega) (by omega) hb) ?_
  rw [hfl]
  rintro _ H5 ⟨x5, rfl, hH5, c5, hx5⟩
  rw [hsum]
  have hwd := hH5.wd
  generalize stO st (blks 64 (held ++ padB total) ((held ++ padB total).length / 64)) = r at *
  have hc5 := hcells_own hH5.own
  have hq5 := hown_lt hH5.own
  have lr : (Cell.ptr p' 0 :: W32 r).length = 9 := by rw [List.length_cons, hwd.len]
  (repeat (first | with_reducible (first | refine thenQ_n ?_ | refine blockQ_n ?_ | refine thenQ_e ?_ | refine thenQ_r ?_ | refine blockQ_r ?_ | refine blockQ_s ?_ | refine blockQ_o rfl ?_) | refine AW_skip ?_ | refine AW_seq ?_ | refine AW_ops ?_ | refine AW_blockS ?_ | refine AW_blockR ?_ | refine AW_blockD ?_ | refine AW_blockC ?_ | refine AO_nil ?_ | refine AW_draw ?_ | refine AW_draw3 ?_ | refine AW_blockD3 ?_ | (refine AW_drawA ?_; simp only [atBlk, Sm]) | refine AHd_nil ?_ | with_reducible (first | refine AP_at ?_ | refine AHP_at ?_) | (with_reducible (first | apply AO_any | apply AHd_any | apply AP_go | apply AHP_go); focus (simp only [Sm, wantedA, execA, stepA, List.getElem?_cons_zero, List.getElem?_cons_succ, if_true, if_false, binA, binInt, unA, eqA, Option.map, eq_self, reduceCtorEq, ite_true, ite_false, fitsAll, CK.fits, fillA, AV.cells, writeN, sliceCells, appendA, lenA, i64, loA, hiA, Nat.reduceAdd, Nat.reduceMul, Nat.reduceDiv, Nat.reduceSub, Nat.reduceLeDiff, Nat.reduceLT, Int.reduceLE, Int.reduceLT, foldA, maxA, minA, Int.reduceBEq, Int.reduceBNe, Int.reduceGT, Int.reduceGE, Int.reduceEq, Int.reduceNe, Int.reduceToNat, AOp.stops, ↓want_eq, ↓exec_lenX, ↓exec_storeX, ↓exec_storeN, storeN_one, ↓exec_bsX, ↓exec_sliceX, ↓exec_copyX, ↓exec_appNil, ↓exec_carryX, Nat.sub_zero, rep_len, hc5, lr]; with_reducible first | exact EqP.at_ | exact EqP.cont | exact EqP.hcont | exact EqP.gate | exact EqP.hgate)) | (refine AW_ift ?_ ?_; focus (simp only [Sm]; done)) | (refine AW_iff ?_ ?_; focus (simp only [Sm]; done))))
  have hr : Rd H5 (.slc q' 1 8 1) 1 (W32 r) := .inr ⟨_, _, _, rfl, by rw [hwd.len], by rw [Nat.mul_one]; exact readN_tail hc5 hwd.len⟩
  refine AO_call rfl ((AC_Big32 H5 _ r hr (by rw [hwd.1]; omega)).floor (by have := c5.1; simp at this; omega)) ?_
  rintro _ H6 ⟨x6, rfl, h6⟩
  rw [W8B8 (flat_lt (beB_lt 4) r r.length)] at h6
  (repeat (first | with_reducible (first | refine thenQ_n ?_ | refine blockQ_n ?_ | refine thenQ_e ?_ | refine thenQ_r ?_ | refine blockQ_r ?_ | refine blockQ_s ?_ | refine blockQ_o rfl ?_) | refine AW_skip ?_ | refine AW_seq ?_ | refine AW_ops ?_ | refine AW_blockS ?_ | refine AW_blockR ?_ | refine AW_blockD ?_ | refine AW_blockC ?_ | refine AO_nil ?_ | refine AW_draw ?_ | refine AW_draw3 ?_ | refine AW_blockD3 ?_ | (refine AW_drawA ?_; simp only [atBlk, Sm]) | refine AHd_nil ?_ | with_reducible (first | refine AP_at ?_ | refine AHP_at ?_) | (with_reducible (first | apply AO_any | apply AHd_any | apply AP_go | apply AHP_go); focus (simp only [Sm, wantedA, execA, stepA, List.getElem?_cons_zero, List.getElem?_cons_succ, if_true, if_false, binA, binInt, unA, eqA, Option.map, eq_self, reduceCtorEq, ite_true, ite_false, fitsAll, CK.fits, fillA, AV.cells, writeN, sliceCells, appendA, lenA, i64, loA, hiA, Nat.reduceAdd, Nat.reduceMul, Nat.reduceDiv, Nat.reduceSub, Nat.reduceLeDiff, Nat.reduceLT, Int.reduceLE, Int.reduceLT, foldA, maxA, minA, Int.reduceBEq, Int.reduceBNe, Int.reduceGT, Int.reduceGE, Int.reduceEq, Int.reduceNe, Int.reduceToNat, AOp.stops, ↓want_eq, ↓exec_lenX, ↓exec_storeX, ↓exec_storeN, storeN_one, ↓exec_bsX, ↓exec_sliceX, ↓exec_copyX, ↓exec_appNil, ↓exec_carryX, Nat.sub_zero, rep_len, bsX_rd h6.rd]; with_reducible first | exact EqP.at_ | exact EqP.cont | exact EqP.hcont | exact EqP.gate | exact EqP.hgate)) | (refine AW_ift ?_ ?_; focus (simp only [Sm]; done)) | (refine AW_iff ?_ ?_; focus (simp only [Sm]; done))))
  exact AW_ret ⟨_, rfl, rfl⟩

def shaO (all : List UInt8) : List UInt8 := sumO (stO Is (blks 64 all (all.length / 64))) (all.drop (all.length / 64 * 64)) all.length
theorem drop_lt (all : List UInt8) : (all.drop (all.length / 64 * 64)).length < 64 := by rw [List.length_drop]; omega
theorem AC_shaOf (H : AHeap) (y : Cell) (ss : List (List UInt8)) (hy : Rd H y 1 (ss.map Cell.str)) (hyl : ∀ b, inX y b → b < H.length) (hl : ss.length ≤ 1000000) (hb : ss.flatten.length ≤ 1000000000) :
    AC A H.length F_sha_Of [.c y] H (fun v H' => v = .c (.str (shaO ss.flatten))) := by
  refine AC_enter t_sha_Of ?_; simp only [c_sha_Of, enterA, List.replicate, List.length_cons, List.length_nil, Nat.reduceAdd, Nat.reduceSub, List.cons_append, List.nil_append]
  (repeat (first | with_reducible (first | refine thenQ_n ?_ | refine blockQ_n ?_ | refine thenQ_e ?_ | refine thenQ_r ?_ | refine blockQ_r ?_ | refine blockQ_s ?_ | refine blockQ_o rfl ?_) | refine AW_skip ?_ | refine AW_seq ?_ | refine AW_ops ?_ | refine AW_blockS ?_ | refine AW_blockR ?_ | refine AW_blockD ?_ | refine AW_blockC ?_ | refine AO_nil ?_ | refine AW_draw ?_ | refine AW_draw3 ?_ | refine AW_blockD3 ?_ | (refine AW_drawA ?_; simp only [atBlk, Sm]) | refine AHd_nil ?_ | with_reducible (first | refine AP_at ?_ | refine AHP_at ?_) | (with_reducible (first | apply AO_any | apply AHd_any | apply AP_go | apply AHP_go); focus (simp only [Sm, wantedA, execA, stepA, List.getElem?_cons_zero, List.getElem?_cons_succ, if_true, if_false, binA, binInt, unA, eqA, Option.map, eq_self, reduceCtorEq, ite_true, ite_false, fitsAll, CK.fits, fillA, AV.cells, writeN, sliceCells, appendA, lenA, i64, loA, hiA, Nat.reduceAdd, Nat.reduceMul, Nat.reduceDiv, Nat.reduceSub, Nat.reduceLeDiff, Nat.reduceLT, Int.reduceLE, Int.reduceLT, foldA, maxA, minA, Int.reduceBEq, Int.reduceBNe, Int.reduceGT, Int.reduceGE, Int.reduceEq, Int.reduceNe, Int.reduceToNat, AOp.stops, ↓want_eq, ↓exec_lenX, ↓exec_storeX, ↓exec_storeN, storeN_one, ↓exec_bsX, ↓exec_sliceX, ↓exec_copyX, ↓exec_appNil, ↓exec_carryX, Nat.sub_zero, rep_len]; with_reducible first | exact EqP.at_ | exact EqP.cont | exact EqP.hcont | exact EqP.gate | exact EqP.hgate)) | (refine AW_ift ?_ ?_; focus (simp only [Sm]; done)) | (refine AW_iff ?_ ?_; focus (simp only [Sm]; done))))
  refine AO_call rfl ((AC_shaNew H).kept (Nat.le_refl _)) ?_
  rintro _ H1 ⟨⟨q, p, rfl, hq, hp, hH1⟩, k1⟩
  have hy1 := hy.kept k1
  (repeat (first | with_reducible (first | refine thenQ_n ?_ | refine blockQ_n ?_ | refine thenQ_e ?_ | refine thenQ_r ?_ | refine blockQ_r ?_ | refine blockQ_s ?_ | refine blockQ_o rfl ?_) | refine AW_skip ?_ | refine AW_seq ?_ | refine AW_ops ?_ | refine AW_blockS ?_ | refine AW_blockR ?_ | refine AW_blockD ?_ | refine AW_blockC ?_ | refine AO_nil ?_ | refine AW_draw ?_ | refine AW_draw3 ?_ | refine AW_blockD3 ?_ | (refine AW_drawA ?_; simp only [atBlk, Sm]) | refine AHd_nil ?_ | with_reducible (first | refine AP_at ?_ | refine AHP_at ?_) | (with_reducible (first | apply AO_any | apply AHd_any | apply AP_go | apply AHP_go); focus (simp only [Sm, wantedA, execA, stepA, List.getElem?_cons_zero, List.getElem?_cons_succ, if_true, if_false, binA, binInt, unA, eqA, Option.map, eq_self, reduceCtorEq, ite_true, ite_false, fitsAll, CK.fits, fillA, AV.cells, writeN, sliceCells, appendA, lenA, i64, loA, hiA, Nat.reduceAdd, Nat.reduceMul, Nat.reduceDiv, Nat.reduceSub, Nat.reduceLeDiff, Nat.reduceLT, Int.reduceLE, Int.reduceLT, foldA, maxA, minA, Int.reduceBEq, Int.reduceBNe, Int.reduceGT, Int.reduceGE, Int.reduceEq, Int.reduceNe, Int.reduceToNat, AOp.stops, ↓want_eq, ↓exec_lenX, ↓exec_storeX, ↓exec_storeN, storeN_one, ↓exec_bsX, ↓exec_sliceX, ↓exec_copyX, ↓exec_appNil, ↓exec_carryX, Nat.sub_zero, rep_len]; with_reducible first | exact EqP.at_ | exact EqP.cont | exact EqP.hcont | exact EqP.gate | exact EqP.hgate)) | (refine AW_ift ?_ ?_; focus (simp only [Sm]; done)) | (refine AW_iff ?_ ?_; focus (simp only [Sm]; done))))
  refine AO_call rfl (AC_shaAdd H.length H1 q p .snil y Is [] 0 ss hH1 hq hp (fun b h => absurd h inX_snil) hy1 (fun h => by have := hyl _ h; omega) (fun b h h2 => inX_snil h2) hl (by rw [List.length_nil]; omega) (by omega) (by rw [List.length_nil]; omega)) ?_
  rintro _ H2 ⟨x2, rfl, hH2, c2, hx2⟩
  simp only [List.nil_append, Nat.zero_add] at hH2
  (repeat (first | with_reducible (first | refine thenQ_n ?_ | refine blockQ_n ?_ | refine thenQ_e ?_ | refine thenQ_r ?_ | refine blockQ_r ?_ | refine blockQ_s ?_ | refine blockQ_o rfl ?_) | refine AW_skip ?_ | refine AW_seq ?_ | refine AW_ops ?_ | refine AW_blockS ?_ | refine AW_blockR ?_ | refine AW_blockD ?_ | refine AW_blockC ?_ | refine AO_nil ?_ | refine AW_draw ?_ | refine AW_draw3 ?_ | refine AW_blockD3 ?_ | (refine AW_drawA ?_; simp only [atBlk, Sm]) | refine AHd_nil ?_ | with_reducible (first | refine AP_at ?_ | refine AHP_at ?_) | (with_reducible (first | apply AO_any | apply AHd_any | apply AP_go | apply AHP_go); focus (simp only [Sm, wantedA, execA, stepA, List.getElem?_cons_zero, List.getElem?_cons_succ, if_true, if_false, binA, binInt, unA, eqA, Option.map, eq_self, reduceCtorEq, ite_true, ite_false, fitsAll, CK.fits, fillA, AV.cells, writeN, sliceCells, appendA, lenA, i64, loA, hiA, Nat.reduceAdd, Nat.reduceMul, Nat.reduceDiv, Nat.reduceSub, Nat.reduceLeDiff, Nat.reduceLT, Int.reduceLE, Int.reduceLT, foldA, maxA, minA, Int.reduceBEq, Int.reduceBNe, Int.reduceGT, Int.reduceGE, Int.reduceEq, Int.reduceNe, Int.reduceToNat, AOp.stops, ↓want_eq, ↓exec_lenX, ↓exec_storeX, ↓exec_storeN, storeN_one, ↓exec_bsX, ↓exec_sliceX, ↓exec_copyX, ↓exec_appNil, ↓exec_carryX, Nat.sub_zero, rep_len]; with_reducible first | exact EqP.at_ | exact EqP.cont | exact EqP.hcont | exact EqP.gate | exact EqP.hgate)) | (refine AW_ift ?_ ?_; focus (simp only [Sm]; done)) | (refine AW_iff ?_ ?_; focus (simp only [Sm]; done))))
  refine AO_call rfl ((AC_shaSum H2 q p x2 _ _ _ hH2 (drop_lt _) hb).floor (by have := c2.1; have := k1.1; omega)) ?_
  rintro _ H3 rfl
  (repeat (first | with_reducible (first | refine thenQ_n ?_ | refine blockQ_n ?_ | refine thenQ_e ?_ | refine thenQ_r ?_ | refine blockQ_r ?_ | refine blockQ_s ?_ | refine blockQ_o rfl ?_) | refine AW_skip ?_ | refine AW_seq ?_ | refine AW_ops ?_ | refine AW_blockS ?_ | refine AW_blockR ?_ | refine AW_blockD ?_ | refine AW_blockC ?_ | refine AO_nil ?_ | refine AW_draw ?_ | refine AW_draw3 ?_ | refine AW_blockD3 ?_ | (refine AW_drawA ?_; simp only [atBlk, Sm]) | refine AHd_nil ?_ | with_reducible (first | refine AP_at ?_ | refine AHP_at ?_) | (with_reducible (first | apply AO_any | apply AHd_any | apply AP_go | apply AHP_go); focus (simp only [Sm, wantedA, execA, stepA, List.getElem?_cons_zero, List.getElem?_cons_succ, if_true, if_false, binA, binInt, unA, eqA, Option.map, eq_self, reduceCtorEq, ite_true, ite_false, fitsAll, CK.fits, fillA, AV.cells, writeN, sliceCells, appendA, lenA, i64, loA, hiA, Nat.reduceAdd, Nat.reduceMul, Nat.reduceDiv, Nat.reduceSub, Nat.reduceLeDiff, Nat.reduceLT, Int.reduceLE, Int.reduceLT, foldA, maxA, minA, Int.reduceBEq, Int.reduceBNe, Int.reduceGT, Int.reduceGE, Int.reduceEq, Int.reduceNe, Int.reduceToNat, AOp.stops, ↓want_eq, ↓exec_lenX, ↓exec_storeX, ↓exec_storeN, storeN_one, ↓exec_bsX, ↓exec_sliceX, ↓exec_copyX, ↓exec_appNil, ↓exec_carryX, Nat.sub_zero, rep_len]; with_reducible first | exact EqP.at_ | exact EqP.cont | exact EqP.hcont | exact EqP.gate | exact EqP.hgate)) | (refine AW_ift ?_ ?_; focus (simp only [Sm]; done)) | (refine AW_iff ?_ ?_; focus (simp only [Sm]; done))))
  exact AW_ret ⟨_, rfl, rfl⟩
theorem sha_abc : shaO [97, 98, 99] = [186, 120, 22, 191, 143, 1, 207, 234, 65, 65, 64, 222, 93, 174, 34, 35, 176, 3, 97, 163, 150, 23, 122, 156, 180, 16, 255, 97, 242, 0, 21, 173] := by kernel_rfl
end PK

/- Package pestlelaw05 as code of the abstract machine. -/
namespace PK
open Go PAbs

noncomputable def c_pestlelaw05_ShaCompresses : AFn := AFn.mk 49 [.tmp 4]
  (.seq (.region
      [⟨some 2, .box (.t 0), none⟩,
        ⟨some 4, .mv (.k (.c (.bool false))), none⟩])
  (.seq (.seq (.region
        [⟨some 8, .call F_pestlelaw05_awake [], none⟩,
          ⟨some 9, .un .not (.t 8), none⟩])
    (.cond (.t 9)
      (.seq (.region
          [⟨some 4, .mv (.k (.c (.bool false))), none⟩])
      (.ret))
      (.skip)))
  (.seq (.region
      [⟨some 11, .loadN 8 (.t 2), none⟩,
        ⟨some 12, .mv (.t 1), none⟩,
        ⟨some 13, .call F_sha_Compress [.t 11, .t 12], none⟩,
        ⟨some 10, .mv (.t 13), none⟩,
        ⟨some 14, .extract (.t 10) 0, none⟩,
        ⟨some 15, .extract (.t 10) 1, none⟩,
        ⟨some 5, .alloc (rep 8 (.int .u32 0)), none⟩,
        ⟨none, .store 8 (.t 5) (.t 14), none⟩,
        ⟨some 6, .mv (.t 15), none⟩])
  (.seq (.seq (.region
        [⟨some 16, .mv (.t 1), none⟩,
          ⟨some 17, .len false (.t 16), none⟩,
          ⟨some 18, .bin .neq (.t 17) (.k (.c (.int .i64 64))), none⟩])
    (.cond (.t 18)
      (.seq (.region
          [⟨some 19, .mv (.t 6), none⟩,
            ⟨some 20, .bin .eql (.t 19) (.k (.c (.int .i64 9))), none⟩,
            ⟨some 21, .mv (.t 20), none⟩,
            ⟨some 22, .loadN 8 (.t 5), some (21, true)⟩,
            ⟨some 23, .build (rep 8 (.int .u32 0)) [], some (21, true)⟩,
            ⟨some 24, .eq false (.agg (rep 8 (.int .u32))) (.t 22) (.t 23), some (21, true)⟩,
            ⟨some 25, .pick (.t 21) (.t 24) (.k (.c (.bool false))), none⟩,
            ⟨some 4, .mv (.t 25), none⟩])
      (.ret))
      (.skip)))
  (.seq (.region
      [⟨some 26, .call F_pestleref05_Reckoned [], none⟩,
        ⟨some 7, .alloc (rep 72 (.int .u32 0)), none⟩,
        ⟨none, .store 72 (.t 7) (.t 26), none⟩])
  (.seq (.draw
      [⟨some 27, .mv (.t 6), none⟩,
        ⟨some 28, .bin .eql (.t 27) (.k (.c (.int .i64 0))), none⟩,
        ⟨some 29, .mv (.t 28), none⟩,
        ⟨some 30, .loadN 72 (.t 7), some (29, true)⟩,
        ⟨some 31, .call F_pestleref05_Known [], some (29, true)⟩,
        ⟨some 32, .eq false (.agg (rep 72 (.int .u32))) (.t 30) (.t 31), some (29, true)⟩,
        ⟨some 33, .pick (.t 29) (.t 32) (.k (.c (.bool false))), none⟩,
        ⟨some 34, .mv (.t 33), none⟩,
        ⟨some 35, .call F_sha_Initial [], some (34, true)⟩,
        ⟨some 36, .fieldAddr 64 (.t 7), some (34, true)⟩,
        ⟨some 37, .loadN 8 (.t 36), some (34, true)⟩,
        ⟨some 38, .eq false (.agg (rep 8 (.int .u32))) (.t 35) (.t 37), some (34, true)⟩,
        ⟨some 39, .pick (.t 34) (.t 38) (.k (.c (.bool false))), none⟩,
        ⟨some 40, .mv (.t 39), none⟩,
        ⟨some 41, .loadN 8 (.t 5), some (40, true)⟩,
        ⟨some 42, .loadN 72 (.t 7), some (40, true)⟩,
        ⟨some 43, .loadN 8 (.t 2), some (40, true)⟩,
        ⟨some 44, .mv (.t 1), some (40, true)⟩,
        ⟨some 45, .bytesStr (.t 44), some (40, true)⟩,
        ⟨some 46, .call F_pestleref05_Compress [.t 42, .t 43, .t 45], some (40, true)⟩]
      [⟨some 47, .eq false (.agg (rep 8 (.int .u32))) (.t 41) (.t 46), some (40, true)⟩,
        ⟨some 48, .pick (.t 40) (.t 47) (.k (.c (.bool false))), none⟩,
        ⟨some 4, .mv (.t 48), none⟩])
  (.ret)))))))
theorem t_pestlelaw05_ShaCompresses : A F_pestlelaw05_ShaCompresses = some c_pestlelaw05_ShaCompresses := by kernel_rfl

noncomputable def c_pestlelaw05_awake : AFn := AFn.mk 17 [.tmp 0]
  (.seq (.region
      [⟨some 0, .mv (.k (.c (.bool false))), none⟩])
  (.seq (.region
      [⟨some 2, .buildSlice ([.str []]) 1 1 [(0, 1, .k (.c (.str [97, 98, 99])))], none⟩,
        ⟨some 3, .call F_sha_Of [.t 2], none⟩,
        ⟨some 1, .mv (.t 3), none⟩])
  (.seq (.region
      [⟨some 4, .mv (.t 1), none⟩,
        ⟨some 5, .len true (.t 4), none⟩,
        ⟨some 6, .bin .eql (.t 5) (.k (.c (.int .i64 32))), none⟩,
        ⟨some 7, .mv (.t 6), none⟩,
        ⟨some 8, .mv (.t 1), some (7, true)⟩,
        ⟨some 9, .sliceStr (.t 8) none (some (.k (.c (.int .i64 4)))), some (7, true)⟩,
        ⟨some 10, .bin .eql (.t 9) (.k (.c (.str [186, 120, 22, 191]))), some (7, true)⟩,
        ⟨some 11, .pick (.t 7) (.t 10) (.k (.c (.bool false))), none⟩,
        ⟨some 12, .mv (.t 11), none⟩,
        ⟨some 13, .mv (.t 1), some (12, true)⟩,
        ⟨some 14, .sliceStr (.t 13) (some (.k (.c (.int .i64 28)))) none, some (12, true)⟩,
        ⟨some 15, .bin .eql (.t 14) (.k (.c (.str [242, 0, 21, 173]))), some (12, true)⟩,
        ⟨some 16, .pick (.t 12) (.t 15) (.k (.c (.bool false))), none⟩,
        ⟨some 0, .mv (.t 16), none⟩])
  (.ret))))
theorem t_pestlelaw05_awake : A F_pestlelaw05_awake = some c_pestlelaw05_awake := by kernel_rfl
end PK

/- SHA-256: the law's own test; the document's Pad; ShaPads. -/
namespace PK
open Go PAbs
set_option linter.unusedSimpArgs false
set_option linter.unusedVariables false
set_option maxRecDepth 100000
set_option maxHeartbeats 4000000

theorem binStr_self (s : List UInt8) : binStr .eql s s = some (.bool true) := by simp [binStr]
theorem AC_awake05 (H : AHeap) : AC A H.length F_pestlelaw05_awake [] H (fun v H' => v = .c (.bool true) ∧ Kept H.length H H') := by
  refine AC.kept ?_ (Nat.le_refl _)
  refine AC_enter t_pestlelaw05_awake ?_; simp only [c_pestlelaw05_awake, enterA, List.replicate, List.length_cons, List.length_nil, Nat.reduceAdd, Nat.reduceSub, List.cons_append, List.nil_append]
  (repeat (first | with_reducible (first | refine thenQ_n ?_ | refine blockQ_n ?_ | refine thenQ_e ?_ | refine thenQ_r ?_ | refine blockQ_r ?_ | refine blockQ_s ?_ | refine blockQ_o rfl ?_) | refine AW_skip ?_ | refine AW_seq ?_ | refine AW_ops ?_ | refine AW_blockS ?_ | refine AW_blockR ?_ | refine AW_blockD ?_ | refine AW_blockC ?_ | refine AO_nil ?_ | refine AW_draw ?_ | refine AW_draw3 ?_ | refine AW_blockD3 ?_ | (refine AW_drawA ?_; simp only [atBlk, Sm]) | refine AHd_nil ?_ | with_reducible (first | refine AP_at ?_ | refine AHP_at ?_) | (with_reducible (first | apply AO_any | apply AHd_any | apply AP_go | apply AHP_go); focus (simp only [Sm, wantedA, execA, stepA, List.getElem?_cons_zero, List.getElem?_cons_succ, if_true, if_false, binA, binInt, unA, eqA, Option.map, eq_self, reduceCtorEq, ite_true, ite_false, fitsAll, CK.fits, fillA, AV.cells, writeN, sliceCells, appendA, lenA, i64, loA, hiA, Nat.reduceAdd, Nat.reduceMul, Nat.reduceDiv, Nat.reduceSub, Nat.reduceLeDiff, Nat.reduceLT, Int.reduceLE, Int.reduceLT, foldA, maxA, minA, Int.reduceBEq, Int.reduceBNe, Int.reduceGT, Int.reduceGE, Int.reduceEq, Int.reduceNe, Int.reduceToNat, AOp.stops, ↓want_eq, ↓exec_lenX, ↓exec_storeX, ↓exec_storeN, storeN_one, ↓exec_bsX, ↓exec_sliceX, ↓exec_copyX, ↓exec_appNil, ↓exec_carryX, Nat.sub_zero, rep_len]; with_reducible first | exact EqP.at_ | exact EqP.cont | exact EqP.hcont | exact EqP.gate | exact EqP.hgate)) | (refine AW_ift ?_ ?_; focus (simp only [Sm]; done)) | (refine AW_iff ?_ ?_; focus (simp only [Sm]; done))))
  have hy : Rd (H ++ [Blk.own [Cell.str [97, 98, 99]]]) (.slc H.length 0 1 1) 1 ([[97, 98, 99]].map Cell.str) := (Own.one (f := 0) (Nat.zero_le _)).rd
  refine AO_call rfl ((AC_shaOf _ _ [[97, 98, 99]] hy (fun b h => by have := inX_slc.mp h; simp; omega) (by simp) (by simp)).floor (by simp)) ?_
  rintro _ H1 rfl
  have e : shaO [[97, 98, 99]].flatten = [186, 120, 22, 191, 143, 1, 207, 234, 65, 65, 64, 222, 93, 174, 34, 35, 176, 3, 97, 163, 150, 23, 122, 156, 180, 16, 255, 97, 242, 0, 21, 173] := sha_abc
  rw [e]
  have e32 : (((32 : Nat) : Int) == 32) = true := rfl
  have e4 : (4 : Int) ≤ ((32 : Nat) : Int) := by decide
  have e28 : (0 : Int) ≤ 28 := by decide
  have e04 : (0 : Int) ≤ 4 := by decide
  have b1 : binStr .eql [186, 120, 22, 191] [186, 120, 22, 191] = some (.bool true) := binStr_self _
  have b2 : binStr .eql [242, 0, 21, 173] [242, 0, 21, 173] = some (.bool true) := binStr_self _
  (repeat (first | with_reducible (first | refine thenQ_n ?_ | refine blockQ_n ?_ | refine thenQ_e ?_ | refine thenQ_r ?_ | refine blockQ_r ?_ | refine blockQ_s ?_ | refine blockQ_o rfl ?_) | refine AW_skip ?_ | refine AW_seq ?_ | refine AW_ops ?_ | refine AW_blockS ?_ | refine AW_blockR ?_ | refine AW_blockD ?_ | refine AW_blockC ?_ | refine AO_nil ?_ | refine AW_draw ?_ | refine AW_draw3 ?_ | refine AW_blockD3 ?_ | (refine AW_drawA ?_; simp only [atBlk, Sm]) | refine AHd_nil ?_ | with_reducible (first | refine AP_at ?_ | refine AHP_at ?_) | (with_reducible (first | apply AO_any | apply AHd_any | apply AP_go | apply AHP_go); focus (simp only [Sm, wantedA, execA, stepA, List.getElem?_cons_zero, List.getElem?_cons_succ, if_true, if_false, binA, binInt, unA, eqA, Option.map, eq_self, reduceCtorEq, ite_true, ite_false, fitsAll, CK.fits, fillA, AV.cells, writeN, sliceCells, appendA, lenA, i64, loA, hiA, Nat.reduceAdd, Nat.reduceMul, Nat.reduceDiv, Nat.reduceSub, Nat.reduceLeDiff, Nat.reduceLT, Int.reduceLE, Int.reduceLT, foldA, maxA, minA, Int.reduceBEq, Int.reduceBNe, Int.reduceGT, Int.reduceGE, Int.reduceEq, Int.reduceNe, Int.reduceToNat, AOp.stops, ↓want_eq, ↓exec_lenX, ↓exec_storeX, ↓exec_storeN, storeN_one, ↓exec_bsX, ↓exec_sliceX, ↓exec_copyX, ↓exec_appNil, ↓exec_carryX, Nat.sub_zero, rep_len, e32, e4, e28, e04, b1, b2, Nat.zero_le, Nat.reduceLeDiff]; with_reducible first | exact EqP.at_ | exact EqP.cont | exact EqP.hcont | exact EqP.gate | exact EqP.hgate)) | (refine AW_ift ?_ ?_; focus (simp only [Sm]; done)) | (refine AW_iff ?_ ?_; focus (simp only [Sm]; done))))
  exact AW_ret ⟨_, rfl, rfl⟩


end PK

/- ShaParts: the plain law; nil hashes; the walk. -/
namespace PK
open Go PAbs
set_option linter.unusedSimpArgs false
set_option linter.unusedVariables false
set_option maxRecDepth 100000
set_option maxHeartbeats 4000000

def stA (all : List UInt8) : List Nat := stO Is (blks 64 all (all.length / 64))
def heldA (all : List UInt8) : List UInt8 := all.drop (all.length / 64 * 64)
def Hashed (H : AHeap) (q p : Nat) (x : Cell) (all : List UInt8) : Prop := HashAt H q p x (stA all) (heldA all) all.length

theorem Hashed.chg {S : Nat → Prop} {H H' : AHeap} {q p : Nat} {x : Cell} {all : List UInt8} (h : Hashed H q p x all) (hc : Chg S H H') (hq : ¬ S q) (hp : ¬ S p) (hx : ∀ b, inX x b → ¬ S b) : Hashed H' q p x all := HashAt.chg h hc hq hp hx
theorem Hashed.kept {H H' : AHeap} {q p : Nat} {x : Cell} {all : List UInt8} (h : Hashed H q p x all) (k : Kept H.length H H') : Hashed H' q p x all := h.chg (Chg.of_kept k) (fun h => h) (fun h => h) (fun _ _ h => h)
section
variable (fl : Nat) (H : AHeap)
end

end PK

/- Plain law: words written as bytes are what is taken back. -/
namespace PK
open Go PAbs
set_option linter.unusedSimpArgs false
set_option linter.unusedVariables false
set_option maxRecDepth 100000

theorem orAdd {i n a : Nat} (hn : 2 ^ i = n) (ha : a < n) (w : Nat) : w * n + a = w * n ||| a := by
  subst hn
  have := Nat.shiftLeft_add_eq_or_of_lt ha w
  rw [Nat.shiftLeft_eq] at this; exact this
end PK

/- The document's words of bytes, and bytes swapped: walked. -/
namespace PK
open Go PAbs
set_option linter.unusedSimpArgs false
set_option linter.unusedVariables false
set_option maxRecDepth 100000

end PK

/- The document's bytes swapped: walked. -/
namespace PK
open Go PAbs
set_option linter.unusedSimpArgs false
set_option linter.unusedVariables false
set_option maxRecDepth 100000

end PK

/- Plain law: words taken byte by byte are the document's. -/
namespace PK
open Go PAbs
set_option linter.unusedSimpArgs false
set_option linter.unusedVariables false
set_option maxRecDepth 100000

def partB (k : Nat) (at_ : Nat → Nat) (bs : List Nat) (p : Nat) : Nat → Nat
  | 0 => 0
  | m + 1 => partB k at_ bs p m ||| (bs.getD (p + m) 0 * 2 ^ (8 * at_ m) % 2 ^ (8 * k))
theorem tk_partB {k : Nat} {at_ : Nat → Nat} (hk : 0 < k) (bs : List Nat) (n : Nat) (hn : bs.length / k = n) : ∀ i, i ≤ n * k → ∀ j, j < n → (tk k at_ bs i).getD j 0 = partB k at_ bs (k * j) (min k (i - k * j))
  | 0, _, j, hj => by
    simp only [tk, Nat.zero_sub, Nat.min_zero, partB, List.getD_eq_getElem?_getD, List.getElem?_replicate]
    split <;> rfl
  | i + 1, hi, j, hj => by
    have ih := tk_partB (at_ := at_) hk bs n hn i (by omega)
    have hl : (tk k at_ bs i).length = n := by rw [tk_length, hn]
    have hd := Nat.div_add_mod i k
    have hm := Nat.mod_lt i hk
    simp only [tk, getD_set', hl]
    by_cases h : i / k = j
    · rw [if_pos ⟨h, by omega⟩, h, ih j hj]
      rw [h] at hd
      have e1 : min k (i - k * j) = i % k := by omega
      have e2 : min k (i + 1 - k * j) = i % k + 1 := by omega
      rw [e1, e2]; simp only [partB, hd]
    · rw [if_neg (fun hc => h hc.1), ih j hj]
      congr 1
      rcases Nat.lt_or_gt_of_ne h with h1 | h1
      · have : k * (i / k + 1) ≤ k * j := Nat.mul_le_mul_left _ h1
        rw [Nat.mul_add, Nat.mul_one] at this
        omega
      · have : k * (j + 1) ≤ k * (i / k) := Nat.mul_le_mul_left _ h1
        rw [Nat.mul_add, Nat.mul_one] at this
        omega

theorem partB_be {bs : List Nat} (hb : ∀ k, bs.getD k 0 < 256) (p : Nat) : partB 4 (3 - ·) bs p 4 = bs.getD (p + 3) 0 + bs.getD (p + 2) 0 * 256 + bs.getD (p + 1) 0 * 65536 + bs.getD p 0 * 16777216 := by
  have h0 := hb p
  have h1 := hb (p + 1)
  have h2 := hb (p + 2)
  have h3 := hb (p + 3)
  simp only [partB, Nat.zero_or, Nat.add_zero]
  generalize bs.getD p 0 = b0 at *
  generalize bs.getD (p + 1) 0 = b1 at *
  generalize bs.getD (p + 2) 0 = b2 at *
  generalize bs.getD (p + 3) 0 = b3 at *
  simp only [show 3 - 0 = 3 from rfl, show 3 - 1 = 2 from rfl, show 3 - 2 = 1 from rfl, show 3 - 3 = 0 from rfl, show 2 ^ (8 * 3) = 16777216 from rfl, show 2 ^ (8 * 2) = 65536 from rfl, show 2 ^ (8 * 1) = 256 from rfl, show 2 ^ (8 * 0) = 1 from rfl, show 2 ^ (8 * 4) = 4294967296 from rfl]
  rw [Nat.mod_eq_of_lt (show b0 * 16777216 < 4294967296 by omega), Nat.mod_eq_of_lt (show b1 * 65536 < 4294967296 by omega), Nat.mod_eq_of_lt (show b2 * 256 < 4294967296 by omega), Nat.mod_eq_of_lt (show b3 * 1 < 4294967296 by omega)]
  rw [← orAdd (i := 24) (n := 16777216) (by decide) (show b1 * 65536 < 16777216 by omega) b0]
  have e1 : b0 * 16777216 + b1 * 65536 = (b0 * 256 + b1) * 65536 := by omega
  rw [e1, ← orAdd (i := 16) (n := 65536) (by decide) (show b2 * 256 < 65536 by omega)]
  have e2 : (b0 * 256 + b1) * 65536 + b2 * 256 = (b0 * 65536 + b1 * 256 + b2) * 256 := by
    rw [Nat.add_mul, Nat.add_mul, Nat.add_mul, Nat.mul_assoc, Nat.mul_assoc, Nat.mul_assoc]
  rw [e2, ← orAdd (i := 8) (n := 256) (by decide) (show b3 * 1 < 256 by omega)]
  omega

end PK

/- SHA-256, the document's: right, shift, spread. -/
namespace PK
open Go PAbs
set_option linter.unusedSimpArgs false
set_option linter.unusedVariables false
set_option maxRecDepth 100000
set_option maxHeartbeats 4000000

section
variable (H : AHeap)
theorem AC_refRight (n x : Nat) (h0 : 0 < n) (hn : n < 32) (hx : x < 4294967296) : AC A H.length F_pestleref05_right [.c (.int .u32 (x : Int)), .c (.int .i64 (n : Int))] H (fun v H' => v = .c (.int .u32 ((rt n x : Nat) : Int)) ∧ H = H') := by
  have e1 : IntKind.i64.wrap (32 - (n : Int)) = ((32 - n : Nat) : Int) := by rw [i64_of (by omega) (by omega)]; omega
  refine AC_enter t_pestleref05_right ?_; simp only [c_pestleref05_right, enterA, List.replicate, List.length_cons, List.length_nil, Nat.reduceAdd, Nat.reduceSub, List.cons_append, List.nil_append]
  (repeat (first | with_reducible (first | refine thenQ_n ?_ | refine blockQ_n ?_ | refine thenQ_e ?_ | refine thenQ_r ?_ | refine blockQ_r ?_ | refine blockQ_s ?_ | refine blockQ_o rfl ?_) | refine AW_skip ?_ | refine AW_seq ?_ | refine AW_ops ?_ | refine AW_blockS ?_ | refine AW_blockR ?_ | refine AW_blockD ?_ | refine AW_blockC ?_ | refine AO_nil ?_ | refine AW_draw ?_ | refine AW_draw3 ?_ | refine AW_blockD3 ?_ | (refine AW_drawA ?_; simp only [atBlk, Sm]) | refine AHd_nil ?_ | with_reducible (first | refine AP_at ?_ | refine AHP_at ?_) | (with_reducible (first | apply AO_any | apply AHd_any | apply AP_go | apply AHP_go); focus (simp only [Sm, wantedA, execA, stepA, List.getElem?_cons_zero, List.getElem?_cons_succ, if_true, if_false, binA, binInt, unA, eqA, Option.map, eq_self, reduceCtorEq, ite_true, ite_false, fitsAll, CK.fits, fillA, AV.cells, writeN, sliceCells, appendA, lenA, i64, loA, hiA, Nat.reduceAdd, Nat.reduceMul, Nat.reduceDiv, Nat.reduceSub, Nat.reduceLeDiff, Nat.reduceLT, Int.reduceLE, Int.reduceLT, foldA, maxA, minA, Int.reduceBEq, Int.reduceBNe, Int.reduceGT, Int.reduceGE, Int.reduceEq, Int.reduceNe, Int.reduceToNat, AOp.stops, ↓want_eq, ↓exec_lenX, ↓exec_storeX, ↓exec_storeN, storeN_one, ↓exec_bsX, ↓exec_sliceX, ↓exec_copyX, ↓exec_appNil, ↓exec_carryX, Nat.sub_zero, rep_len, e1]; with_reducible first | exact EqP.at_ | exact EqP.cont | exact EqP.hcont | exact EqP.gate | exact EqP.hgate)) | (refine AW_ift ?_ ?_; focus (simp only [Sm]; done)) | (refine AW_iff ?_ ?_; focus (simp only [Sm]; done))))
  refine AO_call rfl (AC_Left H.length H x ((32 - n : Nat) : Int) hx) ?_
  rintro _ _ ⟨rfl, rfl⟩
  (repeat (first | with_reducible (first | refine thenQ_n ?_ | refine blockQ_n ?_ | refine thenQ_e ?_ | refine thenQ_r ?_ | refine blockQ_r ?_ | refine blockQ_s ?_ | refine blockQ_o rfl ?_) | refine AW_skip ?_ | refine AW_seq ?_ | refine AW_ops ?_ | refine AW_blockS ?_ | refine AW_blockR ?_ | refine AW_blockD ?_ | refine AW_blockC ?_ | refine AO_nil ?_ | refine AW_draw ?_ | refine AW_draw3 ?_ | refine AW_blockD3 ?_ | (refine AW_drawA ?_; simp only [atBlk, Sm]) | refine AHd_nil ?_ | with_reducible (first | refine AP_at ?_ | refine AHP_at ?_) | (with_reducible (first | apply AO_any | apply AHd_any | apply AP_go | apply AHP_go); focus (simp only [Sm, wantedA, execA, stepA, List.getElem?_cons_zero, List.getElem?_cons_succ, if_true, if_false, binA, binInt, unA, eqA, Option.map, eq_self, reduceCtorEq, ite_true, ite_false, fitsAll, CK.fits, fillA, AV.cells, writeN, sliceCells, appendA, lenA, i64, loA, hiA, Nat.reduceAdd, Nat.reduceMul, Nat.reduceDiv, Nat.reduceSub, Nat.reduceLeDiff, Nat.reduceLT, Int.reduceLE, Int.reduceLT, foldA, maxA, minA, Int.reduceBEq, Int.reduceBNe, Int.reduceGT, Int.reduceGE, Int.reduceEq, Int.reduceNe, Int.reduceToNat, AOp.stops, ↓want_eq, ↓exec_lenX, ↓exec_storeX, ↓exec_storeN, storeN_one, ↓exec_bsX, ↓exec_sliceX, ↓exec_copyX, ↓exec_appNil, ↓exec_carryX, Nat.sub_zero, rep_len]; with_reducible first | exact EqP.at_ | exact EqP.cont | exact EqP.hcont | exact EqP.gate | exact EqP.hgate)) | (refine AW_ift ?_ ?_; focus (simp only [Sm]; done)) | (refine AW_iff ?_ ?_; focus (simp only [Sm]; done))))
  refine AW_ret ⟨_, rfl, ?_, rfl⟩
  rw [places_lit (by omega), rl_rt (by omega)]; rfl

def shI (n x : Nat) (H0 : AHeap) (i : Nat) (fr : AFrame) (H : AHeap) : Prop := H0 = H ∧ (∃ s : Nat → AV, fr = [.c (.int .u32 ((x / 2 ^ i : Nat) : Int)), .c (.int .i64 (n : Int)), s 2, s 3, s 4, .c (.int .i64 (i : Int)), s 6, s 7, s 8, s 9, s 10, s 11, s 12, s 13])
theorem AC_refShift (n x : Nat) (hn : n < 32) (hx : x < 4294967296) : AC A H.length F_pestleref05_shift [.c (.int .u32 (x : Int)), .c (.int .i64 (n : Int))] H (fun v H' => v = .c (.int .u32 ((x / 2 ^ n : Nat) : Int)) ∧ H = H') := by
  refine AC_enter t_pestleref05_shift ?_; simp only [c_pestleref05_shift, enterA, List.replicate, List.length_cons, List.length_nil, Nat.reduceAdd, Nat.reduceSub, List.cons_append, List.nil_append]
  (repeat (first | with_reducible (first | refine thenQ_n ?_ | refine blockQ_n ?_ | refine thenQ_e ?_ | refine thenQ_r ?_ | refine blockQ_r ?_ | refine blockQ_s ?_ | refine blockQ_o rfl ?_) | refine AW_skip ?_ | refine AW_seq ?_ | refine AW_ops ?_ | refine AW_blockS ?_ | refine AW_blockR ?_ | refine AW_blockD ?_ | refine AW_blockC ?_ | refine AO_nil ?_ | refine AW_draw ?_ | refine AW_draw3 ?_ | refine AW_blockD3 ?_ | (refine AW_drawA ?_; simp only [atBlk, Sm]) | refine AHd_nil ?_ | with_reducible (first | refine AP_at ?_ | refine AHP_at ?_) | (with_reducible (first | apply AO_any | apply AHd_any | apply AP_go | apply AHP_go); focus (simp only [Sm, wantedA, execA, stepA, List.getElem?_cons_zero, List.getElem?_cons_succ, if_true, if_false, binA, binInt, unA, eqA, Option.map, eq_self, reduceCtorEq, ite_true, ite_false, fitsAll, CK.fits, fillA, AV.cells, writeN, sliceCells, appendA, lenA, i64, loA, hiA, Nat.reduceAdd, Nat.reduceMul, Nat.reduceDiv, Nat.reduceSub, Nat.reduceLeDiff, Nat.reduceLT, Int.reduceLE, Int.reduceLT, foldA, maxA, minA, Int.reduceBEq, Int.reduceBNe, Int.reduceGT, Int.reduceGE, Int.reduceEq, Int.reduceNe, Int.reduceToNat, AOp.stops, ↓want_eq, ↓exec_lenX, ↓exec_storeX, ↓exec_storeN, storeN_one, ↓exec_bsX, ↓exec_sliceX, ↓exec_copyX, ↓exec_appNil, ↓exec_carryX, Nat.sub_zero, rep_len]; with_reducible first | exact EqP.at_ | exact EqP.cont | exact EqP.hcont | exact EqP.gate | exact EqP.hgate)) | (refine AW_ift ?_ ?_; focus (simp only [Sm]; done)) | (refine AW_iff ?_ ?_; focus (simp only [Sm]; done))))
  refine AW_mid (fun e fr H' => e = .normal ∧ shI n x H n fr H') ?_ ?_
  · refine AW_block (AW_up (shI n x H) n ⟨rfl, stale _ _ (by simp only [Nat.pow_zero, Nat.div_one]; rfl)⟩ ?_)
    rintro i fr _ hi ⟨rfl, st, rfl⟩
    (repeat (first | with_reducible (first | refine thenQ_n ?_ | refine blockQ_n ?_ | refine thenQ_e ?_ | refine thenQ_r ?_ | refine blockQ_r ?_ | refine blockQ_s ?_ | refine blockQ_o rfl ?_) | refine AW_skip ?_ | refine AW_seq ?_ | refine AW_ops ?_ | refine AW_blockS ?_ | refine AW_blockR ?_ | refine AW_blockD ?_ | refine AW_blockC ?_ | refine AO_nil ?_ | refine AW_draw ?_ | refine AW_draw3 ?_ | refine AW_blockD3 ?_ | (refine AW_drawA ?_; simp only [atBlk, Sm]) | refine AHd_nil ?_ | with_reducible (first | refine AP_at ?_ | refine AHP_at ?_) | (with_reducible (first | apply AO_any | apply AHd_any | apply AP_go | apply AHP_go); focus (simp only [Sm, wantedA, execA, stepA, List.getElem?_cons_zero, List.getElem?_cons_succ, if_true, if_false, binA, binInt, unA, eqA, Option.map, eq_self, reduceCtorEq, ite_true, ite_false, fitsAll, CK.fits, fillA, AV.cells, writeN, sliceCells, appendA, lenA, i64, loA, hiA, Nat.reduceAdd, Nat.reduceMul, Nat.reduceDiv, Nat.reduceSub, Nat.reduceLeDiff, Nat.reduceLT, Int.reduceLE, Int.reduceLT, foldA, maxA, minA, Int.reduceBEq, Int.reduceBNe, Int.reduceGT, Int.reduceGE, Int.reduceEq, Int.reduceNe, Int.reduceToNat, AOp.stops, ↓want_eq, ↓exec_lenX, ↓exec_storeX, ↓exec_storeN, storeN_one, ↓exec_bsX, ↓exec_sliceX, ↓exec_copyX, ↓exec_appNil, ↓exec_carryX, Nat.sub_zero, rep_len]; with_reducible first | exact EqP.at_ | exact EqP.cont | exact EqP.hcont | exact EqP.gate | exact EqP.hgate)) | (refine AW_ift ?_ ?_; focus (simp only [Sm]; done)) | (refine AW_iff ?_ ?_; focus (simp only [Sm]; done))))
    refine AW_cond rfl ?_ ?_ <;> intro ht
    · have ht : (i : Int) < n := of_decide_eq_true ht
      have hd : x / 2 ^ i ≤ x := Nat.div_le_self _ _
      have e2 : IntKind.u32.wrap (((x / 2 ^ i : Nat) : Int).tdiv 2) = ((x / 2 ^ (i + 1) : Nat) : Int) := by
        rw [Nat.pow_succ, ← Nat.div_div_eq_div_mul]
        generalize x / 2 ^ i = u at *
        rw [Int.tdiv_eq_ediv_of_nonneg (by omega), wrap32]; omega
      have z2 : ¬ ((2 : Int) = 0) := by decide
      have esc := i64_succ (show i < 9223372036854775807 by omega)
      (repeat (first | with_reducible (first | refine thenQ_n ?_ | refine blockQ_n ?_ | refine thenQ_e ?_ | refine thenQ_r ?_ | refine blockQ_r ?_ | refine blockQ_s ?_ | refine blockQ_o rfl ?_) | refine AW_skip ?_ | refine AW_seq ?_ | refine AW_ops ?_ | refine AW_blockS ?_ | refine AW_blockR ?_ | refine AW_blockD ?_ | refine AW_blockC ?_ | refine AO_nil ?_ | refine AW_draw ?_ | refine AW_draw3 ?_ | refine AW_blockD3 ?_ | (refine AW_drawA ?_; simp only [atBlk, Sm]) | refine AHd_nil ?_ | with_reducible (first | refine AP_at ?_ | refine AHP_at ?_) | (with_reducible (first | apply AO_any | apply AHd_any | apply AP_go | apply AHP_go); focus (simp only [Sm, wantedA, execA, stepA, List.getElem?_cons_zero, List.getElem?_cons_succ, if_true, if_false, binA, binInt, unA, eqA, Option.map, eq_self, reduceCtorEq, ite_true, ite_false, fitsAll, CK.fits, fillA, AV.cells, writeN, sliceCells, appendA, lenA, i64, loA, hiA, Nat.reduceAdd, Nat.reduceMul, Nat.reduceDiv, Nat.reduceSub, Nat.reduceLeDiff, Nat.reduceLT, Int.reduceLE, Int.reduceLT, foldA, maxA, minA, Int.reduceBEq, Int.reduceBNe, Int.reduceGT, Int.reduceGE, Int.reduceEq, Int.reduceNe, Int.reduceToNat, AOp.stops, ↓want_eq, ↓exec_lenX, ↓exec_storeX, ↓exec_storeN, storeN_one, ↓exec_bsX, ↓exec_sliceX, ↓exec_copyX, ↓exec_appNil, ↓exec_carryX, Nat.sub_zero, rep_len, z2, e2, esc]; with_reducible first | exact EqP.at_ | exact EqP.cont | exact EqP.hcont | exact EqP.gate | exact EqP.hgate)) | (refine AW_ift ?_ ?_; focus (simp only [Sm]; done)) | (refine AW_iff ?_ ?_; focus (simp only [Sm]; done))))
      exact ⟨by omega, rfl, stale _ _ rfl⟩
    · obtain rfl : i = n := by have : ¬ (i : Int) < n := of_decide_eq_false ht; omega
      exact AW_exit ⟨rfl, rfl, stale _ _ rfl⟩
  rintro e fr _ ⟨rfl, rfl, st, rfl⟩
  (repeat (first | with_reducible (first | refine thenQ_n ?_ | refine blockQ_n ?_ | refine thenQ_e ?_ | refine thenQ_r ?_ | refine blockQ_r ?_ | refine blockQ_s ?_ | refine blockQ_o rfl ?_) | refine AW_skip ?_ | refine AW_seq ?_ | refine AW_ops ?_ | refine AW_blockS ?_ | refine AW_blockR ?_ | refine AW_blockD ?_ | refine AW_blockC ?_ | refine AO_nil ?_ | refine AW_draw ?_ | refine AW_draw3 ?_ | refine AW_blockD3 ?_ | (refine AW_drawA ?_; simp only [atBlk, Sm]) | refine AHd_nil ?_ | with_reducible (first | refine AP_at ?_ | refine AHP_at ?_) | (with_reducible (first | apply AO_any | apply AHd_any | apply AP_go | apply AHP_go); focus (simp only [Sm, wantedA, execA, stepA, List.getElem?_cons_zero, List.getElem?_cons_succ, if_true, if_false, binA, binInt, unA, eqA, Option.map, eq_self, reduceCtorEq, ite_true, ite_false, fitsAll, CK.fits, fillA, AV.cells, writeN, sliceCells, appendA, lenA, i64, loA, hiA, Nat.reduceAdd, Nat.reduceMul, Nat.reduceDiv, Nat.reduceSub, Nat.reduceLeDiff, Nat.reduceLT, Int.reduceLE, Int.reduceLT, foldA, maxA, minA, Int.reduceBEq, Int.reduceBNe, Int.reduceGT, Int.reduceGE, Int.reduceEq, Int.reduceNe, Int.reduceToNat, AOp.stops, ↓want_eq, ↓exec_lenX, ↓exec_storeX, ↓exec_storeN, storeN_one, ↓exec_bsX, ↓exec_sliceX, ↓exec_copyX, ↓exec_appNil, ↓exec_carryX, Nat.sub_zero, rep_len]; with_reducible first | exact EqP.at_ | exact EqP.cont | exact EqP.hcont | exact EqP.gate | exact EqP.hgate)) | (refine AW_ift ?_ ?_; focus (simp only [Sm]; done)) | (refine AW_iff ?_ ?_; focus (simp only [Sm]; done))))
  exact AW_ret ⟨_, rfl, rfl, rfl⟩
end

/-! bytes taken into words, one by one -/
def m256 (x : Nat) : Nat := x * 256 % 4294967296
def tkS (bs : List Nat) : Nat → List Nat
  | 0 => List.replicate 64 0
  | t + 1 => (tkS bs t).set (t / 4) (ad (m256 ((tkS bs t).getD (t / 4) 0)) (bs.getD t 0))
theorem tkS_wd (bs : List Nat) : ∀ t, Wd 64 (tkS bs t)
  | 0 => ⟨by simp [tkS], fun k => by simp only [tkS, List.getD_eq_getElem?_getD, List.getElem?_replicate]; split <;> decide⟩
  | t + 1 => (tkS_wd bs t).set (ad_lt _ _)
def hwN (bs : List Nat) (p : Nat) : Nat → Nat
  | 0 => 0
  | j + 1 => hwN bs p j * 256 + bs.getD (p + j) 0
theorem hwN_lt {bs : List Nat} (hb : ∀ k, bs.getD k 0 < 256) (p : Nat) : ∀ j, hwN bs p j < 256 ^ j
  | 0 => by simp [hwN]
  | j + 1 => by have := hwN_lt hb p j; have := hb (p + j); simp only [hwN, Nat.pow_succ]; omega
theorem tkS_get {bs : List Nat} (hb : ∀ k, bs.getD k 0 < 256) : ∀ t, t ≤ 64 → ∀ j, (tkS bs t).getD j 0 = hwN bs (4 * j) (min 4 (t - 4 * j))
  | 0, _, j => by
    simp only [tkS, List.getD_eq_getElem?_getD, List.getElem?_replicate, Nat.zero_sub, Nat.min_zero, hwN]
    split <;> rfl
  | t + 1, ht, j => by
    have ih := tkS_get hb t (by omega)
    have hl := (tkS_wd bs t).1
    simp only [tkS]
    rw [getD_set_]
    split
    · rename_i h
      obtain ⟨rfl, _⟩ := h
      rw [ih]
      have e1 : min 4 (t - 4 * (t / 4)) = t % 4 := by omega
      have e2 : min 4 (t + 1 - 4 * (t / 4)) = t % 4 + 1 := by omega
      rw [e1, e2]
      have h1 := hwN_lt hb (4 * (t / 4)) (t % 4)
      have h2 : (256 : Nat) ^ (t % 4) ≤ 256 ^ 3 := Nat.pow_le_pow_right (by decide) (by omega)
      have e3 : 4 * (t / 4) + t % 4 = t := by omega
      simp only [hwN, e3, ad, m256]
      have h3 := hb t
      have h4 : (256 : Nat) ^ 3 = 16777216 := by decide
      omega
    · rename_i h
      rw [ih]
      rcases Nat.lt_or_ge t (4 * j) with h5 | h5
      · have e1 : min 4 (t - 4 * j) = 0 := by omega
        have e2 : min 4 (t + 1 - 4 * j) = 0 := by omega
        rw [e1, e2]
      · have e1 : min 4 (t - 4 * j) = 4 := by omega
        have e2 : min 4 (t + 1 - 4 * j) = 4 := by omega
        rw [e1, e2]
theorem list_eq_getD {l m : List Nat} {n : Nat} (hl : l.length = n) (hm : m.length = n) (h : ∀ k, k < n → l.getD k 0 = m.getD k 0) : l = m := by
  apply List.ext_getElem (by rw [hl, hm])
  intro i h1 h2
  have := h i (by omega)
  simpa [h1, h2] using this
theorem tkS_wide {bs : List Nat} (hb : ∀ k, bs.getD k 0 < 256) (hl : bs.length = 64) : tkS bs 64 = wide (tk 4 (3 - ·) bs bs.length) := by
  have hw : (tk 4 (3 - ·) bs bs.length).length = 16 := by rw [tk_length, hl]
  refine list_eq_getD (tkS_wd bs 64).1 (tk16 hl).wide.1 fun k hk => ?_
  rw [tkS_get hb 64 (by omega)]
  rcases Nat.lt_or_ge k 16 with h | h
  · have e1 : min 4 (64 - 4 * k) = 4 := by omega
    have e2 : (wide (tk 4 (3 - ·) bs bs.length)).getD k 0 = (tk 4 (3 - ·) bs bs.length).getD k 0 := by
      simp only [wide, List.getD_eq_getElem?_getD]; rw [List.getElem?_append_left (by omega)]
    rw [e1, e2, tk_partB (by decide) bs 16 (by rw [hl]) bs.length (by omega) k h, hl]
    have e3 : min 4 (64 - 4 * k) = 4 := by omega
    rw [e3, partB_be hb]
    simp only [hwN, Nat.add_zero]; omega
  · have e1 : min 4 (64 - 4 * k) = 0 := by omega
    rw [e1]
    simp only [hwN, wide, List.getD_eq_getElem?_getD]
    rw [List.getElem?_append_right (by omega), List.getElem?_replicate]
    split <;> rfl

theorem ad_swap (a b c : Nat) : ad (ad a b) c = ad (ad a c) b := by simp only [ad]; omega
theorem nextW_alt (w : List Nat) (i : Nat) : nextW w i = ad (ad (ad (w.getD (i - 16) 0) (w.getD (i - 7) 0)) (sg0 (w.getD (i - 15) 0))) (sg1 (w.getD (i - 2) 0)) := by rw [nextW, ad_swap (w.getD (i - 16) 0)]
theorem wrap_m256 (x : Nat) : IntKind.u32.wrap ((x : Int) * 256) = ((m256 x : Nat) : Int) := by rw [wrap32]; simp only [m256]; omega


def saI (p : Nat) (bs : List UInt8) (H0 : AHeap) (i : Nat) (fr : AFrame) (H : AHeap) : Prop := Chg (· = p + 1) H0 H ∧ hown H (p + 1) = some (W32 (tkS (toN bs) (4 * i))) ∧ (∃ s : Nat → AV, fr = [.c (.str bs), s 1, .c (.ptr p 0), .c (.ptr (p + 1) 0), .c (.int .i64 (i : Int)), s 5, s 6, s 7, s 8, s 9, s 10, s 11, s 12, s 13, s 14, s 15, s 16, s 17, s 18, s 19, s 20, s 21, s 22, s 23, s 24, s 25, s 26, s 27, s 28, s 29, s 30, s 31, s 32, s 33, s 34, s 35, s 36, s 37, s 38, s 39, s 40, s 41, s 42, s 43, s 44, s 45, s 46, s 47, s 48, s 49, s 50, s 51, s 52, s 53, s 54, s 55, s 56, s 57, s 58, s 59, s 60, s 61, s 62, s 63, s 64, s 65, s 66, s 67, s 68, s 69, s 70, s 71, s 72, s 73, s 74, s 75, s 76, s 77, s 78, s 79, s 80, s 81, s 82, s 83, s 84])

def sbI (p : Nat) (bs : List UInt8) (i : Nat) (H0 : AHeap) (j : Nat) (fr : AFrame) (H : AHeap) : Prop := Chg (· = p + 1) H0 H ∧ hown H (p + 1) = some (W32 (tkS (toN bs) (4 * i + j))) ∧ (∃ s : Nat → AV, fr = [.c (.str bs), s 1, .c (.ptr p 0), .c (.ptr (p + 1) 0), .c (.int .i64 (i : Int)), .c (.int .i64 (j : Int)), s 6, s 7, s 8, s 9, s 10, s 11, s 12, s 13, s 14, s 15, s 16, s 17, s 18, s 19, s 20, s 21, s 22, s 23, s 24, s 25, s 26, s 27, s 28, s 29, s 30, s 31, s 32, s 33, s 34, s 35, s 36, s 37, s 38, s 39, s 40, s 41, s 42, s 43, s 44, s 45, s 46, s 47, s 48, s 49, s 50, s 51, s 52, s 53, s 54, s 55, s 56, s 57, s 58, s 59, s 60, s 61, s 62, s 63, s 64, s 65, s 66, s 67, s 68, s 69, s 70, s 71, s 72, s 73, s 74, s 75, s 76, s 77, s 78, s 79, s 80, s 81, s 82, s 83, s 84])

def seI (p : Nat) (w : List Nat) (H0 : AHeap) (i : Nat) (fr : AFrame) (H : AHeap) : Prop := Chg (· = p + 1) H0 H ∧ hown H (p + 1) = some (W32 (exW w i)) ∧ (∃ s : Nat → AV, fr = [s 0, s 1, .c (.ptr p 0), .c (.ptr (p + 1) 0), s 4, s 5, .c (.int .i64 ((16 + i : Nat) : Int)), s 7, s 8, s 9, s 10, s 11, s 12, s 13, s 14, s 15, s 16, s 17, s 18, s 19, s 20, s 21, s 22, s 23, s 24, s 25, s 26, s 27, s 28, s 29, s 30, s 31, s 32, s 33, s 34, s 35, s 36, s 37, s 38, s 39, s 40, s 41, s 42, s 43, s 44, s 45, s 46, s 47, s 48, s 49, s 50, s 51, s 52, s 53, s 54, s 55, s 56, s 57, s 58, s 59, s 60, s 61, s 62, s 63, s 64, s 65, s 66, s 67, s 68, s 69, s 70, s 71, s 72, s 73, s 74, s 75, s 76, s 77, s 78, s 79, s 80, s 81, s 82, s 83, s 84])
theorem AC_refSpread (H : AHeap) (bs : List UInt8) (hl : bs.length = 64) :
    AC A H.length F_pestleref05_spread [.c (.str bs)] H (fun v H' => v = .agg (W32 (exW (wide (tk 4 (3 - ·) (toN bs) (toN bs).length)) 48))) := by
  refine AC_enter t_pestleref05_spread ?_; simp only [c_pestleref05_spread, enterA, List.replicate, List.length_cons, List.length_nil, Nat.reduceAdd, Nat.reduceSub, List.cons_append, List.nil_append]
  (repeat (first | with_reducible (first | refine thenQ_n ?_ | refine blockQ_n ?_ | refine thenQ_e ?_ | refine thenQ_r ?_ | refine blockQ_r ?_ | refine blockQ_s ?_ | refine blockQ_o rfl ?_) | refine AW_skip ?_ | refine AW_seq ?_ | refine AW_ops ?_ | refine AW_blockS ?_ | refine AW_blockR ?_ | refine AW_blockD ?_ | refine AW_blockC ?_ | refine AO_nil ?_ | refine AW_draw ?_ | refine AW_draw3 ?_ | refine AW_blockD3 ?_ | (refine AW_drawA ?_; simp only [atBlk, Sm]) | refine AHd_nil ?_ | with_reducible (first | refine AP_at ?_ | refine AHP_at ?_) | (with_reducible (first | apply AO_any | apply AHd_any | apply AP_go | apply AHP_go); focus (simp only [Sm, wantedA, execA, stepA, List.getElem?_cons_zero, List.getElem?_cons_succ, if_true, if_false, binA, binInt, unA, eqA, Option.map, eq_self, reduceCtorEq, ite_true, ite_false, fitsAll, CK.fits, fillA, AV.cells, writeN, sliceCells, appendA, lenA, i64, loA, hiA, Nat.reduceAdd, Nat.reduceMul, Nat.reduceDiv, Nat.reduceSub, Nat.reduceLeDiff, Nat.reduceLT, Int.reduceLE, Int.reduceLT, foldA, maxA, minA, Int.reduceBEq, Int.reduceBNe, Int.reduceGT, Int.reduceGE, Int.reduceEq, Int.reduceNe, Int.reduceToNat, AOp.stops, ↓want_eq, ↓exec_lenX, ↓exec_storeX, ↓exec_storeN, storeN_one, ↓exec_bsX, ↓exec_sliceX, ↓exec_copyX, ↓exec_appNil, ↓exec_carryX, Nat.sub_zero, rep_len]; with_reducible first | exact EqP.at_ | exact EqP.cont | exact EqP.hcont | exact EqP.gate | exact EqP.hgate)) | (refine AW_ift ?_ ?_; focus (simp only [Sm]; done)) | (refine AW_iff ?_ ?_; focus (simp only [Sm]; done))))
  have o2 : hown (H ++ [Blk.own (rep 64 (.int .u32 0))] ++ [Blk.own (rep 64 (.int .u32 0))]) H.length = some (rep 64 (.int .u32 0)) := hown_app hown_last
  have o3 : hown (H ++ [Blk.own (rep 64 (.int .u32 0))] ++ [Blk.own (rep 64 (.int .u32 0))]) (H.length + 1) = some (W32 (tkS (toN bs) (4 * 0))) := by
    have e0 : W32 (tkS (toN bs) (4 * 0)) = rep 64 (.int .u32 0) := (W32_zeros 64).symm
    rw [e0]
    have := hown_last (H := H ++ [Blk.own (rep 64 (.int .u32 0))]) (cs := rep 64 (.int .u32 0)); simpa using this
  have l1 : (H ++ [Blk.own (rep 64 (.int .u32 0))] ++ [Blk.own (rep 64 (.int .u32 0))]).length = H.length + 2 := by simp
  generalize H ++ [Blk.own (rep 64 (.int .u32 0))] ++ [Blk.own (rep 64 (.int .u32 0))] = H1 at *
  have hsw := tkS_wide (toN_lt bs) (by rw [toN_length]; exact hl)
  rw [← hsw]
  clear hsw
  generalize hp : H.length = p at *
  refine AW_mid (fun e fr H' => e = .normal ∧ saI p bs H1 16 fr H') ?_ ?_
  · refine AW_block (AW_up (saI p bs H1) 16 ⟨Chg.refl _ _, o3, stale _ _ rfl⟩ ?_)
    rintro i fr H2 hi ⟨c2, o32, st, rfl⟩
    (repeat (first | with_reducible (first | refine thenQ_n ?_ | refine blockQ_n ?_ | refine thenQ_e ?_ | refine thenQ_r ?_ | refine blockQ_r ?_ | refine blockQ_s ?_ | refine blockQ_o rfl ?_) | refine AW_skip ?_ | refine AW_seq ?_ | refine AW_ops ?_ | refine AW_blockS ?_ | refine AW_blockR ?_ | refine AW_blockD ?_ | refine AW_blockC ?_ | refine AO_nil ?_ | refine AW_draw ?_ | refine AW_draw3 ?_ | refine AW_blockD3 ?_ | (refine AW_drawA ?_; simp only [atBlk, Sm]) | refine AHd_nil ?_ | with_reducible (first | refine AP_at ?_ | refine AHP_at ?_) | (with_reducible (first | apply AO_any | apply AHd_any | apply AP_go | apply AHP_go); focus (simp only [Sm, wantedA, execA, stepA, List.getElem?_cons_zero, List.getElem?_cons_succ, if_true, if_false, binA, binInt, unA, eqA, Option.map, eq_self, reduceCtorEq, ite_true, ite_false, fitsAll, CK.fits, fillA, AV.cells, writeN, sliceCells, appendA, lenA, i64, loA, hiA, Nat.reduceAdd, Nat.reduceMul, Nat.reduceDiv, Nat.reduceSub, Nat.reduceLeDiff, Nat.reduceLT, Int.reduceLE, Int.reduceLT, foldA, maxA, minA, Int.reduceBEq, Int.reduceBNe, Int.reduceGT, Int.reduceGE, Int.reduceEq, Int.reduceNe, Int.reduceToNat, AOp.stops, ↓want_eq, ↓exec_lenX, ↓exec_storeX, ↓exec_storeN, storeN_one, ↓exec_bsX, ↓exec_sliceX, ↓exec_copyX, ↓exec_appNil, ↓exec_carryX, Nat.sub_zero, rep_len]; with_reducible first | exact EqP.at_ | exact EqP.cont | exact EqP.hcont | exact EqP.gate | exact EqP.hgate)) | (refine AW_ift ?_ ?_; focus (simp only [Sm]; done)) | (refine AW_iff ?_ ?_; focus (simp only [Sm]; done))))
    refine AW_cond rfl ?_ ?_ <;> intro ht
    · have ht : (i : Int) < 16 := of_decide_eq_true ht
      have hi2 : i < 16 := by omega
      (repeat (first | with_reducible (first | refine thenQ_n ?_ | refine blockQ_n ?_ | refine thenQ_e ?_ | refine thenQ_r ?_ | refine blockQ_r ?_ | refine blockQ_s ?_ | refine blockQ_o rfl ?_) | refine AW_skip ?_ | refine AW_seq ?_ | refine AW_ops ?_ | refine AW_blockS ?_ | refine AW_blockR ?_ | refine AW_blockD ?_ | refine AW_blockC ?_ | refine AO_nil ?_ | refine AW_draw ?_ | refine AW_draw3 ?_ | refine AW_blockD3 ?_ | (refine AW_drawA ?_; simp only [atBlk, Sm]) | refine AHd_nil ?_ | with_reducible (first | refine AP_at ?_ | refine AHP_at ?_) | (with_reducible (first | apply AO_any | apply AHd_any | apply AP_go | apply AHP_go); focus (simp only [Sm, wantedA, execA, stepA, List.getElem?_cons_zero, List.getElem?_cons_succ, if_true, if_false, binA, binInt, unA, eqA, Option.map, eq_self, reduceCtorEq, ite_true, ite_false, fitsAll, CK.fits, fillA, AV.cells, writeN, sliceCells, appendA, lenA, i64, loA, hiA, Nat.reduceAdd, Nat.reduceMul, Nat.reduceDiv, Nat.reduceSub, Nat.reduceLeDiff, Nat.reduceLT, Int.reduceLE, Int.reduceLT, foldA, maxA, minA, Int.reduceBEq, Int.reduceBNe, Int.reduceGT, Int.reduceGE, Int.reduceEq, Int.reduceNe, Int.reduceToNat, AOp.stops, ↓want_eq, ↓exec_lenX, ↓exec_storeX, ↓exec_storeN, storeN_one, ↓exec_bsX, ↓exec_sliceX, ↓exec_copyX, ↓exec_appNil, ↓exec_carryX, Nat.sub_zero, rep_len]; with_reducible first | exact EqP.at_ | exact EqP.cont | exact EqP.hcont | exact EqP.gate | exact EqP.hgate)) | (refine AW_ift ?_ ?_; focus (simp only [Sm]; done)) | (refine AW_iff ?_ ?_; focus (simp only [Sm]; done))))
      refine AW_mid (fun e fr H' => e = .normal ∧ sbI p bs i H2 4 fr H') ?_ ?_
      · refine AW_block (AW_up (sbI p bs i H2) 4 ⟨Chg.refl _ _, o32, stale _ _ rfl⟩ ?_)
        rintro j fr H3 hj ⟨c3, o33, st, rfl⟩
        have hS := tkS_wd (toN bs) (4 * i + j)
        have hsucc : tkS (toN bs) (4 * i + (j + 1)) = (tkS (toN bs) (4 * i + j)).set ((4 * i + j) / 4) (ad (m256 ((tkS (toN bs) (4 * i + j)).getD ((4 * i + j) / 4) 0)) ((toN bs).getD (4 * i + j) 0)) := rfl
        generalize hu : tkS (toN bs) (4 * i + j) = u at *
        (repeat (first | with_reducible (first | refine thenQ_n ?_ | refine blockQ_n ?_ | refine thenQ_e ?_ | refine thenQ_r ?_ | refine blockQ_r ?_ | refine blockQ_s ?_ | refine blockQ_o rfl ?_) | refine AW_skip ?_ | refine AW_seq ?_ | refine AW_ops ?_ | refine AW_blockS ?_ | refine AW_blockR ?_ | refine AW_blockD ?_ | refine AW_blockC ?_ | refine AO_nil ?_ | refine AW_draw ?_ | refine AW_draw3 ?_ | refine AW_blockD3 ?_ | (refine AW_drawA ?_; simp only [atBlk, Sm]) | refine AHd_nil ?_ | with_reducible (first | refine AP_at ?_ | refine AHP_at ?_) | (with_reducible (first | apply AO_any | apply AHd_any | apply AP_go | apply AHP_go); focus (simp only [Sm, wantedA, execA, stepA, List.getElem?_cons_zero, List.getElem?_cons_succ, if_true, if_false, binA, binInt, unA, eqA, Option.map, eq_self, reduceCtorEq, ite_true, ite_false, fitsAll, CK.fits, fillA, AV.cells, writeN, sliceCells, appendA, lenA, i64, loA, hiA, Nat.reduceAdd, Nat.reduceMul, Nat.reduceDiv, Nat.reduceSub, Nat.reduceLeDiff, Nat.reduceLT, Int.reduceLE, Int.reduceLT, foldA, maxA, minA, Int.reduceBEq, Int.reduceBNe, Int.reduceGT, Int.reduceGE, Int.reduceEq, Int.reduceNe, Int.reduceToNat, AOp.stops, ↓want_eq, ↓exec_lenX, ↓exec_storeX, ↓exec_storeN, storeN_one, ↓exec_bsX, ↓exec_sliceX, ↓exec_copyX, ↓exec_appNil, ↓exec_carryX, Nat.sub_zero, rep_len]; with_reducible first | exact EqP.at_ | exact EqP.cont | exact EqP.hcont | exact EqP.gate | exact EqP.hgate)) | (refine AW_ift ?_ ?_; focus (simp only [Sm]; done)) | (refine AW_iff ?_ ?_; focus (simp only [Sm]; done))))
        refine AW_cond rfl ?_ ?_ <;> intro htj
        · have htj : (j : Int) < 4 := of_decide_eq_true htj
          have hj2 : j < 4 := by omega
          rw [show (4 * i + j) / 4 = i by omega] at hsucc
          have g1 := hS.get (i := i) (by omega)
          have e1 : IntKind.i64.wrap (4 * (i : Int)) = ((4 * i : Nat) : Int) := by rw [i64_of (by omega) (by omega)]; omega
          have e2 : IntKind.i64.wrap (((4 * i : Nat) : Int) + (j : Int)) = ((4 * i + j : Nat) : Int) := by rw [i64_of (by omega) (by omega)]; omega
          have b64 : ((i : Nat) : Int) < 64 := by omega
          have h3 := hcells_own o33
          have l3 := hown_lt o33
          obtain ⟨x, hx⟩ : ∃ x, bs[4 * i + j]? = some x := ⟨_, List.getElem?_eq_getElem (by omega)⟩
          have hxn : (toN bs).getD (4 * i + j) 0 = x.toNat := by simp only [toN, List.getD_eq_getElem?_getD, List.getElem?_map, hx]; rfl
          rw [hxn] at hsucc
          have hx3 : IntKind.u32.wrap ((x.toNat : Nat) : Int) = ((x.toNat : Nat) : Int) := u32_nat (by have := x.toNat_lt; omega)
          have i64 : i < 64 := by omega
          have esc := i64_succ (show j < 9223372036854775807 by omega)
          (repeat (first | with_reducible (first | refine thenQ_n ?_ | refine blockQ_n ?_ | refine thenQ_e ?_ | refine thenQ_r ?_ | refine blockQ_r ?_ | refine blockQ_s ?_ | refine blockQ_o rfl ?_) | refine AW_skip ?_ | refine AW_seq ?_ | refine AW_ops ?_ | refine AW_blockS ?_ | refine AW_blockR ?_ | refine AW_blockD ?_ | refine AW_blockC ?_ | refine AO_nil ?_ | refine AW_draw ?_ | refine AW_draw3 ?_ | refine AW_blockD3 ?_ | (refine AW_drawA ?_; simp only [atBlk, Sm]) | refine AHd_nil ?_ | with_reducible (first | refine AP_at ?_ | refine AHP_at ?_) | (with_reducible (first | apply AO_any | apply AHd_any | apply AP_go | apply AHP_go); focus (simp only [Sm, wantedA, execA, stepA, List.getElem?_cons_zero, List.getElem?_cons_succ, if_true, if_false, binA, binInt, unA, eqA, Option.map, eq_self, reduceCtorEq, ite_true, ite_false, fitsAll, CK.fits, fillA, AV.cells, writeN, sliceCells, appendA, lenA, i64, loA, hiA, Nat.reduceAdd, Nat.reduceMul, Nat.reduceDiv, Nat.reduceSub, Nat.reduceLeDiff, Nat.reduceLT, Int.reduceLE, Int.reduceLT, foldA, maxA, minA, Int.reduceBEq, Int.reduceBNe, Int.reduceGT, Int.reduceGE, Int.reduceEq, Int.reduceNe, Int.reduceToNat, AOp.stops, ↓want_eq, ↓exec_lenX, ↓exec_storeX, ↓exec_storeN, storeN_one, ↓exec_bsX, ↓exec_sliceX, ↓exec_copyX, ↓exec_appNil, ↓exec_carryX, Nat.sub_zero, rep_len, b64, h3, g1, Nat.zero_add, wrap_m256, e1, e2, hx, hx3, wrap_ad, storeX_own o33 (by omega : p ≤ p + 1) (by rw [hS.len]; exact i64 : i < _), esc]; with_reducible first | exact EqP.at_ | exact EqP.cont | exact EqP.hcont | exact EqP.gate | exact EqP.hgate)) | (refine AW_ift ?_ ?_; focus (simp only [Sm]; done)) | (refine AW_iff ?_ ?_; focus (simp only [Sm]; done))))
          refine ⟨hj2, c3.trans (Chg.set (S := (· = p + 1)) rfl) fun _ _ h => h, ?_, stale _ _ rfl⟩
          rw [hown_set l3, W32_put, hsucc]
        · obtain rfl : j = 4 := by have : ¬ (j : Int) < 4 := of_decide_eq_false htj; omega
          subst hu
          exact AW_exit ⟨rfl, c3, o33, stale _ _ rfl⟩
      rintro e fr H3 ⟨rfl, c3, o33, st, rfl⟩
      have esc := i64_succ (show i < 9223372036854775807 by omega)
      (repeat (first | with_reducible (first | refine thenQ_n ?_ | refine blockQ_n ?_ | refine thenQ_e ?_ | refine thenQ_r ?_ | refine blockQ_r ?_ | refine blockQ_s ?_ | refine blockQ_o rfl ?_) | refine AW_skip ?_ | refine AW_seq ?_ | refine AW_ops ?_ | refine AW_blockS ?_ | refine AW_blockR ?_ | refine AW_blockD ?_ | refine AW_blockC ?_ | refine AO_nil ?_ | refine AW_draw ?_ | refine AW_draw3 ?_ | refine AW_blockD3 ?_ | (refine AW_drawA ?_; simp only [atBlk, Sm]) | refine AHd_nil ?_ | with_reducible (first | refine AP_at ?_ | refine AHP_at ?_) | (with_reducible (first | apply AO_any | apply AHd_any | apply AP_go | apply AHP_go); focus (simp only [Sm, wantedA, execA, stepA, List.getElem?_cons_zero, List.getElem?_cons_succ, if_true, if_false, binA, binInt, unA, eqA, Option.map, eq_self, reduceCtorEq, ite_true, ite_false, fitsAll, CK.fits, fillA, AV.cells, writeN, sliceCells, appendA, lenA, i64, loA, hiA, Nat.reduceAdd, Nat.reduceMul, Nat.reduceDiv, Nat.reduceSub, Nat.reduceLeDiff, Nat.reduceLT, Int.reduceLE, Int.reduceLT, foldA, maxA, minA, Int.reduceBEq, Int.reduceBNe, Int.reduceGT, Int.reduceGE, Int.reduceEq, Int.reduceNe, Int.reduceToNat, AOp.stops, ↓want_eq, ↓exec_lenX, ↓exec_storeX, ↓exec_storeN, storeN_one, ↓exec_bsX, ↓exec_sliceX, ↓exec_copyX, ↓exec_appNil, ↓exec_carryX, Nat.sub_zero, rep_len, esc]; with_reducible first | exact EqP.at_ | exact EqP.cont | exact EqP.hcont | exact EqP.gate | exact EqP.hgate)) | (refine AW_ift ?_ ?_; focus (simp only [Sm]; done)) | (refine AW_iff ?_ ?_; focus (simp only [Sm]; done))))
      exact ⟨hi2, c2.trans c3 (fun _ _ h => h), o33, stale _ _ rfl⟩
    · obtain rfl : i = 16 := by have : ¬ (i : Int) < 16 := of_decide_eq_false ht; omega
      exact AW_exit ⟨rfl, c2, o32, stale _ _ rfl⟩
  rintro e fr H3 ⟨rfl, c3, o33, st, rfl⟩
  have hW := tkS_wd (toN bs) 64
  have o33 : hown H3 (p + 1) = some (W32 (tkS (toN bs) 64)) := o33
  generalize tkS (toN bs) 64 = w at *
  have o23 := c3.hown (by omega : ¬ p = p + 1) o2
  (repeat (first | with_reducible (first | refine thenQ_n ?_ | refine blockQ_n ?_ | refine thenQ_e ?_ | refine thenQ_r ?_ | refine blockQ_r ?_ | refine blockQ_s ?_ | refine blockQ_o rfl ?_) | refine AW_skip ?_ | refine AW_seq ?_ | refine AW_ops ?_ | refine AW_blockS ?_ | refine AW_blockR ?_ | refine AW_blockD ?_ | refine AW_blockC ?_ | refine AO_nil ?_ | refine AW_draw ?_ | refine AW_draw3 ?_ | refine AW_blockD3 ?_ | (refine AW_drawA ?_; simp only [atBlk, Sm]) | refine AHd_nil ?_ | with_reducible (first | refine AP_at ?_ | refine AHP_at ?_) | (with_reducible (first | apply AO_any | apply AHd_any | apply AP_go | apply AHP_go); focus (simp only [Sm, wantedA, execA, stepA, List.getElem?_cons_zero, List.getElem?_cons_succ, if_true, if_false, binA, binInt, unA, eqA, Option.map, eq_self, reduceCtorEq, ite_true, ite_false, fitsAll, CK.fits, fillA, AV.cells, writeN, sliceCells, appendA, lenA, i64, loA, hiA, Nat.reduceAdd, Nat.reduceMul, Nat.reduceDiv, Nat.reduceSub, Nat.reduceLeDiff, Nat.reduceLT, Int.reduceLE, Int.reduceLT, foldA, maxA, minA, Int.reduceBEq, Int.reduceBNe, Int.reduceGT, Int.reduceGE, Int.reduceEq, Int.reduceNe, Int.reduceToNat, AOp.stops, ↓want_eq, ↓exec_lenX, ↓exec_storeX, ↓exec_storeN, storeN_one, ↓exec_bsX, ↓exec_sliceX, ↓exec_copyX, ↓exec_appNil, ↓exec_carryX, Nat.sub_zero, rep_len]; with_reducible first | exact EqP.at_ | exact EqP.cont | exact EqP.hcont | exact EqP.gate | exact EqP.hgate)) | (refine AW_ift ?_ ?_; focus (simp only [Sm]; done)) | (refine AW_iff ?_ ?_; focus (simp only [Sm]; done))))
  have hW0 := hW
  refine AW_mid (fun e fr H' => e = .normal ∧ seI p w H3 48 fr H') ?_ ?_
  · refine AW_block (AW_up (seI p w H3) 48 ⟨Chg.refl _ _, o33, stale _ _ rfl⟩ ?_)
    rintro i fr H4 hi ⟨c4, o4, st, rfl⟩
    have hWi := hW.ex i
    have hsucc : exW w (i + 1) = (exW w i).set (16 + i) (nextW (exW w i) (16 + i)) := rfl
    generalize hu : exW w i = u at *
    (repeat (first | with_reducible (first | refine thenQ_n ?_ | refine blockQ_n ?_ | refine thenQ_e ?_ | refine thenQ_r ?_ | refine blockQ_r ?_ | refine blockQ_s ?_ | refine blockQ_o rfl ?_) | refine AW_skip ?_ | refine AW_seq ?_ | refine AW_ops ?_ | refine AW_blockS ?_ | refine AW_blockR ?_ | refine AW_blockD ?_ | refine AW_blockC ?_ | refine AO_nil ?_ | refine AW_draw ?_ | refine AW_draw3 ?_ | refine AW_blockD3 ?_ | (refine AW_drawA ?_; simp only [atBlk, Sm]) | refine AHd_nil ?_ | with_reducible (first | refine AP_at ?_ | refine AHP_at ?_) | (with_reducible (first | apply AO_any | apply AHd_any | apply AP_go | apply AHP_go); focus (simp only [Sm, wantedA, execA, stepA, List.getElem?_cons_zero, List.getElem?_cons_succ, if_true, if_false, binA, binInt, unA, eqA, Option.map, eq_self, reduceCtorEq, ite_true, ite_false, fitsAll, CK.fits, fillA, AV.cells, writeN, sliceCells, appendA, lenA, i64, loA, hiA, Nat.reduceAdd, Nat.reduceMul, Nat.reduceDiv, Nat.reduceSub, Nat.reduceLeDiff, Nat.reduceLT, Int.reduceLE, Int.reduceLT, foldA, maxA, minA, Int.reduceBEq, Int.reduceBNe, Int.reduceGT, Int.reduceGE, Int.reduceEq, Int.reduceNe, Int.reduceToNat, AOp.stops, ↓want_eq, ↓exec_lenX, ↓exec_storeX, ↓exec_storeN, storeN_one, ↓exec_bsX, ↓exec_sliceX, ↓exec_copyX, ↓exec_appNil, ↓exec_carryX, Nat.sub_zero, rep_len]; with_reducible first | exact EqP.at_ | exact EqP.cont | exact EqP.hcont | exact EqP.gate | exact EqP.hgate)) | (refine AW_ift ?_ ?_; focus (simp only [Sm]; done)) | (refine AW_iff ?_ ?_; focus (simp only [Sm]; done))))
    refine AW_cond rfl ?_ ?_ <;> intro ht
    · have ht : ((16 + i : Nat) : Int) < 64 := of_decide_eq_true ht
      have hi2 : i < 48 := by omega
      have e1 : IntKind.i64.wrap (((16 + i : Nat) : Int) - 15) = ((16 + i - 15 : Nat) : Int) := by rw [i64_of (by omega) (by omega)]; omega
      have e2 : IntKind.i64.wrap (((16 + i : Nat) : Int) - 2) = ((16 + i - 2 : Nat) : Int) := by rw [i64_of (by omega) (by omega)]; omega
      have e3 : IntKind.i64.wrap (((16 + i : Nat) : Int) - 16) = ((16 + i - 16 : Nat) : Int) := by rw [i64_of (by omega) (by omega)]; omega
      have e4 : IntKind.i64.wrap (((16 + i : Nat) : Int) - 7) = ((16 + i - 7 : Nat) : Int) := by rw [i64_of (by omega) (by omega)]; omega
      have b1 : ((16 + i - 15 : Nat) : Int) < 64 := by omega
      have b2 : ((16 + i - 2 : Nat) : Int) < 64 := by omega
      have b3 : ((16 + i - 16 : Nat) : Int) < 64 := by omega
      have b4 : ((16 + i - 7 : Nat) : Int) < 64 := by omega
      have g1 := hWi.get (i := 16 + i - 15) (by omega)
      have g2 := hWi.get (i := 16 + i - 2) (by omega)
      have g3 := hWi.get (i := 16 + i - 16) (by omega)
      have g4 := hWi.get (i := 16 + i - 7) (by omega)
      have w1 := hWi.2 (16 + i - 15)
      have w2 := hWi.2 (16 + i - 2)
      have w3 := hWi.2 (16 + i - 16)
      have w4 := hWi.2 (16 + i - 7)
      rw [nextW_alt] at hsucc
      generalize 16 + i - 15 = j1 at *
      generalize 16 + i - 2 = j2 at *
      generalize 16 + i - 16 = j3 at *
      generalize 16 + i - 7 = j4 at *
      generalize u.getD j1 0 = v1 at *
      generalize u.getD j2 0 = v2 at *
      generalize u.getD j3 0 = v3 at *
      generalize u.getD j4 0 = v4 at *
      have hc4 := hcells_own o4
      have l4 := hown_lt o4
      have s0 := sg0_lt w1
      have s1 := sg1_lt w2
      have r7 := rt_lt (n := 7) (by omega) w1
      have r18 := rt_lt (n := 18) (by omega) w1
      have r17 := rt_lt (n := 17) (by omega) w2
      have r19 := rt_lt (n := 19) (by omega) w2
      have x1 := xo32 r7 r18
      have x2 : bitsA .xor .u32 ((rt 7 v1 ^^^ rt 18 v1 : Nat) : Int) ((v1 / 8 : Nat) : Int) = ((sg0 v1 : Nat) : Int) := xo32 (xo_lt r7 r18) (by omega)
      have x3 := xo32 r17 r19
      have x4 : bitsA .xor .u32 ((rt 17 v2 ^^^ rt 19 v2 : Nat) : Int) ((v2 / 1024 : Nat) : Int) = ((sg1 v2 : Nat) : Int) := xo32 (xo_lt r17 r19) (by omega)
      have v1d8 : v1 / 2 ^ 3 = v1 / 8 := rfl
      have v2d10 : v2 / 2 ^ 10 = v2 / 1024 := rfl
      (repeat (first | with_reducible (first | refine thenQ_n ?_ | refine blockQ_n ?_ | refine thenQ_e ?_ | refine thenQ_r ?_ | refine blockQ_r ?_ | refine blockQ_s ?_ | refine blockQ_o rfl ?_) | refine AW_skip ?_ | refine AW_seq ?_ | refine AW_ops ?_ | refine AW_blockS ?_ | refine AW_blockR ?_ | refine AW_blockD ?_ | refine AW_blockC ?_ | refine AO_nil ?_ | refine AW_draw ?_ | refine AW_draw3 ?_ | refine AW_blockD3 ?_ | (refine AW_drawA ?_; simp only [atBlk, Sm]) | refine AHd_nil ?_ | with_reducible (first | refine AP_at ?_ | refine AHP_at ?_) | (with_reducible (first | apply AO_any | apply AHd_any | apply AP_go | apply AHP_go); focus (simp only [Sm, wantedA, execA, stepA, List.getElem?_cons_zero, List.getElem?_cons_succ, if_true, if_false, binA, binInt, unA, eqA, Option.map, eq_self, reduceCtorEq, ite_true, ite_false, fitsAll, CK.fits, fillA, AV.cells, writeN, sliceCells, appendA, lenA, i64, loA, hiA, Nat.reduceAdd, Nat.reduceMul, Nat.reduceDiv, Nat.reduceSub, Nat.reduceLeDiff, Nat.reduceLT, Int.reduceLE, Int.reduceLT, foldA, maxA, minA, Int.reduceBEq, Int.reduceBNe, Int.reduceGT, Int.reduceGE, Int.reduceEq, Int.reduceNe, Int.reduceToNat, AOp.stops, ↓want_eq, ↓exec_lenX, ↓exec_storeX, ↓exec_storeN, storeN_one, ↓exec_bsX, ↓exec_sliceX, ↓exec_copyX, ↓exec_appNil, ↓exec_carryX, Nat.sub_zero, rep_len, hc4, e1, b1, g1, Nat.zero_add]; with_reducible first | exact EqP.at_ | exact EqP.cont | exact EqP.hcont | exact EqP.gate | exact EqP.hgate)) | (refine AW_ift ?_ ?_; focus (simp only [Sm]; done)) | (refine AW_iff ?_ ?_; focus (simp only [Sm]; done))))
      refine AHd_call rfl (AC_refRight H4 7 v1 (by omega) (by omega) w1) ?_
      rintro _ _ ⟨rfl, rfl⟩ -
      (repeat (first | with_reducible (first | refine thenQ_n ?_ | refine blockQ_n ?_ | refine thenQ_e ?_ | refine thenQ_r ?_ | refine blockQ_r ?_ | refine blockQ_s ?_ | refine blockQ_o rfl ?_) | refine AW_skip ?_ | refine AW_seq ?_ | refine AW_ops ?_ | refine AW_blockS ?_ | refine AW_blockR ?_ | refine AW_blockD ?_ | refine AW_blockC ?_ | refine AO_nil ?_ | refine AW_draw ?_ | refine AW_draw3 ?_ | refine AW_blockD3 ?_ | (refine AW_drawA ?_; simp only [atBlk, Sm]) | refine AHd_nil ?_ | with_reducible (first | refine AP_at ?_ | refine AHP_at ?_) | (with_reducible (first | apply AO_any | apply AHd_any | apply AP_go | apply AHP_go); focus (simp only [Sm, wantedA, execA, stepA, List.getElem?_cons_zero, List.getElem?_cons_succ, if_true, if_false, binA, binInt, unA, eqA, Option.map, eq_self, reduceCtorEq, ite_true, ite_false, fitsAll, CK.fits, fillA, AV.cells, writeN, sliceCells, appendA, lenA, i64, loA, hiA, Nat.reduceAdd, Nat.reduceMul, Nat.reduceDiv, Nat.reduceSub, Nat.reduceLeDiff, Nat.reduceLT, Int.reduceLE, Int.reduceLT, foldA, maxA, minA, Int.reduceBEq, Int.reduceBNe, Int.reduceGT, Int.reduceGE, Int.reduceEq, Int.reduceNe, Int.reduceToNat, AOp.stops, ↓want_eq, ↓exec_lenX, ↓exec_storeX, ↓exec_storeN, storeN_one, ↓exec_bsX, ↓exec_sliceX, ↓exec_copyX, ↓exec_appNil, ↓exec_carryX, Nat.sub_zero, rep_len, hc4, e1, b1, g1, Nat.zero_add]; with_reducible first | exact EqP.at_ | exact EqP.cont | exact EqP.hcont | exact EqP.gate | exact EqP.hgate)) | (refine AW_ift ?_ ?_; focus (simp only [Sm]; done)) | (refine AW_iff ?_ ?_; focus (simp only [Sm]; done))))
      refine AHd_call rfl (AC_refRight H4 18 v1 (by omega) (by omega) w1) ?_
      rintro _ _ ⟨rfl, rfl⟩ -
      (repeat (first | with_reducible (first | refine thenQ_n ?_ | refine blockQ_n ?_ | refine thenQ_e ?_ | refine thenQ_r ?_ | refine blockQ_r ?_ | refine blockQ_s ?_ | refine blockQ_o rfl ?_) | refine AW_skip ?_ | refine AW_seq ?_ | refine AW_ops ?_ | refine AW_blockS ?_ | refine AW_blockR ?_ | refine AW_blockD ?_ | refine AW_blockC ?_ | refine AO_nil ?_ | refine AW_draw ?_ | refine AW_draw3 ?_ | refine AW_blockD3 ?_ | (refine AW_drawA ?_; simp only [atBlk, Sm]) | refine AHd_nil ?_ | with_reducible (first | refine AP_at ?_ | refine AHP_at ?_) | (with_reducible (first | apply AO_any | apply AHd_any | apply AP_go | apply AHP_go); focus (simp only [Sm, wantedA, execA, stepA, List.getElem?_cons_zero, List.getElem?_cons_succ, if_true, if_false, binA, binInt, unA, eqA, Option.map, eq_self, reduceCtorEq, ite_true, ite_false, fitsAll, CK.fits, fillA, AV.cells, writeN, sliceCells, appendA, lenA, i64, loA, hiA, Nat.reduceAdd, Nat.reduceMul, Nat.reduceDiv, Nat.reduceSub, Nat.reduceLeDiff, Nat.reduceLT, Int.reduceLE, Int.reduceLT, foldA, maxA, minA, Int.reduceBEq, Int.reduceBNe, Int.reduceGT, Int.reduceGE, Int.reduceEq, Int.reduceNe, Int.reduceToNat, AOp.stops, ↓want_eq, ↓exec_lenX, ↓exec_storeX, ↓exec_storeN, storeN_one, ↓exec_bsX, ↓exec_sliceX, ↓exec_copyX, ↓exec_appNil, ↓exec_carryX, Nat.sub_zero, rep_len, x1, hc4, e1, b1, g1, Nat.zero_add]; with_reducible first | exact EqP.at_ | exact EqP.cont | exact EqP.hcont | exact EqP.gate | exact EqP.hgate)) | (refine AW_ift ?_ ?_; focus (simp only [Sm]; done)) | (refine AW_iff ?_ ?_; focus (simp only [Sm]; done))))
      refine AHd_call rfl (AC_refShift H4 3 v1 (by omega) w1) ?_
      rintro _ _ ⟨rfl, rfl⟩ -
      rw [v1d8]
      (repeat (first | with_reducible (first | refine thenQ_n ?_ | refine blockQ_n ?_ | refine thenQ_e ?_ | refine thenQ_r ?_ | refine blockQ_r ?_ | refine blockQ_s ?_ | refine blockQ_o rfl ?_) | refine AW_skip ?_ | refine AW_seq ?_ | refine AW_ops ?_ | refine AW_blockS ?_ | refine AW_blockR ?_ | refine AW_blockD ?_ | refine AW_blockC ?_ | refine AO_nil ?_ | refine AW_draw ?_ | refine AW_draw3 ?_ | refine AW_blockD3 ?_ | (refine AW_drawA ?_; simp only [atBlk, Sm]) | refine AHd_nil ?_ | with_reducible (first | refine AP_at ?_ | refine AHP_at ?_) | (with_reducible (first | apply AO_any | apply AHd_any | apply AP_go | apply AHP_go); focus (simp only [Sm, wantedA, execA, stepA, List.getElem?_cons_zero, List.getElem?_cons_succ, if_true, if_false, binA, binInt, unA, eqA, Option.map, eq_self, reduceCtorEq, ite_true, ite_false, fitsAll, CK.fits, fillA, AV.cells, writeN, sliceCells, appendA, lenA, i64, loA, hiA, Nat.reduceAdd, Nat.reduceMul, Nat.reduceDiv, Nat.reduceSub, Nat.reduceLeDiff, Nat.reduceLT, Int.reduceLE, Int.reduceLT, foldA, maxA, minA, Int.reduceBEq, Int.reduceBNe, Int.reduceGT, Int.reduceGE, Int.reduceEq, Int.reduceNe, Int.reduceToNat, AOp.stops, ↓want_eq, ↓exec_lenX, ↓exec_storeX, ↓exec_storeN, storeN_one, ↓exec_bsX, ↓exec_sliceX, ↓exec_copyX, ↓exec_appNil, ↓exec_carryX, Nat.sub_zero, rep_len, x2, hc4, e2, b2, g2, Nat.zero_add]; with_reducible first | exact EqP.at_ | exact EqP.cont | exact EqP.hcont | exact EqP.gate | exact EqP.hgate)) | (refine AW_ift ?_ ?_; focus (simp only [Sm]; done)) | (refine AW_iff ?_ ?_; focus (simp only [Sm]; done))))
      refine AHd_call rfl (AC_refRight H4 17 v2 (by omega) (by omega) w2) ?_
      rintro _ _ ⟨rfl, rfl⟩ -
      (repeat (first | with_reducible (first | refine thenQ_n ?_ | refine blockQ_n ?_ | refine thenQ_e ?_ | refine thenQ_r ?_ | refine blockQ_r ?_ | refine blockQ_s ?_ | refine blockQ_o rfl ?_) | refine AW_skip ?_ | refine AW_seq ?_ | refine AW_ops ?_ | refine AW_blockS ?_ | refine AW_blockR ?_ | refine AW_blockD ?_ | refine AW_blockC ?_ | refine AO_nil ?_ | refine AW_draw ?_ | refine AW_draw3 ?_ | refine AW_blockD3 ?_ | (refine AW_drawA ?_; simp only [atBlk, Sm]) | refine AHd_nil ?_ | with_reducible (first | refine AP_at ?_ | refine AHP_at ?_) | (with_reducible (first | apply AO_any | apply AHd_any | apply AP_go | apply AHP_go); focus (simp only [Sm, wantedA, execA, stepA, List.getElem?_cons_zero, List.getElem?_cons_succ, if_true, if_false, binA, binInt, unA, eqA, Option.map, eq_self, reduceCtorEq, ite_true, ite_false, fitsAll, CK.fits, fillA, AV.cells, writeN, sliceCells, appendA, lenA, i64, loA, hiA, Nat.reduceAdd, Nat.reduceMul, Nat.reduceDiv, Nat.reduceSub, Nat.reduceLeDiff, Nat.reduceLT, Int.reduceLE, Int.reduceLT, foldA, maxA, minA, Int.reduceBEq, Int.reduceBNe, Int.reduceGT, Int.reduceGE, Int.reduceEq, Int.reduceNe, Int.reduceToNat, AOp.stops, ↓want_eq, ↓exec_lenX, ↓exec_storeX, ↓exec_storeN, storeN_one, ↓exec_bsX, ↓exec_sliceX, ↓exec_copyX, ↓exec_appNil, ↓exec_carryX, Nat.sub_zero, rep_len, hc4, e2, b2, g2, Nat.zero_add]; with_reducible first | exact EqP.at_ | exact EqP.cont | exact EqP.hcont | exact EqP.gate | exact EqP.hgate)) | (refine AW_ift ?_ ?_; focus (simp only [Sm]; done)) | (refine AW_iff ?_ ?_; focus (simp only [Sm]; done))))
      refine AHd_call rfl (AC_refRight H4 19 v2 (by omega) (by omega) w2) ?_
      rintro _ _ ⟨rfl, rfl⟩ -
      (repeat (first | with_reducible (first | refine thenQ_n ?_ | refine blockQ_n ?_ | refine thenQ_e ?_ | refine thenQ_r ?_ | refine blockQ_r ?_ | refine blockQ_s ?_ | refine blockQ_o rfl ?_) | refine AW_skip ?_ | refine AW_seq ?_ | refine AW_ops ?_ | refine AW_blockS ?_ | refine AW_blockR ?_ | refine AW_blockD ?_ | refine AW_blockC ?_ | refine AO_nil ?_ | refine AW_draw ?_ | refine AW_draw3 ?_ | refine AW_blockD3 ?_ | (refine AW_drawA ?_; simp only [atBlk, Sm]) | refine AHd_nil ?_ | with_reducible (first | refine AP_at ?_ | refine AHP_at ?_) | (with_reducible (first | apply AO_any | apply AHd_any | apply AP_go | apply AHP_go); focus (simp only [Sm, wantedA, execA, stepA, List.getElem?_cons_zero, List.getElem?_cons_succ, if_true, if_false, binA, binInt, unA, eqA, Option.map, eq_self, reduceCtorEq, ite_true, ite_false, fitsAll, CK.fits, fillA, AV.cells, writeN, sliceCells, appendA, lenA, i64, loA, hiA, Nat.reduceAdd, Nat.reduceMul, Nat.reduceDiv, Nat.reduceSub, Nat.reduceLeDiff, Nat.reduceLT, Int.reduceLE, Int.reduceLT, foldA, maxA, minA, Int.reduceBEq, Int.reduceBNe, Int.reduceGT, Int.reduceGE, Int.reduceEq, Int.reduceNe, Int.reduceToNat, AOp.stops, ↓want_eq, ↓exec_lenX, ↓exec_storeX, ↓exec_storeN, storeN_one, ↓exec_bsX, ↓exec_sliceX, ↓exec_copyX, ↓exec_appNil, ↓exec_carryX, Nat.sub_zero, rep_len, x3, hc4, e2, b2, g2, Nat.zero_add]; with_reducible first | exact EqP.at_ | exact EqP.cont | exact EqP.hcont | exact EqP.gate | exact EqP.hgate)) | (refine AW_ift ?_ ?_; focus (simp only [Sm]; done)) | (refine AW_iff ?_ ?_; focus (simp only [Sm]; done))))
      refine AHd_call rfl (AC_refShift H4 10 v2 (by omega) w2) ?_
      rintro _ _ ⟨rfl, rfl⟩ -
      rw [v2d10]
      have bi : 16 + i < 64 := by omega
      have esc : IntKind.i64.wrap (((16 + i : Nat) : Int) + 1) = ((16 + (i + 1) : Nat) : Int) := by rw [i64_of (by omega) (by omega)]; omega
      (repeat (first | with_reducible (first | refine thenQ_n ?_ | refine blockQ_n ?_ | refine thenQ_e ?_ | refine thenQ_r ?_ | refine blockQ_r ?_ | refine blockQ_s ?_ | refine blockQ_o rfl ?_) | refine AW_skip ?_ | refine AW_seq ?_ | refine AW_ops ?_ | refine AW_blockS ?_ | refine AW_blockR ?_ | refine AW_blockD ?_ | refine AW_blockC ?_ | refine AO_nil ?_ | refine AW_draw ?_ | refine AW_draw3 ?_ | refine AW_blockD3 ?_ | (refine AW_drawA ?_; simp only [atBlk, Sm]) | refine AHd_nil ?_ | with_reducible (first | refine AP_at ?_ | refine AHP_at ?_) | (with_reducible (first | apply AO_any | apply AHd_any | apply AP_go | apply AHP_go); focus (simp only [Sm, wantedA, execA, stepA, List.getElem?_cons_zero, List.getElem?_cons_succ, if_true, if_false, binA, binInt, unA, eqA, Option.map, eq_self, reduceCtorEq, ite_true, ite_false, fitsAll, CK.fits, fillA, AV.cells, writeN, sliceCells, appendA, lenA, i64, loA, hiA, Nat.reduceAdd, Nat.reduceMul, Nat.reduceDiv, Nat.reduceSub, Nat.reduceLeDiff, Nat.reduceLT, Int.reduceLE, Int.reduceLT, foldA, maxA, minA, Int.reduceBEq, Int.reduceBNe, Int.reduceGT, Int.reduceGE, Int.reduceEq, Int.reduceNe, Int.reduceToNat, AOp.stops, ↓want_eq, ↓exec_lenX, ↓exec_storeX, ↓exec_storeN, storeN_one, ↓exec_bsX, ↓exec_sliceX, ↓exec_copyX, ↓exec_appNil, ↓exec_carryX, Nat.sub_zero, rep_len, x4, hc4, e3, e4, b3, b4, g3, g4, Nat.zero_add, wrap_ad, ht, storeX_own o4 (by omega : p ≤ p + 1) (by rw [hWi.len]; exact bi : 16 + i < _), esc]; with_reducible first | exact EqP.at_ | exact EqP.cont | exact EqP.hcont | exact EqP.gate | exact EqP.hgate)) | (refine AW_ift ?_ ?_; focus (simp only [Sm]; done)) | (refine AW_iff ?_ ?_; focus (simp only [Sm]; done))))
      refine ⟨hi2, c4.trans (Chg.set (S := (· = p + 1)) rfl) fun _ _ h => h, ?_, stale _ _ rfl⟩
      rw [hown_set (hown_lt o4), W32_put, hsucc]
    · obtain rfl : i = 48 := by have : ¬ ((16 + i : Nat) : Int) < 64 := of_decide_eq_false ht; omega
      subst hu
      exact AW_exit ⟨rfl, c4, o4, stale _ _ rfl⟩
  rintro e fr H4 ⟨rfl, c4, o4, st, rfl⟩
  have o24 := c4.hown (by omega : ¬ p = p + 1) o23
  have hWe := hW.ex 48
  generalize exW w 48 = e at *
  have r4 : readN H4 (p + 1) 0 64 = some (W32 e) := by have := readN_all (hcells_own o4); rw [hWe.len] at this; exact this
  obtain ⟨H5, s5, o5, c5, l5⟩ := storeN_ex (n := 64) o24 (Nat.le_refl p) rep_len (W32 e) hWe.len
  have r5 : readN H5 p 0 64 = some (W32 e) := by have := readN_all (hcells_own o5); rw [hWe.len] at this; exact this
  (repeat (first | with_reducible (first | refine thenQ_n ?_ | refine blockQ_n ?_ | refine thenQ_e ?_ | refine thenQ_r ?_ | refine blockQ_r ?_ | refine blockQ_s ?_ | refine blockQ_o rfl ?_) | refine AW_skip ?_ | refine AW_seq ?_ | refine AW_ops ?_ | refine AW_blockS ?_ | refine AW_blockR ?_ | refine AW_blockD ?_ | refine AW_blockC ?_ | refine AO_nil ?_ | refine AW_draw ?_ | refine AW_draw3 ?_ | refine AW_blockD3 ?_ | (refine AW_drawA ?_; simp only [atBlk, Sm]) | refine AHd_nil ?_ | with_reducible (first | refine AP_at ?_ | refine AHP_at ?_) | (with_reducible (first | apply AO_any | apply AHd_any | apply AP_go | apply AHP_go); focus (simp only [Sm, wantedA, execA, stepA, List.getElem?_cons_zero, List.getElem?_cons_succ, if_true, if_false, binA, binInt, unA, eqA, Option.map, eq_self, reduceCtorEq, ite_true, ite_false, fitsAll, CK.fits, fillA, AV.cells, writeN, sliceCells, appendA, lenA, i64, loA, hiA, Nat.reduceAdd, Nat.reduceMul, Nat.reduceDiv, Nat.reduceSub, Nat.reduceLeDiff, Nat.reduceLT, Int.reduceLE, Int.reduceLT, foldA, maxA, minA, Int.reduceBEq, Int.reduceBNe, Int.reduceGT, Int.reduceGE, Int.reduceEq, Int.reduceNe, Int.reduceToNat, AOp.stops, ↓want_eq, ↓exec_lenX, ↓exec_storeX, ↓exec_storeN, storeN_one, ↓exec_bsX, ↓exec_sliceX, ↓exec_copyX, ↓exec_appNil, ↓exec_carryX, Nat.sub_zero, rep_len, ↓r4, s5]; with_reducible first | exact EqP.at_ | exact EqP.cont | exact EqP.hcont | exact EqP.gate | exact EqP.hgate)) | (refine AW_ift ?_ ?_; focus (simp only [Sm]; done)) | (refine AW_iff ?_ ?_; focus (simp only [Sm]; done))))
  exact AW_ret ⟨_, by simp only [outA, resA, ressA, AV.tv, Option.map_some, Sm, wantedA, execA, stepA, List.getElem?_cons_zero, List.getElem?_cons_succ, if_true, if_false, binA, binInt, unA, eqA, Option.map, eq_self, reduceCtorEq, ite_true, ite_false, fitsAll, CK.fits, fillA, AV.cells, writeN, sliceCells, appendA, lenA, i64, loA, hiA, Nat.reduceAdd, Nat.reduceMul, Nat.reduceDiv, Nat.reduceSub, Nat.reduceLeDiff, Nat.reduceLT, Int.reduceLE, Int.reduceLT, foldA, maxA, minA, r5] <;> with_reducible rfl, rfl⟩
end PK
