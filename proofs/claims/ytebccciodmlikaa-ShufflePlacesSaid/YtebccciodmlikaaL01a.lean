/- Package words: turned words, walked; and the document's. -/
import Derived.Test.YtebccciodmlikaaM01
import Derived.Test.YtebccciodmlikaaRun
import Derived.Test.YtebccciodmlikaaKWords
import Derived.Test.YtebccciodmlikaaKPestleref01
namespace PK
open Go PAbs
set_option linter.unusedSimpArgs false
set_option linter.unusedVariables false
set_option maxRecDepth 100000

theorem shl_of {k : IntKind} (hs : k.signed = false) {x p : Nat} (hp : p ≤ k.bits) : shlA k (x : Int) (p : Int) = ((x * 2 ^ p % 2 ^ k.bits : Nat) : Int) := by
  simp only [shlA, IntKind.wrap, hs, Bool.false_and, Bool.false_eq_true, if_false, Int.toNat_natCast, Nat.min_eq_left hp]
  simp
theorem shr_of {k : IntKind} {x p : Nat} (hp : p ≤ k.bits) : shrA k (x : Int) (p : Int) = ((x / 2 ^ p : Nat) : Int) := by
  simp only [shrA, Int.toNat_natCast, Nat.min_eq_left hp]
  rw [Int.fdiv_eq_ediv_of_nonneg _ (by exact_mod_cast Nat.zero_le _)]
  simp
theorem or_of {k : IntKind} (hs : k.signed = false) {a b : Nat} (ha : a < 2 ^ k.bits) (hb : b < 2 ^ k.bits) : bitsA .or k (a : Int) (b : Int) = ((a ||| b : Nat) : Int) := by
  have hab : a ||| b < 2 ^ k.bits := Nat.or_lt_two_pow ha hb
  simp only [bitsA, IntKind.wrap, hs, Bool.false_and, Bool.false_eq_true, if_false, BitVec.ofInt_natCast, BitVec.toNat_or, BitVec.toNat_ofNat, Nat.mod_eq_of_lt ha, Nat.mod_eq_of_lt hb]
  exact Int.emod_eq_of_lt (Int.natCast_nonneg _) (by exact_mod_cast hab)

/-- the places -/
def places (W : Nat) (n : Int) : Nat := (n % (W : Int)).toNat

theorem places_lt {W : Nat} (hW : 0 < W) (n : Int) : places W n < W := by
  have h1 := Int.emod_lt_of_pos n (show (0 : Int) < W by omega)
  have h2 := Int.emod_nonneg n (show (W : Int) ≠ 0 by omega)
  simp only [places]; omega

theorem AC_Left32 (fl : Nat) (H : AHeap) (x : Nat) (n : Int) (hx : x < 4294967296) : AC A fl F_words_Left32 [.c (.int .u32 x), .c (.int .i64 n)] H (fun v H' => v = .c (.int .u32 (rl 32 (places 32 n) x)) ∧ H' = H) := by
  have hk := places_lt (W := 32) (by omega) n
  have e1 : Int.tmod (IntKind.u64.wrap n) 32 = (places 32 n : Int) := by
    rw [wrap_u64]; simp only [places]
    rw [Int.tmod_eq_emod_of_nonneg (by omega)]; omega
  have e2 : IntKind.u64.wrap (32 - (places 32 n : Int)) = ((32 - places 32 n : Nat) : Int) := by rw [wrap_u64]; omega
  have h1 : x * 2 ^ (places 32 n) % 2 ^ 32 < 2 ^ 32 := Nat.mod_lt _ (by omega)
  have h2 : x / 2 ^ (32 - places 32 n) < 2 ^ 32 := Nat.lt_of_le_of_lt (Nat.div_le_self _ _) hx
  have e3 := rl_or (W := 32) (k := places 32 n) (Nat.le_of_lt hk) hx
  have n1 : ¬ ((places 32 n : Int) < 0) := by omega
  have n2 : ¬ (((32 - places 32 n : Nat) : Int) < 0) := by omega
  have a1 : shlA .u32 (x : Int) (places 32 n : Int) = _ := shl_of rfl (Nat.le_of_lt hk)
  have a2 : shrA .u32 (x : Int) ((32 - places 32 n : Nat) : Int) = _ := shr_of (Nat.sub_le _ _)
  have a3 : bitsA .or .u32 ((x * 2 ^ (places 32 n) % 2 ^ 32 : Nat) : Int) ((x / 2 ^ (32 - places 32 n) : Nat) : Int) = _ := or_of rfl h1 h2
  have z : ¬ ((32 : Int) = 0) := by omega
  refine AC_enter t_words_Left32 ?_
  simp only [c_words_Left32, enterA, List.replicate, List.length, Nat.reduceAdd, Nat.reduceSub, List.cons_append, List.nil_append]
  refine AW_seq (AW_run (by simp only [List.take_succ_cons, List.take_zero, List.drop_succ_cons, List.drop_zero, bne_self_eq_false, List.map_cons, List.map_nil, Bool.true_beq, Bool.false_beq, run_nil, run_cons, run_gate, cont_some, gate_true, gate_false, hrun_nil, hrun_cons, hrun_gate, hcont_some, hgate_true, hgate_false, put_some, put_none, ev_t, ev_k, wantedA, execA, stepA, List.set_cons_succ, List.set_cons_zero, List.getD_cons_succ, List.getD_cons_zero, List.getElem?_cons_zero, List.getElem?_cons_succ, if_true, if_false, binA, binInt, unA, eqA, Option.map, eq_self, true_or, or_true, true_and, and_true, and_self, beq_self_eq_true, Bool.not_true, Bool.not_false, reduceCtorEq, Bool.false_eq_true, ite_true, ite_false]; rfl) ?_)
  refine AW_seq (AW_run (by simp only [List.take_succ_cons, List.take_zero, List.drop_succ_cons, List.drop_zero, bne_self_eq_false, List.map_cons, List.map_nil, Bool.true_beq, Bool.false_beq, run_nil, run_cons, run_gate, cont_some, gate_true, gate_false, hrun_nil, hrun_cons, hrun_gate, hcont_some, hgate_true, hgate_false, put_some, put_none, ev_t, ev_k, wantedA, execA, stepA, List.set_cons_succ, List.set_cons_zero, List.getD_cons_succ, List.getD_cons_zero, List.getElem?_cons_zero, List.getElem?_cons_succ, if_true, if_false, binA, binInt, unA, eqA, Option.map, eq_self, true_or, or_true, true_and, and_true, and_self, beq_self_eq_true, Bool.not_true, Bool.not_false, reduceCtorEq, Bool.false_eq_true, ite_true, ite_false, e1, z]; rfl) ?_)
  refine AW_seq (AW_run (by simp only [List.take_succ_cons, List.take_zero, List.drop_succ_cons, List.drop_zero, bne_self_eq_false, List.map_cons, List.map_nil, Bool.true_beq, Bool.false_beq, run_nil, run_cons, run_gate, cont_some, gate_true, gate_false, hrun_nil, hrun_cons, hrun_gate, hcont_some, hgate_true, hgate_false, put_some, put_none, ev_t, ev_k, wantedA, execA, stepA, List.set_cons_succ, List.set_cons_zero, List.getD_cons_succ, List.getD_cons_zero, List.getElem?_cons_zero, List.getElem?_cons_succ, if_true, if_false, binA, binInt, unA, eqA, Option.map, eq_self, true_or, or_true, true_and, and_true, and_self, beq_self_eq_true, Bool.not_true, Bool.not_false, reduceCtorEq, Bool.false_eq_true, ite_true, ite_false, e2, n1, n2, a1, a2]; rfl) ?_)
  refine AW_ret ⟨_, rfl, ?_⟩
  refine ⟨?_, rfl⟩
  have a4 : (2 : Nat) ^ IntKind.u32.bits = 2 ^ 32 := rfl
  simp only [List.getD_cons_succ, List.getD_cons_zero, a4, a3, e3]

theorem tmod_pos {n b : Int} (h : 0 ≤ n) : n.tmod b = n % b := Int.tmod_eq_emod_of_nonneg h
theorem tmod_neg {n b : Int} (h : n < 0) : n.tmod b = - ((-n) % b) := by
  have h1 : (-(-n)).tmod b = -((-n).tmod b) := Int.neg_tmod ..
  rw [Int.neg_neg] at h1; rw [h1, tmod_pos (by omega)]
/-- the places, as the document reckons them -/
theorem places_tmod {W : Nat} {n : Int} (hW : 0 < W) (hW' : W < 1000) : (n.tmod W < 0 → IntKind.i64.wrap (n.tmod W + W) = (places W n : Int)) ∧ (¬ n.tmod W < 0 → n.tmod W = (places W n : Int)) := by
  have h1 := Int.emod_lt_of_pos n (show (0 : Int) < W by omega)
  have h2 := Int.emod_nonneg n (show (W : Int) ≠ 0 by omega)
  rcases Int.lt_or_le n 0 with hn | hn
  · rw [tmod_neg hn]
    have h3 := Int.emod_lt_of_pos (-n) (show (0 : Int) < W by omega)
    have h4 := Int.emod_nonneg (-n) (show (W : Int) ≠ 0 by omega)
    have h5 : (-n % W = 0 → n % W = 0) ∧ (¬ -n % W = 0 → n % W = W - -n % W) := by
      constructor
      · intro h; exact Int.emod_eq_zero_of_dvd (Int.dvd_neg.mp (Int.dvd_of_emod_eq_zero h))
      · intro h
        have e : n = W * (-(-n / W) - 1) + (W - -n % W) := by
          have := Int.mul_ediv_add_emod (-n) W
          rw [Int.mul_sub, Int.mul_neg]; omega
        rw [e, Int.mul_add_emod_self_left, ← e]; exact Int.emod_eq_of_lt (by omega) (by omega)
    simp only [places]
    constructor
    · intro h; rw [wrap_i64_of (by omega) (by omega)]; omega
    · intro h; have := h5.1 (by omega); omega
  · rw [tmod_pos hn]
    simp only [places]
    exact ⟨fun h => by omega, fun h => by omega⟩

/-- the document's: place by place -/

def lvL (x : Nat) (n : Int) (k : Nat) (m : Nat) (fr : AFrame) (H0 H : AHeap) : Prop := ∃ i : Nat, i ≤ k ∧ m = k - i ∧ H = H0 ∧ (∃ s7 s8 s9 s10 s11 s12 s13 s14 s15 s16 s17 s18 s19 s20 s21 s22 s23 : AV, fr = [.c (.int .u32 ((rl 32 i x : Nat) : Int)), .c (.int .i64 n), aundef, aundef, .c (.int .u32 0), .c (.int .i64 (k : Int)), .c (.int .i64 (i : Int)), s7, s8, s9, s10, s11, s12, s13, s14, s15, s16, s17, s18, s19, s20, s21, s22, s23])

theorem AC_Left (fl : Nat) (H : AHeap) (x : Nat) (n : Int) (hx : x < 4294967296) : AC A fl F_pestleref01_Left [.c (.int .u32 x), .c (.int .i64 n)] H (fun v H' => v = .c (.int .u32 (rl 32 (places 32 n) x)) ∧ H' = H) := by
  have hk := places_lt (W := 32) (by omega) n
  have z : ¬ ((32 : Int) = 0) := by omega
  have z2 : ¬ ((2147483648 : Int) = 0) := by omega
  refine AC_enter t_pestleref01_Left ?_
  simp only [c_pestleref01_Left, enterA, List.replicate, List.length, Nat.reduceAdd, Nat.reduceSub, List.cons_append, List.nil_append]
  refine AW_seq (AW_run (by simp only [List.take_succ_cons, List.take_zero, List.drop_succ_cons, List.drop_zero, bne_self_eq_false, List.map_cons, List.map_nil, Bool.true_beq, Bool.false_beq, run_nil, run_cons, run_gate, cont_some, gate_true, gate_false, hrun_nil, hrun_cons, hrun_gate, hcont_some, hgate_true, hgate_false, put_some, put_none, ev_t, ev_k, wantedA, execA, stepA, List.set_cons_succ, List.set_cons_zero, List.getD_cons_succ, List.getD_cons_zero, List.getElem?_cons_zero, List.getElem?_cons_succ, if_true, if_false, binA, binInt, unA, eqA, Option.map, eq_self, true_or, or_true, true_and, and_true, and_self, beq_self_eq_true, Bool.not_true, Bool.not_false, reduceCtorEq, Bool.false_eq_true, ite_true, ite_false]; rfl) ?_)
  refine AW_seq (AW_run (by simp only [List.take_succ_cons, List.take_zero, List.drop_succ_cons, List.drop_zero, bne_self_eq_false, List.map_cons, List.map_nil, Bool.true_beq, Bool.false_beq, run_nil, run_cons, run_gate, cont_some, gate_true, gate_false, hrun_nil, hrun_cons, hrun_gate, hcont_some, hgate_true, hgate_false, put_some, put_none, ev_t, ev_k, wantedA, execA, stepA, List.set_cons_succ, List.set_cons_zero, List.getD_cons_succ, List.getD_cons_zero, List.getElem?_cons_zero, List.getElem?_cons_succ, if_true, if_false, binA, binInt, unA, eqA, Option.map, eq_self, true_or, or_true, true_and, and_true, and_self, beq_self_eq_true, Bool.not_true, Bool.not_false, reduceCtorEq, Bool.false_eq_true, ite_true, ite_false, z]; rfl) ?_)
  refine AW_seq (AW_seq (AW_run (by simp only [List.take_succ_cons, List.take_zero, List.drop_succ_cons, List.drop_zero, bne_self_eq_false, List.map_cons, List.map_nil, Bool.true_beq, Bool.false_beq, run_nil, run_cons, run_gate, cont_some, gate_true, gate_false, hrun_nil, hrun_cons, hrun_gate, hcont_some, hgate_true, hgate_false, put_some, put_none, ev_t, ev_k, wantedA, execA, stepA, List.set_cons_succ, List.set_cons_zero, List.getD_cons_succ, List.getD_cons_zero, List.getElem?_cons_zero, List.getElem?_cons_succ, if_true, if_false, binA, binInt, unA, eqA, Option.map, eq_self, true_or, or_true, true_and, and_true, and_self, beq_self_eq_true, Bool.not_true, Bool.not_false, reduceCtorEq, Bool.false_eq_true, ite_true, ite_false]; rfl) ?_))
  refine AW_mid (fun e fr H' => e = .normal ∧ H' = H ∧ ∃ s6 s11 s12 : AV, fr = [.c (.int .u32 x), .c (.int .i64 n), aundef, aundef, .c (.int .u32 0), .c (.int .i64 (places 32 n : Int)), s6, .c (.int .i64 n), .c (.int .i64 (n.tmod 32)), .c (.int .i64 (n.tmod 32)), .c (.bool (decide (n.tmod 32 < 0))), s11, s12, aundef, aundef, aundef, aundef, aundef, aundef, aundef, aundef, aundef, aundef, aundef]) ?_ ?_
  · refine AW_cond rfl ?_ ?_
    · intro ht
      have ht : n.tmod 32 < 0 := of_decide_eq_true ht
      have e : IntKind.i64.wrap (n.tmod 32 + 32) = (places 32 n : Int) := (places_tmod (W := 32) (by omega) (by omega)).1 ht
      exact AW_run (by simp only [List.take_succ_cons, List.take_zero, List.drop_succ_cons, List.drop_zero, bne_self_eq_false, List.map_cons, List.map_nil, Bool.true_beq, Bool.false_beq, run_nil, run_cons, run_gate, cont_some, gate_true, gate_false, hrun_nil, hrun_cons, hrun_gate, hcont_some, hgate_true, hgate_false, put_some, put_none, ev_t, ev_k, wantedA, execA, stepA, List.set_cons_succ, List.set_cons_zero, List.getD_cons_succ, List.getD_cons_zero, List.getElem?_cons_zero, List.getElem?_cons_succ, if_true, if_false, binA, binInt, unA, eqA, Option.map, eq_self, true_or, or_true, true_and, and_true, and_self, beq_self_eq_true, Bool.not_true, Bool.not_false, reduceCtorEq, Bool.false_eq_true, ite_true, ite_false, e]; rfl) ⟨rfl, rfl, _, _, _, rfl⟩
    · intro ht
      have ht : ¬ n.tmod 32 < 0 := of_decide_eq_false ht
      have e : n.tmod 32 = (places 32 n : Int) := (places_tmod (W := 32) (by omega) (by omega)).2 ht
      exact AW_skip ⟨rfl, rfl, aundef, aundef, aundef, by rw [e]⟩
  rintro e fr H' ⟨rfl, rfl, s6, s11, s12, rfl⟩
  generalize places 32 n = k at *
  refine AW_seq (AW_seq (AW_run (by simp only [List.take_succ_cons, List.take_zero, List.drop_succ_cons, List.drop_zero, bne_self_eq_false, List.map_cons, List.map_nil, Bool.true_beq, Bool.false_beq, run_nil, run_cons, run_gate, cont_some, gate_true, gate_false, hrun_nil, hrun_cons, hrun_gate, hcont_some, hgate_true, hgate_false, put_some, put_none, ev_t, ev_k, wantedA, execA, stepA, List.set_cons_succ, List.set_cons_zero, List.getD_cons_succ, List.getD_cons_zero, List.getElem?_cons_zero, List.getElem?_cons_succ, if_true, if_false, binA, binInt, unA, eqA, Option.map, eq_self, true_or, or_true, true_and, and_true, and_self, beq_self_eq_true, Bool.not_true, Bool.not_false, reduceCtorEq, Bool.false_eq_true, ite_true, ite_false]; rfl) (AW_block ?_)))
  refine AW_loopN (fun m fr H1 => lvL x n k m fr H' H1) k ⟨0, by omega, by omega, rfl, _, _, _, _, _, _, _, _, _, _, _, _, _, _, _, _, _, by rw [rl_zero hx]; rfl⟩ ?_
  rintro m fr H1 ⟨i, hi, hm, rfl, s7, s8, s9, s10, s11, s12, s13, s14, s15, s16, s17, s18, s19, s20, s21, s22, s23, rfl⟩
  refine AW_seq (AW_seq (AW_run (by simp only [List.take_succ_cons, List.take_zero, List.drop_succ_cons, List.drop_zero, bne_self_eq_false, List.map_cons, List.map_nil, Bool.true_beq, Bool.false_beq, run_nil, run_cons, run_gate, cont_some, gate_true, gate_false, hrun_nil, hrun_cons, hrun_gate, hcont_some, hgate_true, hgate_false, put_some, put_none, ev_t, ev_k, wantedA, execA, stepA, List.set_cons_succ, List.set_cons_zero, List.getD_cons_succ, List.getD_cons_zero, List.getElem?_cons_zero, List.getElem?_cons_succ, if_true, if_false, binA, binInt, unA, eqA, Option.map, eq_self, true_or, or_true, true_and, and_true, and_self, beq_self_eq_true, Bool.not_true, Bool.not_false, reduceCtorEq, Bool.false_eq_true, ite_true, ite_false]; rfl) (AW_cond rfl ?_ ?_)))
  · intro ht
    have ht : (i : Int) < k := of_decide_eq_true ht
    refine AW_skip (AW_seq (AW_block (AW_run (by simp only [List.take_succ_cons, List.take_zero, List.drop_succ_cons, List.drop_zero, bne_self_eq_false, List.map_cons, List.map_nil, Bool.true_beq, Bool.false_beq, run_nil, run_cons, run_gate, cont_some, gate_true, gate_false, hrun_nil, hrun_cons, hrun_gate, hcont_some, hgate_true, hgate_false, put_some, put_none, ev_t, ev_k, wantedA, execA, stepA, List.set_cons_succ, List.set_cons_zero, List.getD_cons_succ, List.getD_cons_zero, List.getElem?_cons_zero, List.getElem?_cons_succ, if_true, if_false, binA, binInt, unA, eqA, Option.map, eq_self, true_or, or_true, true_and, and_true, and_self, beq_self_eq_true, Bool.not_true, Bool.not_false, reduceCtorEq, Bool.false_eq_true, ite_true, ite_false, z2]; rfl) ?_)))
    have hl := rl_lt (W := 32) (Nat.le_of_lt (by omega : i < 32)) hx
    have hsucc := rl_succ (W := 32) (by omega : i < 32) hx
    have e : IntKind.u32.wrap (IntKind.u32.wrap ((rl 32 i x : Nat) * 2) + IntKind.u32.wrap (((rl 32 i x : Nat) : Int).tdiv 2147483648)) = ((rl 32 (i + 1) x : Nat) : Int) := by
      have hl2 := rl_lt (W := 32) (by omega : i + 1 ≤ 32) hx
      rw [← hsucc] at hl2 ⊢
      generalize rl 32 i x = y at *
      simp only [wrap_u32]
      rw [Int.tdiv_eq_ediv_of_nonneg (by omega)]
      simp only [show (2:Nat)^32 = 4294967296 from rfl, show 32 - 1 = 31 from rfl, show (2:Nat)^31 = 2147483648 from rfl] at *
      omega
    have e2 : IntKind.i64.wrap ((i : Int) + 1) = ((i + 1 : Nat) : Int) := by rw [wrap_i64_of (by omega) (by omega)]; omega
    refine AW_run (by simp only [List.take_succ_cons, List.take_zero, List.drop_succ_cons, List.drop_zero, bne_self_eq_false, List.map_cons, List.map_nil, Bool.true_beq, Bool.false_beq, run_nil, run_cons, run_gate, cont_some, gate_true, gate_false, hrun_nil, hrun_cons, hrun_gate, hcont_some, hgate_true, hgate_false, put_some, put_none, ev_t, ev_k, wantedA, execA, stepA, List.set_cons_succ, List.set_cons_zero, List.getD_cons_succ, List.getD_cons_zero, List.getElem?_cons_zero, List.getElem?_cons_succ, if_true, if_false, binA, binInt, unA, eqA, Option.map, eq_self, true_or, or_true, true_and, and_true, and_self, beq_self_eq_true, Bool.not_true, Bool.not_false, reduceCtorEq, Bool.false_eq_true, ite_true, ite_false, e, e2]; rfl) ⟨k - (i + 1), by omega, i + 1, by omega, rfl, rfl, _, _, _, _, _, _, _, _, _, _, _, _, _, _, _, _, _, rfl⟩
  · intro ht
    have ht : ¬ (i : Int) < k := of_decide_eq_false ht
    obtain rfl : i = k := by omega
    refine AW_exit ?_
    refine AW_seq (AW_run (by simp only [List.take_succ_cons, List.take_zero, List.drop_succ_cons, List.drop_zero, bne_self_eq_false, List.map_cons, List.map_nil, Bool.true_beq, Bool.false_beq, run_nil, run_cons, run_gate, cont_some, gate_true, gate_false, hrun_nil, hrun_cons, hrun_gate, hcont_some, hgate_true, hgate_false, put_some, put_none, ev_t, ev_k, wantedA, execA, stepA, List.set_cons_succ, List.set_cons_zero, List.getD_cons_succ, List.getD_cons_zero, List.getElem?_cons_zero, List.getElem?_cons_succ, if_true, if_false, binA, binInt, unA, eqA, Option.map, eq_self, true_or, or_true, true_and, and_true, and_self, beq_self_eq_true, Bool.not_true, Bool.not_false, reduceCtorEq, Bool.false_eq_true, ite_true, ite_false]; rfl) ?_)
    exact AW_ret ⟨_, rfl, rfl, rfl⟩


def lvR (x : Nat) (n : Int) (k : Nat) (m : Nat) (fr : AFrame) (H0 H : AHeap) : Prop := ∃ i : Nat, i ≤ k ∧ m = k - i ∧ H = H0 ∧ (∃ s7 s8 s9 s10 s11 s12 s13 s14 s15 s16 s17 s18 s19 s20 s21 s22 s23 s24 : AV, fr = [.c (.int .u64 ((rr 64 i x : Nat) : Int)), .c (.int .i64 n), aundef, aundef, .c (.int .u64 0), .c (.int .i64 (k : Int)), .c (.int .i64 (i : Int)), s7, s8, s9, s10, s11, s12, s13, s14, s15, s16, s17, s18, s19, s20, s21, s22, s23, s24])

end PK
