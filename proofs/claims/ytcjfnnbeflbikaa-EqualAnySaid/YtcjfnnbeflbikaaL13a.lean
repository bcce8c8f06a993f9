/- Package equal: texts looked at place by place, walked. -/
import Derived.Test.YtcjfnnbeflbikaaHeap
import Derived.Test.YtcjfnnbeflbikaaM01
import Derived.Test.YtcjfnnbeflbikaaKEqual
import Derived.Test.YtcjfnnbeflbikaaKPestleref13
namespace PK
open Go PAbs
set_option linter.unusedSimpArgs false
set_option linter.unusedVariables false
set_option maxRecDepth 100000

/-- the places looked at: 0, 1, .. -/
def places13 (k : Nat) : List Cell := (List.range k).map fun (i : Nat) => Cell.int .i64 (i : Int)
theorem places13_succ (k : Nat) : places13 (k + 1) = places13 k ++ [.int .i64 (k : Int)] := by simp [places13, List.range_succ]
theorem places13_length (k : Nat) : (places13 k).length = k := by simp [places13]
theorem places13_get {k i : Nat} (h : i < k) : (places13 k)[i]? = some (.int .i64 (i : Int)) := by simp [places13, h]

/-- a slice of the places, owned from the floor on -/
def Steps (fl : Nat) (H : AHeap) (x : Cell) (k : Nat) : Prop := (k = 0 ∧ x = .snil) ∨ (0 < k ∧ ∃ s, x = .slc s 0 k 1 ∧ fl ≤ s ∧ hown H s = some (places13 k))

/-- what is unlike so far -/
def unl (a c : List UInt8) : Nat → Nat
  | 0 => 0
  | k + 1 => unl a c k ||| ((a.getD k 0).toNat ^^^ (c.getD k 0).toNat)

theorem byte_lt (u : UInt8) : u.toNat < 256 := u.toNat_lt
theorem unl_lt (a c : List UInt8) : ∀ k, unl a c k < 256
  | 0 => by simp [unl]
  | k + 1 => by
    simp only [unl]
    exact Nat.or_lt_two_pow (n := 8) (unl_lt a c k) (Nat.xor_lt_two_pow (n := 8) (byte_lt _) (byte_lt _))
theorem or_zero {x y : Nat} : x ||| y = 0 ↔ x = 0 ∧ y = 0 := by
  constructor
  · intro h
    constructor
    · apply Nat.eq_of_testBit_eq; intro i
      have := congrArg (fun n => n.testBit i) h
      simp only [Nat.testBit_or, Nat.zero_testBit, Bool.or_eq_false_iff] at this
      simp [this.1]
    · apply Nat.eq_of_testBit_eq; intro i
      have := congrArg (fun n => n.testBit i) h
      simp only [Nat.testBit_or, Nat.zero_testBit, Bool.or_eq_false_iff] at this
      simp [this.2]
  · rintro ⟨rfl, rfl⟩; rfl
theorem xor_zero {x y : Nat} : x ^^^ y = 0 ↔ x = y := by
  constructor
  · intro h
    apply Nat.eq_of_testBit_eq; intro i
    have := congrArg (fun n => n.testBit i) h
    simp only [Nat.testBit_xor, Nat.zero_testBit] at this
    revert this
    cases x.testBit i <;> cases y.testBit i <;> simp
  · rintro rfl; simp
theorem unl_zero (a c : List UInt8) : ∀ k, unl a c k = 0 ↔ ∀ i, i < k → a.getD i 0 = c.getD i 0
  | 0 => by simp [unl]
  | k + 1 => by
    simp only [unl, or_zero, xor_zero, unl_zero a c k, UInt8.toNat_inj]
    constructor
    · rintro ⟨h1, h2⟩ i hi
      rcases Nat.lt_succ_iff_lt_or_eq.mp hi with h | rfl
      · exact h1 i h
      · exact h2
    · intro h; exact ⟨fun i hi => h i (by omega), h k (by omega)⟩

theorem getD_ext {a c : List UInt8} (hl : a.length = c.length) : (∀ i, i < a.length → a.getD i 0 = c.getD i 0) ↔ a = c := by
  constructor
  · intro h
    apply List.ext_getElem hl
    intro i h1 h2
    have := h i h1
    simpa [List.getD, h1, h2] using this
  · rintro rfl i _; rfl

theorem xor_u8 {x y : Nat} (hx : x < 256) (hy : y < 256) : bitsA .xor .u8 (x : Int) (y : Int) = ((x ^^^ y : Nat) : Int) := by
  have h : x ^^^ y < 256 := Nat.xor_lt_two_pow (n := 8) hx hy
  show IntKind.wrap .u8 (((BitVec.ofInt 8 (x : Int) ^^^ BitVec.ofInt 8 (y : Int)).toNat : Nat) : Int) = _
  simp only [BitVec.ofInt_natCast, BitVec.toNat_xor, BitVec.toNat_ofNat, wrap_u8]
  rw [Nat.mod_eq_of_lt (by omega : x < 2 ^ 8), Nat.mod_eq_of_lt (by omega : y < 2 ^ 8)]; omega
theorem or_u8 {x y : Nat} (hx : x < 256) (hy : y < 256) : bitsA .or .u8 (x : Int) (y : Int) = ((x ||| y : Nat) : Int) := by
  have h : x ||| y < 256 := Nat.or_lt_two_pow (n := 8) hx hy
  show IntKind.wrap .u8 (((BitVec.ofInt 8 (x : Int) ||| BitVec.ofInt 8 (y : Int)).toNat : Nat) : Int) = _
  simp only [BitVec.ofInt_natCast, BitVec.toNat_or, BitVec.toNat_ofNat, wrap_u8]
  rw [Nat.mod_eq_of_lt (by omega : x < 2 ^ 8), Nat.mod_eq_of_lt (by omega : y < 2 ^ 8)]; omega

theorem AC_look {fl : Nat} {H : AHeap} {b i m : Nat} {x : Cell} {a c : List UInt8} (ha : i < a.length) (hc : i < c.length) (hfl : fl ≤ b) (hb : hown H b = some [x, .int .u8 (m : Int)]) (hm : m < 256) (hs : Steps (b + 1) H x i) (hi : i < 17592186044416) :
    AC A fl F_equal_eye_look [.c (.ptr b 0), .c (.str a), .c (.str c), .c (.int .i64 (i : Int))] H (fun v H' => ∃ x', hown H' b = some [x', .int .u8 ((m ||| ((a.getD i 0).toNat ^^^ (c.getD i 0).toNat) : Nat) : Int)] ∧ Steps (b + 1) H' x' (i + 1)) := by
  have gb := hcells_own hb
  have lb := hown_lt hb
  have ga : a[i]? = some (a.getD i 0) := by simp [ha]
  have gc : c[i]? = some (c.getD i 0) := by simp [hc]
  generalize a.getD i 0 = p at *
  generalize c.getD i 0 = q at *
  have hx : p.toNat ^^^ q.toNat < 256 := Nat.xor_lt_two_pow (n := 8) (byte_lt p) (byte_lt q)
  have b1 := xor_u8 (byte_lt p) (byte_lt q)
  have b2 := or_u8 hm hx
  -- the second statement, from wherever the slice lies
  have second : ∀ (fr : AFrame) (H1 : AHeap) (x' : Cell) (s8 s9 s10 s11 s12 s13 s14 s15 s16 s17 s18 : AV), hown H1 b = some [x', .int .u8 (m : Int)] → b < H1.length → Steps (b + 1) H1 x' (i + 1) →
      fr = [.c (.ptr b 0), .c (.str a), .c (.str c), .c (.int .i64 (i : Int)), aundef, aundef, aundef, aundef, s8, s9, s10, s11, s12, s13, s14, s15, s16, s17, s18, aundef, aundef, aundef, aundef, aundef, aundef, aundef, aundef, aundef, aundef, aundef, aundef, aundef, aundef] →
      AW A fl (.draw
    [⟨some 19, .mv (.t 0), none⟩,
      ⟨some 20, .nilCheck (.t 19), none⟩,
      ⟨some 21, .fieldAddr 1 (.t 20), none⟩,
      ⟨some 22, .load1 (.t 21), none⟩,
      ⟨some 23, .mv (.t 1), none⟩,
      ⟨some 24, .mv (.t 3), none⟩,
      ⟨some 25, .elemStr (.t 23) (.t 24), none⟩,
      ⟨some 26, .mv (.t 2), none⟩,
      ⟨some 27, .mv (.t 3), none⟩,
      ⟨some 28, .elemStr (.t 26) (.t 27), none⟩,
      ⟨some 29, .bin .xor (.t 25) (.t 28), none⟩]
    [⟨some 30, .bin .or (.t 22) (.t 29), none⟩,
      ⟨some 31, .nilCheck (.t 19), none⟩,
      ⟨some 32, .fieldAddr 1 (.t 31), none⟩,
      ⟨none, .store 1 (.t 32) (.t 30), none⟩]) fr H1 (exitQ [] (fun v H' => ∃ x', hown H' b = some [x', .int .u8 ((m ||| (p.toNat ^^^ q.toNat) : Nat) : Int)] ∧ Steps (b + 1) H' x' (i + 1))) := by
    rintro _ H1 x' s8 s9 s10 s11 s12 s13 s14 s15 s16 s17 s18 h1 l1 hs1 rfl
    have g1 := hcells_own h1
    refine AW_drun (by simp only [List.take_succ_cons, List.take_zero, List.drop_succ_cons, List.drop_zero, bne_self_eq_false, List.map_cons, List.map_nil, Bool.true_beq, Bool.false_beq, run_nil, run_cons, run_gate, cont_some, gate_true, gate_false, hrun_nil, hrun_cons, hrun_gate, hcont_some, hgate_true, hgate_false, put_some, put_none, ev_t, ev_k, wantedA, execA, stepA, List.set_cons_succ, List.set_cons_zero, List.getD_cons_succ, List.getD_cons_zero, List.getElem?_cons_zero, List.getElem?_cons_succ, if_true, if_false, binA, binInt, unA, eqA, Option.map, eq_self, true_or, or_true, true_and, and_true, and_self, beq_self_eq_true, Bool.not_true, Bool.not_false, reduceCtorEq, Bool.false_eq_true, ite_true, ite_false, fitsAll, CK.fits, decide_true, Bool.and_true, Bool.true_and, fillA, AV.cells, writeN, readN, sliceCells, appendA, lenA, i64, loA, hiA, hcells_last, hown_last, List.take_zero, List.drop_zero, List.nil_append, List.cons_append, List.append_nil, List.take_nil, List.drop_nil, List.length_cons, List.length_nil, List.length_append, Nat.zero_add, Nat.add_zero, Nat.reduceAdd, Nat.reduceMul, Nat.reduceDiv, Nat.reduceSub, Nat.mul_one, Nat.one_mul, Nat.div_one, Nat.le_refl, Nat.reduceLeDiff, Int.toNat_natCast, Int.toNat_zero, Nat.zero_le, Int.natCast_nonneg, Int.reduceLE, Int.reduceLT, Option.some.injEq, foldA, maxA, minA, Cell.int.injEq, AV.c.injEq, g1, ga, gc, b1]; rfl) (by simp only [List.take_succ_cons, List.take_zero, List.drop_succ_cons, List.drop_zero, bne_self_eq_false, List.map_cons, List.map_nil, Bool.true_beq, Bool.false_beq, run_nil, run_cons, run_gate, cont_some, gate_true, gate_false, hrun_nil, hrun_cons, hrun_gate, hcont_some, hgate_true, hgate_false, put_some, put_none, ev_t, ev_k, wantedA, execA, stepA, List.set_cons_succ, List.set_cons_zero, List.getD_cons_succ, List.getD_cons_zero, List.getElem?_cons_zero, List.getElem?_cons_succ, if_true, if_false, binA, binInt, unA, eqA, Option.map, eq_self, true_or, or_true, true_and, and_true, and_self, beq_self_eq_true, Bool.not_true, Bool.not_false, reduceCtorEq, Bool.false_eq_true, ite_true, ite_false, fitsAll, CK.fits, decide_true, Bool.and_true, Bool.true_and, fillA, AV.cells, writeN, readN, sliceCells, appendA, lenA, i64, loA, hiA, hcells_last, hown_last, List.take_zero, List.drop_zero, List.nil_append, List.cons_append, List.append_nil, List.take_nil, List.drop_nil, List.length_cons, List.length_nil, List.length_append, Nat.zero_add, Nat.add_zero, Nat.reduceAdd, Nat.reduceMul, Nat.reduceDiv, Nat.reduceSub, Nat.mul_one, Nat.one_mul, Nat.div_one, Nat.le_refl, Nat.reduceLeDiff, Int.toNat_natCast, Int.toNat_zero, Nat.zero_le, Int.natCast_nonneg, Int.reduceLE, Int.reduceLT, Option.some.injEq, foldA, maxA, minA, Cell.int.injEq, AV.c.injEq, g1, h1, hfl, b2]; rfl) ⟨_, rfl, x', hown_set l1, ?_⟩
    rcases hs1 with ⟨h0, _⟩ | ⟨_, s, rfl, hsb, hss⟩
    · omega
    · exact .inr ⟨by omega, s, rfl, hsb, by rw [hown_set_ne (by omega)]; exact hss⟩
  refine AC_enter t_equal_eye_look ?_
  simp only [c_equal_eye_look, enterA, List.replicate, List.length, Nat.reduceAdd, Nat.reduceSub, List.cons_append, List.nil_append]
  rcases hs with ⟨h0, rfl⟩ | ⟨hpos, s, rfl, hsb, hss⟩
  · have o2 : hown (H ++ [.own [.int .i64 (i : Int)]] ++ [.own [.int .i64 (i : Int)]]) b = some [.snil, .int .u8 (m : Int)] := hown_app (hown_app hb)
    have l2 := hown_lt o2
    refine AW_seq (AW_run (by simp only [List.take_succ_cons, List.take_zero, List.drop_succ_cons, List.drop_zero, bne_self_eq_false, List.map_cons, List.map_nil, Bool.true_beq, Bool.false_beq, run_nil, run_cons, run_gate, cont_some, gate_true, gate_false, hrun_nil, hrun_cons, hrun_gate, hcont_some, hgate_true, hgate_false, put_some, put_none, ev_t, ev_k, wantedA, execA, stepA, List.set_cons_succ, List.set_cons_zero, List.getD_cons_succ, List.getD_cons_zero, List.getElem?_cons_zero, List.getElem?_cons_succ, if_true, if_false, binA, binInt, unA, eqA, Option.map, eq_self, true_or, or_true, true_and, and_true, and_self, beq_self_eq_true, Bool.not_true, Bool.not_false, reduceCtorEq, Bool.false_eq_true, ite_true, ite_false, fitsAll, CK.fits, decide_true, Bool.and_true, Bool.true_and, fillA, AV.cells, writeN, readN, sliceCells, appendA, lenA, i64, loA, hiA, hcells_last, hown_last, List.take_zero, List.drop_zero, List.nil_append, List.cons_append, List.append_nil, List.take_nil, List.drop_nil, List.length_cons, List.length_nil, List.length_append, Nat.zero_add, Nat.add_zero, Nat.reduceAdd, Nat.reduceMul, Nat.reduceDiv, Nat.reduceSub, Nat.mul_one, Nat.one_mul, Nat.div_one, Nat.le_refl, Nat.reduceLeDiff, Int.toNat_natCast, Int.toNat_zero, Nat.zero_le, Int.natCast_nonneg, Int.reduceLE, Int.reduceLT, Option.some.injEq, foldA, maxA, minA, Cell.int.injEq, AV.c.injEq, gb, hcells_app gb, hcells_app (hcells_app gb), o2, hfl]; rfl) ?_)
    refine second _ _ _ _ _ _ _ _ _ _ _ _ _ _ (hown_set l2) (by simpa using l2) (.inr ⟨by omega, H.length + 1, ?_, by omega, ?_⟩) rfl
    · simp [h0]
    · rw [hown_set_ne (by omega)]
      have := hown_last (H := H ++ [Blk.own [.int .i64 (i : Int)]]) (cs := [.int .i64 (i : Int)])
      simpa [places13, h0] using this
  · have ls := hown_lt hss
    have r1 : (1 : Nat) * 8 ≤ 140737488355328 := by omega
    have r2 : fl ≤ s := by omega
    have r3 : 0 + i * 1 = (places13 i).length := by rw [places13_length]; omega
    have r4 : (i + 1) * 8 ≤ 140737488355328 := by omega
    have o2 : hown ((H ++ [Blk.own [.int .i64 (i : Int)]]).set s .dead ++ [.own (places13 i ++ [.int .i64 (i : Int)])]) b = some [.slc s 0 i 1, .int .u8 (m : Int)] := by
      refine hown_app ?_
      rw [hown_set_ne (by omega)]
      exact hown_app hb
    have l2 := hown_lt o2
    refine AW_seq (AW_run (by simp only [List.take_succ_cons, List.take_zero, List.drop_succ_cons, List.drop_zero, bne_self_eq_false, List.map_cons, List.map_nil, Bool.true_beq, Bool.false_beq, run_nil, run_cons, run_gate, cont_some, gate_true, gate_false, hrun_nil, hrun_cons, hrun_gate, hcont_some, hgate_true, hgate_false, put_some, put_none, ev_t, ev_k, wantedA, execA, stepA, List.set_cons_succ, List.set_cons_zero, List.getD_cons_succ, List.getD_cons_zero, List.getElem?_cons_zero, List.getElem?_cons_succ, if_true, if_false, binA, binInt, unA, eqA, Option.map, eq_self, true_or, or_true, true_and, and_true, and_self, beq_self_eq_true, Bool.not_true, Bool.not_false, reduceCtorEq, Bool.false_eq_true, ite_true, ite_false, fitsAll, CK.fits, decide_true, Bool.and_true, Bool.true_and, fillA, AV.cells, writeN, readN, sliceCells, appendA, lenA, i64, loA, hiA, hcells_last, hown_last, List.take_zero, List.drop_zero, List.nil_append, List.cons_append, List.append_nil, List.take_nil, List.drop_nil, List.length_cons, List.length_nil, List.length_append, Nat.zero_add, Nat.add_zero, Nat.reduceAdd, Nat.reduceMul, Nat.reduceDiv, Nat.reduceSub, Nat.mul_one, Nat.one_mul, Nat.div_one, Nat.le_refl, Nat.reduceLeDiff, Int.toNat_natCast, Int.toNat_zero, Nat.zero_le, Int.natCast_nonneg, Int.reduceLE, Int.reduceLT, Option.some.injEq, foldA, maxA, minA, Cell.int.injEq, AV.c.injEq, gb, hcells_app gb, hown_app hss, places13_length, r2, r4, hcells_own o2, o2, hfl]; rfl) ?_)
    refine second _ _ _ _ _ _ _ _ _ _ _ _ _ _ (hown_set l2) (by simpa using l2) (.inr ⟨by omega, H.length + 1, ?_, by omega, ?_⟩) rfl
    · simp
    · rw [hown_set_ne (by omega)]
      have := hown_last (H := (H ++ [Blk.own [.int .i64 (i : Int)]]).set s .dead) (cs := places13 i ++ [.int .i64 (i : Int)])
      rw [places13_succ]
      simpa using this
end PK
