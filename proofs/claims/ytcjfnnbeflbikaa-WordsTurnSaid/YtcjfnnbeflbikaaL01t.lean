/- WordsTurn, walked. -/
import Derived.Test.YtcjfnnbeflbikaaL01a
import Derived.Test.YtcjfnnbeflbikaaKPestlelaw01
namespace PK
open Go PAbs
set_option linter.unusedSimpArgs false
set_option linter.unusedVariables false
set_option maxRecDepth 100000

theorem AC_awake01 : AC A 0 F_pestlelaw01_awake [] [] (fun v _ => v = .c (.bool true)) := AC_eval 40 (by kernel_rfl)

theorem AC_WordsTurn (x y : Nat) (n : Int) (hx : x < 4294967296) (hy : y < 18446744073709551616) : AC A 0 F_pestlelaw01_WordsTurn [.c (.int .u32 x), .c (.int .u64 y), .c (.int .i64 n)] [] (fun v _ => v = .c (.bool true)) := by
  have hk := places_lt (W := 32) (by omega) n
  have hl := rl_lt (W := 32) (Nat.le_of_lt hk) hx
  have hr := rr_lt (W := 32) (Nat.le_of_lt hk) hx
  refine AC_enter t_pestlelaw01_WordsTurn ?_
  simp only [c_pestlelaw01_WordsTurn, enterA, List.replicate, List.length, Nat.reduceAdd, Nat.reduceSub, List.cons_append, List.nil_append]
  refine AW_seq (AW_run (by simp only [List.take_succ_cons, List.take_zero, List.drop_succ_cons, List.drop_zero, bne_self_eq_false, List.map_cons, List.map_nil, Bool.true_beq, Bool.false_beq, run_nil, run_cons, run_gate, cont_some, gate_true, gate_false, hrun_nil, hrun_cons, hrun_gate, hcont_some, hgate_true, hgate_false, put_some, put_none, ev_t, ev_k, wantedA, execA, stepA, List.set_cons_succ, List.set_cons_zero, List.getD_cons_succ, List.getD_cons_zero, List.getElem?_cons_zero, List.getElem?_cons_succ, if_true, if_false, binA, binInt, unA, eqA, Option.map, eq_self, true_or, or_true, true_and, and_true, and_self, beq_self_eq_true, Bool.not_true, Bool.not_false, reduceCtorEq, Bool.false_eq_true, ite_true, ite_false]; rfl) ?_)
  refine AW_seq (AW_seq (AW_ops (AO_call rfl AC_awake01 ?_)))
  rintro _ H rfl
  refine AO_take 1 (by simp only [List.take_succ_cons, List.take_zero, List.drop_succ_cons, List.drop_zero, bne_self_eq_false, List.map_cons, List.map_nil, Bool.true_beq, Bool.false_beq, run_nil, run_cons, run_gate, cont_some, gate_true, gate_false, hrun_nil, hrun_cons, hrun_gate, hcont_some, hgate_true, hgate_false, put_some, put_none, ev_t, ev_k, wantedA, execA, stepA, List.set_cons_succ, List.set_cons_zero, List.getD_cons_succ, List.getD_cons_zero, List.getElem?_cons_zero, List.getElem?_cons_succ, if_true, if_false, binA, binInt, unA, eqA, Option.map, eq_self, true_or, or_true, true_and, and_true, and_self, beq_self_eq_true, Bool.not_true, Bool.not_false, reduceCtorEq, Bool.false_eq_true, ite_true, ite_false]; rfl) ?_
  refine AO_nil (AW_cond (t := false) rfl (fun h => by cases h) fun _ => AW_skip ?_)
  refine AW_seq (AW_seq (AW_ops (AO_take 2 (by simp only [List.take_succ_cons, List.take_zero, List.drop_succ_cons, List.drop_zero, bne_self_eq_false, List.map_cons, List.map_nil, Bool.true_beq, Bool.false_beq, run_nil, run_cons, run_gate, cont_some, gate_true, gate_false, hrun_nil, hrun_cons, hrun_gate, hcont_some, hgate_true, hgate_false, put_some, put_none, ev_t, ev_k, wantedA, execA, stepA, List.set_cons_succ, List.set_cons_zero, List.getD_cons_succ, List.getD_cons_zero, List.getElem?_cons_zero, List.getElem?_cons_succ, if_true, if_false, binA, binInt, unA, eqA, Option.map, eq_self, true_or, or_true, true_and, and_true, and_self, beq_self_eq_true, Bool.not_true, Bool.not_false, reduceCtorEq, Bool.false_eq_true, ite_true, ite_false]; rfl) ?_)))
  refine AO_call rfl (AC_Left32 0 H x n hx) ?_
  rintro _ _ ⟨rfl, rfl⟩
  rename_i H
  refine AO_take 2 (by simp only [List.take_succ_cons, List.take_zero, List.drop_succ_cons, List.drop_zero, bne_self_eq_false, List.map_cons, List.map_nil, Bool.true_beq, Bool.false_beq, run_nil, run_cons, run_gate, cont_some, gate_true, gate_false, hrun_nil, hrun_cons, hrun_gate, hcont_some, hgate_true, hgate_false, put_some, put_none, ev_t, ev_k, wantedA, execA, stepA, List.set_cons_succ, List.set_cons_zero, List.getD_cons_succ, List.getD_cons_zero, List.getElem?_cons_zero, List.getElem?_cons_succ, if_true, if_false, binA, binInt, unA, eqA, Option.map, eq_self, true_or, or_true, true_and, and_true, and_self, beq_self_eq_true, Bool.not_true, Bool.not_false, reduceCtorEq, Bool.false_eq_true, ite_true, ite_false]; rfl) ?_
  refine AO_call rfl (AC_Left 0 H x n hx) ?_
  rintro _ _ ⟨rfl, rfl⟩
  rename_i H
  refine AO_take 4 (by simp only [List.take_succ_cons, List.take_zero, List.drop_succ_cons, List.drop_zero, bne_self_eq_false, List.map_cons, List.map_nil, Bool.true_beq, Bool.false_beq, run_nil, run_cons, run_gate, cont_some, gate_true, gate_false, hrun_nil, hrun_cons, hrun_gate, hcont_some, hgate_true, hgate_false, put_some, put_none, ev_t, ev_k, wantedA, execA, stepA, List.set_cons_succ, List.set_cons_zero, List.getD_cons_succ, List.getD_cons_zero, List.getElem?_cons_zero, List.getElem?_cons_succ, if_true, if_false, binA, binInt, unA, eqA, Option.map, eq_self, true_or, or_true, true_and, and_true, and_self, beq_self_eq_true, Bool.not_true, Bool.not_false, reduceCtorEq, Bool.false_eq_true, ite_true, ite_false]; rfl) ?_
  refine AO_call rfl (AC_Right64 0 H y n hy) ?_
  rintro _ _ ⟨rfl, rfl⟩
  rename_i H
  refine AO_take 2 (by simp only [List.take_succ_cons, List.take_zero, List.drop_succ_cons, List.drop_zero, bne_self_eq_false, List.map_cons, List.map_nil, Bool.true_beq, Bool.false_beq, run_nil, run_cons, run_gate, cont_some, gate_true, gate_false, hrun_nil, hrun_cons, hrun_gate, hcont_some, hgate_true, hgate_false, put_some, put_none, ev_t, ev_k, wantedA, execA, stepA, List.set_cons_succ, List.set_cons_zero, List.getD_cons_succ, List.getD_cons_zero, List.getElem?_cons_zero, List.getElem?_cons_succ, if_true, if_false, binA, binInt, unA, eqA, Option.map, eq_self, true_or, or_true, true_and, and_true, and_self, beq_self_eq_true, Bool.not_true, Bool.not_false, reduceCtorEq, Bool.false_eq_true, ite_true, ite_false]; rfl) ?_
  refine AO_call rfl (AC_Right 0 H y n hy) ?_
  rintro _ _ ⟨rfl, rfl⟩
  rename_i H
  refine AO_take 2 (by simp only [List.take_succ_cons, List.take_zero, List.drop_succ_cons, List.drop_zero, bne_self_eq_false, List.map_cons, List.map_nil, Bool.true_beq, Bool.false_beq, run_nil, run_cons, run_gate, cont_some, gate_true, gate_false, hrun_nil, hrun_cons, hrun_gate, hcont_some, hgate_true, hgate_false, put_some, put_none, ev_t, ev_k, wantedA, execA, stepA, List.set_cons_succ, List.set_cons_zero, List.getD_cons_succ, List.getD_cons_zero, List.getElem?_cons_zero, List.getElem?_cons_succ, if_true, if_false, binA, binInt, unA, eqA, Option.map, eq_self, true_or, or_true, true_and, and_true, and_self, beq_self_eq_true, Bool.not_true, Bool.not_false, reduceCtorEq, Bool.false_eq_true, ite_true, ite_false]; rfl) ?_
  refine AO_nil (AW_cond (t := false) rfl (fun h => by cases h) fun _ => AW_skip ?_)
  refine AW_seq (AW_ops (AO_take 2 (by simp only [List.take_succ_cons, List.take_zero, List.drop_succ_cons, List.drop_zero, bne_self_eq_false, List.map_cons, List.map_nil, Bool.true_beq, Bool.false_beq, run_nil, run_cons, run_gate, cont_some, gate_true, gate_false, hrun_nil, hrun_cons, hrun_gate, hcont_some, hgate_true, hgate_false, put_some, put_none, ev_t, ev_k, wantedA, execA, stepA, List.set_cons_succ, List.set_cons_zero, List.getD_cons_succ, List.getD_cons_zero, List.getElem?_cons_zero, List.getElem?_cons_succ, if_true, if_false, binA, binInt, unA, eqA, Option.map, eq_self, true_or, or_true, true_and, and_true, and_self, beq_self_eq_true, Bool.not_true, Bool.not_false, reduceCtorEq, Bool.false_eq_true, ite_true, ite_false]; rfl) ?_))
  refine AO_call rfl (AC_Left32 0 H x n hx) ?_
  rintro _ _ ⟨rfl, rfl⟩
  rename_i H
  refine AO_take 1 (by simp only [List.take_succ_cons, List.take_zero, List.drop_succ_cons, List.drop_zero, bne_self_eq_false, List.map_cons, List.map_nil, Bool.true_beq, Bool.false_beq, run_nil, run_cons, run_gate, cont_some, gate_true, gate_false, hrun_nil, hrun_cons, hrun_gate, hcont_some, hgate_true, hgate_false, put_some, put_none, ev_t, ev_k, wantedA, execA, stepA, List.set_cons_succ, List.set_cons_zero, List.getD_cons_succ, List.getD_cons_zero, List.getElem?_cons_zero, List.getElem?_cons_succ, if_true, if_false, binA, binInt, unA, eqA, Option.map, eq_self, true_or, or_true, true_and, and_true, and_self, beq_self_eq_true, Bool.not_true, Bool.not_false, reduceCtorEq, Bool.false_eq_true, ite_true, ite_false]; rfl) ?_
  refine AO_call rfl (AC_Right32 0 H _ n hl) ?_
  rintro _ _ ⟨rfl, rfl⟩
  rename_i H
  rw [rr_rl (Nat.le_of_lt hk) hx]
  refine AO_take 5 (by simp only [List.take_succ_cons, List.take_zero, List.drop_succ_cons, List.drop_zero, bne_self_eq_false, List.map_cons, List.map_nil, Bool.true_beq, Bool.false_beq, run_nil, run_cons, run_gate, cont_some, gate_true, gate_false, hrun_nil, hrun_cons, hrun_gate, hcont_some, hgate_true, hgate_false, put_some, put_none, ev_t, ev_k, wantedA, execA, stepA, List.set_cons_succ, List.set_cons_zero, List.getD_cons_succ, List.getD_cons_zero, List.getElem?_cons_zero, List.getElem?_cons_succ, if_true, if_false, binA, binInt, unA, eqA, Option.map, eq_self, true_or, or_true, true_and, and_true, and_self, beq_self_eq_true, Bool.not_true, Bool.not_false, reduceCtorEq, Bool.false_eq_true, ite_true, ite_false]; rfl) ?_
  refine AO_call rfl (AC_Right32 0 H x n hx) ?_
  rintro _ _ ⟨rfl, rfl⟩
  rename_i H
  refine AO_take 1 (by simp only [List.take_succ_cons, List.take_zero, List.drop_succ_cons, List.drop_zero, bne_self_eq_false, List.map_cons, List.map_nil, Bool.true_beq, Bool.false_beq, run_nil, run_cons, run_gate, cont_some, gate_true, gate_false, hrun_nil, hrun_cons, hrun_gate, hcont_some, hgate_true, hgate_false, put_some, put_none, ev_t, ev_k, wantedA, execA, stepA, List.set_cons_succ, List.set_cons_zero, List.getD_cons_succ, List.getD_cons_zero, List.getElem?_cons_zero, List.getElem?_cons_succ, if_true, if_false, binA, binInt, unA, eqA, Option.map, eq_self, true_or, or_true, true_and, and_true, and_self, beq_self_eq_true, Bool.not_true, Bool.not_false, reduceCtorEq, Bool.false_eq_true, ite_true, ite_false]; rfl) ?_
  refine AO_call rfl (AC_Left32 0 H _ n hr) ?_
  rintro _ _ ⟨rfl, rfl⟩
  rename_i H
  rw [rl_rr (Nat.le_of_lt hk) hx]
  refine AO_take 4 (by simp only [List.take_succ_cons, List.take_zero, List.drop_succ_cons, List.drop_zero, bne_self_eq_false, List.map_cons, List.map_nil, Bool.true_beq, Bool.false_beq, run_nil, run_cons, run_gate, cont_some, gate_true, gate_false, hrun_nil, hrun_cons, hrun_gate, hcont_some, hgate_true, hgate_false, put_some, put_none, ev_t, ev_k, wantedA, execA, stepA, List.set_cons_succ, List.set_cons_zero, List.getD_cons_succ, List.getD_cons_zero, List.getElem?_cons_zero, List.getElem?_cons_succ, if_true, if_false, binA, binInt, unA, eqA, Option.map, eq_self, true_or, or_true, true_and, and_true, and_self, beq_self_eq_true, Bool.not_true, Bool.not_false, reduceCtorEq, Bool.false_eq_true, ite_true, ite_false]; rfl) ?_
  refine AO_nil ?_
  exact AW_ret ⟨_, rfl, rfl⟩
end PK
