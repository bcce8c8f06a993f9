/- Texts of this claim, put together: Sound. -/
import Derived.Test.YtkmclhpnakphfaaG4
import Derived.LoopN
import Derived.Scope
import Derived.Defers
/- The abstract machine's evaluator, against the model: statements, calls. -/
namespace PAbs
open Go Go.RowKit
set_option linter.unusedSimpArgs false
set_option linter.unusedVariables false

/-- What a call of the abstract machine says of the model's. -/
def CallSpec (P : Program) (call : ACall) : Prop :=
  ∀ fl f args H v H', call fl f args H = some (v, H') → ∀ base ρ w (vs : Array Value), HR base ρ H w → L2 (VR ρ) args vs.toList →
    (tableA P f).isSome = true ∧ Calls P f vs w fun e w' => ∃ u ρ', e = .returned u ∧ HR base ρ' H' w' ∧ RExt ρ ρ' ∧ VR ρ' v u ∧ Below base w w'

section
variable {P : Program} {call : ACall} {base fl : Nat} {ρ : List Reg} {H H' : AHeap} {w : World} {fr fr' : AFrame} {a : Act} {v : AV}

theorem tableA_fn {f : Nat} (h : (tableA P f).isSome = true) : ∃ fn af, P.funcs[f]? = some fn ∧ resFn P fn = some af ∧ fn.body.isSome = true ∧ (fn.name == "runtime.NumGoroutine") = false := by
  unfold tableA at h
  cases hf : P.funcs[f]? with
  | none => rw [hf] at h; cases h
  | some fn =>
    rw [hf] at h
    simp only [Option.bind_some] at h
    cases hr : resFn P fn with
    | none => rw [hr] at h; cases h
    | some af =>
      refine ⟨fn, af, rfl, hr, ?_⟩
      unfold resFn at hr
      split at hr
      · rename_i f h0
        unfold resFn0 at h0
        split at h0
        · rename_i hb _
          split at h0
          · cases h0
          · rename_i hn; exact ⟨by simp [hb], by simpa using hn⟩
        · cases h0
      · split at hr
        · rename_i hb _
          split at hr
          · cases hr
          · rename_i hn; exact ⟨by simp [hb], by simpa using hn⟩
        · cases hr

theorem run_callFunc {f : Nat} (h : (tableA P f).isSome = true) (args : Array Value) : (callFunc f args).run P w = .ok (.enter f args) w := by
  obtain ⟨fn, af, hf, _, hb, hn⟩ := tableA_fn h
  have hb' : fn.body.isNone = false := by cases hx : fn.body <;> simp_all
  simp only [callFunc, Sem.run_bind, run_program, Result.andThen_ok, hf]
  rw [hn, hb']
  rfl

theorem resOp_call {o : Oper} {f : Nat} {as : List AOpd} (h : resOp P o = some (.call f as)) : ∃ args ts, o.op = .call { callee := .value (.func f), args := args, argTypes := ts } ∧ optMap absOpd args.toList = some as := by
  unfold resOp at h
  split at h
  case h_23 g args ts ho =>
    split at h
    · rename_i as' has
      unfold resCall at h
      split at h
      · cases h; exact ⟨args, ts, ho, has⟩
      · split at h <;> simp at h
    · cases h
  all_goals (exfalso; revert h; (try unfold resBin); (try unfold resConv); (try unfold resBuiltin); (try unfold resCall); (try unfold resClo); intro h; repeat' first | (obtain ⟨_, _, e⟩ := map_some h; cases e; done) | (cases h; done) | (simp at h; done) | split at h)
theorem resOp_callV {o : Oper} {x : AOpd} {as : List AOpd} (h : resOp P o = some (.callV x as)) : ∃ t args ts, o.op = .call { callee := .value (.tmp t), args := args, argTypes := ts } ∧ optMap absOpd args.toList = some as ∧ x = .t t := by
  unfold resOp at h
  split at h
  case h_24 t args ts ho => obtain ⟨as', has, e⟩ := map_some h; cases e; exact ⟨t, args, ts, ho, has, rfl⟩
  all_goals (exfalso; revert h; (try unfold resBin); (try unfold resConv); (try unfold resBuiltin); (try unfold resCall); (try unfold resClo); intro h; repeat' first | (obtain ⟨_, _, e⟩ := map_some h; cases e; done) | (cases h; done) | (simp at h; done) | split at h)

/-- one operation -/
theorem exec_sound (hc : CallSpec P call) {o : Oper} {p : AOp} (hres : resOp P o = some p) (hH : HR base ρ H w) (hF : FR ρ fr a.tmps) (h : execA call fl fr H p = some (v, H'))
    {K : Act → World → Prop} {Q : Exit → Act → World → Prop} (hK : ∀ u w' ρ', HR base ρ' H' w' → RExt ρ ρ' → VR ρ' v u → Below base w w' → K (a.put o.dst u) w') : o.wp P a w K Q := by
  have plain : stepA fl H (·.ev fr) p = some (v, H') → o.wp P a w K Q := fun hs => by
    obtain ⟨u, w', ρ', hr, h1, h2, h3, h4⟩ := step_sound hH hF hres hs
    unfold Oper.wp
    rcases hr with hr | ⟨hr, rfl⟩
    · rw [hr]; exact hK u w' ρ' h1 h2 h3 h4
    · rw [hr]; exact hK undef w' ρ' h1 h2 h3 h4
  have called : ∀ (f : Nat) (args : Array Operand) (as : List AOpd), optMap absOpd args.toList = some as → call fl f (as.map (·.ev fr)) H = some (v, H') →
      (∀ vs : Array Value, vs = args.map a.eval → (tableA P f).isSome = true → (execOp a.eval o).run P w = .ok (.enter f vs) w) → o.wp P a w K Q := fun f args as has hcall hrun => by
    have hL := absOpd_evs hF has
    obtain ⟨ht, hC⟩ := hc _ _ _ _ _ _ hcall base ρ w (args.map a.eval) hH (by simpa using hL)
    unfold Oper.wp
    rw [hrun _ rfl ht]
    show Calls P f (args.map a.eval) w _
    exact hC.mono fun e w' ⟨u, ρ', he, h1, h2, h3, h4⟩ => by subst he; exact hK u w' ρ' h1 h2 h3 h4
  cases p
  case call f as =>
    simp only [execA] at h
    obtain ⟨args, ts, ho, has⟩ := resOp_call hres
    refine called _ _ _ has h fun vs hvs ht => ?_
    subst hvs
    simp only [execOp, ho, resolve, Act.eval, Deferred.ofValue, Sem.run_bind, Sem.run_pure, Result.andThen_ok, invoke, Array.empty_append, Array.append_empty]
    exact run_callFunc ht _
  case callV x as =>
    simp only [execA] at h
    obtain ⟨t, args, ts, ho, has, rfl⟩ := resOp_callV hres
    split at h
    · rename_i g hg
      have hv : CR ρ (.fn g) (a.eval (.tmp t)) := by
        have := absOpd_VR (ρ := ρ) hF (x := .tmp t) (y := .t t) rfl
        rw [hg] at this; exact this
      have hv : a.eval (.tmp t) = .func (.func g) #[] #[] := hv
      refine called _ _ _ has h fun vs hvs ht => ?_
      subst hvs
      simp only [execOp, ho, resolve, hv, Deferred.ofValue, Sem.run_bind, Sem.run_pure, Result.andThen_ok, invoke, Array.empty_append, Array.append_empty]
      exact run_callFunc ht _
    · rename_i g caps hg
      have hv := absOpd_VR (ρ := ρ) hF (x := .tmp t) (y := .t t) rfl
      rw [hg] at hv
      obtain ⟨l, hv, hcap⟩ := hv
      have hL := absOpd_evs (a := a) hF has
      have hC2 : L2 (VR ρ) (caps.map AV.c) l := by
        have := hcap.map (S := VR ρ) (f := AV.c) (g := id) fun _ _ h => h
        simpa using this
      have hL2 : L2 (VR ρ) (as.map (·.ev fr) ++ caps.map AV.c) (args.map a.eval ++ l.toArray).toList := by
        have := hL.append hC2
        simpa using this
      obtain ⟨ht, hC⟩ := hc _ _ _ _ _ _ h base ρ w _ hH hL2
      unfold Oper.wp
      have hrun : (execOp a.eval o).run P w = .ok (.enter g (args.map a.eval ++ l.toArray)) w := by
        simp only [execOp, ho, resolve, hv, Deferred.ofValue, Sem.run_bind, Sem.run_pure, Result.andThen_ok, invoke, Array.empty_append, Array.append_empty]
        exact run_callFunc ht _
      rw [hrun]
      show Calls P g (args.map a.eval ++ l.toArray) w _
      exact hC.mono fun e w' ⟨u, ρ', he, h1, h2, h3, h4⟩ => by subst he; exact hK u w' ρ' h1 h2 h3 h4
    · cases h
  all_goals exact plain h

/-- is it wanted? both say the same -/
theorem wanted_same {ops : Array Oper} {o : Oper} {ao : AOper} (hF : FR ρ fr a.tmps) (hres : resOper P ops.toList o = some ao) : Region.wanted o (yielded ops a.tmps) = wantedA fr ao.guard := by
  unfold resOper at hres
  split at hres
  · cases hres
  · split at hres
    · rename_i hg
      simp only [Option.some.injEq] at hres; subst hres
      simp [Region.wanted, hg, wantedA]
    · rename_i j want hg
      split at hres
      · rename_i t ht
        simp only [Option.some.injEq] at hres; subst hres
        simp only [Region.wanted, hg, wantedA]
        have ht' : (ops[j]?).bind (·.dst) = some t := by simpa using ht
        simp only [yielded, ht', Option.bind_some]
        cases hx : fr[t]? with
        | none =>
          have : a.tmps[t]? = none := by simpa using L2.none hF hx
          simp [this]
        | some x =>
          obtain ⟨u, hu, hR⟩ := hF.2 t x hx
          have hu : a.tmps[t]? = some u := by simpa using hu
          rw [hu]
          cases x with
          | agg l => obtain ⟨m, rfl, _⟩ := hR; simp
          | tup l => obtain ⟨m, rfl, _⟩ := hR; simp
          | clo f l => obtain ⟨m, rfl, _⟩ := hR; simp
          | c c =>
            have hR : CR ρ c u := hR
            cases c
            case ptr b o =>
              simp only [CR] at hR
              split at hR <;> first | (subst hR; simp) | (obtain ⟨_, rfl⟩ := hR; simp) | exact hR.elim
            case slc b o n sz =>
              simp only [CR] at hR
              split at hR
              · rcases hR with ⟨_, rfl, _⟩ | ⟨_, _, rfl⟩ <;> simp
              · obtain ⟨_, _, rfl⟩ := hR; simp
              · obtain ⟨_, _, _, rfl⟩ := hR; simp
              · exact hR.elim
            all_goals (simp only [CR] at hR; subst hR; simp)
      · cases hres

theorem resOper_parts {ops : List Oper} {o : Oper} {ao : AOper} (hres : resOper P ops o = some ao) : resOp P o = some ao.op ∧ ao.dst = o.dst := by
  unfold resOper at hres
  split at hres
  · cases hres
  · rename_i p hp
    split at hres
    · simp only [Option.some.injEq] at hres; subst hres; exact ⟨hp, rfl⟩
    · split at hres
      · simp only [Option.some.injEq] at hres; subst hres; exact ⟨hp, rfl⟩
      · cases hres

/-- What a piece of code leaves. -/
def Left (base : Nat) (ρ : List Reg) (w : World) (a : Act) (fr' : AFrame) (H' : AHeap) (a' : Act) (w' : World) : Prop :=
  ∃ ρ', HR base ρ' H' w' ∧ FR ρ' fr' a'.tmps ∧ RExt ρ ρ' ∧ Below base w w' ∧ a'.defers = a.defers

theorem Act.defers_put (a : Act) (d : Option Tmp) (u : Value) : (a.put d u).defers = a.defers := by cases d <;> rfl

/-- operations in a row, and what follows them -/
theorem ops_sound_app (hc : CallSpec P call) {ops : Array Oper} {Q : Exit → Act → World → Prop} (more : List Oper) : ∀ (l : List Oper) (al : List AOper) (fr : AFrame) (H : AHeap) (ρ : List Reg) (a : Act) (w : World), optMap (resOper P ops.toList) l = some al → HR base ρ H w → FR ρ fr a.tmps →
    evalOps call fl al fr H = some (fr', H') → (∀ a' w', Left base ρ w a fr' H' a' w' → wpList P ops Q more a' w') → wpList P ops Q (l ++ more) a w
  | [], al, fr, H, ρ, a, w, hr, hH, hF, he, hQ => by
    simp [optMap] at hr; subst hr
    simp [evalOps] at he
    obtain ⟨rfl, rfl⟩ := he
    exact hQ a w ⟨ρ, hH, hF, RExt.refl ρ, Below.refl _ _, rfl⟩
  | o :: l, al, fr, H, ρ, a, w, hr, hH, hF, he, hQ => by
    simp only [optMap] at hr
    split at hr
    · rename_i ao al' h1 h2
      simp only [Option.some.injEq] at hr; subst hr
      obtain ⟨hop, hdst⟩ := resOper_parts h1
      simp only [evalOps] at he
      rw [List.cons_append]
      unfold wpList
      rw [wanted_same hF h1]
      split at he
      · rename_i hw
        rw [if_pos hw]
        split at he
        · rename_i v H1 hex
          refine .inl (exec_sound hc hop hH hF hex fun u w1 ρ1 h3 h4 h5 h6 => ?_)
          rw [← hdst]
          refine ops_sound_app hc more l al' _ H1 ρ1 (a.put ao.dst u) w1 h2 h3 ((hF.ext h4).put _ h5) he fun a' w' ⟨ρ', g1, g2, g3, g4, g5⟩ => ?_
          exact hQ a' w' ⟨ρ', g1, g2, h4.trans g3, h6.trans g4, g5.trans (Act.defers_put _ _ _)⟩
        · cases he
      · rename_i hw
        rw [if_neg hw, ← hdst]
        refine ops_sound_app hc more l al' _ H ρ (a.put ao.dst undef) w h2 hH (hF.put _ (VR.undef ρ)) he fun a' w' ⟨ρ', g1, g2, g3, g4, g5⟩ => ?_
        exact hQ a' w' ⟨ρ', g1, g2, g3, g4, g5.trans (Act.defers_put _ _ _)⟩
    · cases hr
/-- operations in a row -/
theorem ops_sound (hc : CallSpec P call) {ops : Array Oper} {Q : Exit → Act → World → Prop} (l : List Oper) (al : List AOper) (fr : AFrame) (H : AHeap) (ρ : List Reg) (a : Act) (w : World) (hr : optMap (resOper P ops.toList) l = some al) (hH : HR base ρ H w) (hF : FR ρ fr a.tmps)
    (he : evalOps call fl al fr H = some (fr', H')) (hQ : ∀ a' w', Left base ρ w a fr' H' a' w' → Q .normal a' w') : wpList P ops Q l a w := by
  have := ops_sound_app (Q := Q) hc [] l al fr H ρ a w hr hH hF he hQ
  rwa [List.append_nil] at this

def exitIs : AExit → Exit → Prop
  | .normal, x => x = .normal
  | .exit id, x => x = .exit id
  | .ret, x => x = .ret

theorem drawC_spec {ops : List Oper} {as : List AOper} {n : Nat} (h : drawC ops as = some n) : draw3Ok ops as = some n := by
  unfold drawC at h
  split at h
  · exact h
  · cases h
/-- What drawn statements need (proved elsewhere). -/
def DrawSpec (P : Program) (call : ACall) : Prop :=
  ∀ (id : Nat) (ops : Array Oper) (as : List AOper) (n : Nat) (base fl : Nat) (fr fr1 fr' : AFrame) (H H1 H' : AHeap) (ρ : List Reg) (a : Act) (w : World),
    optMap (resOper P ops.toList) ops.toList = some as → drawOk ops.toList as = some n → HR base ρ H w → FR ρ fr a.tmps →
    evalHead call (as.take n) fr H = some (fr1, H1) → evalOps call fl (as.drop n) fr1 H1 = some (fr', H') →
    ∀ Q : Exit → Act → World → Prop, (∀ a' w', Left base ρ w a fr' H' a' w' → Q .normal a' w') → (Code.region id ops true).wp P Q a w

def DrawASpec (P : Program) (call : ACall) : Prop :=
  ∀ (id : Nat) (ops : Array Oper) (as : List AOper) (z : List Cell) (q d n : Nat) (base fl : Nat) (fr fr1 fr' : AFrame) (H H1 H' : AHeap) (ρ : List Reg) (a : Act) (w : World),
    optMap (resOper P ops.toList) ops.toList = some as → drawAOk ops.toList as = some (z, q, d, n) → HR base ρ H w → FR ρ fr a.tmps →
    evalHead call ((atBlk q d H.length as).take n) fr (H ++ [.own z]) = some (fr1, H1) → evalOps call fl ((atBlk q d H.length as).drop n) fr1 H1 = some (fr', H') →
    ∀ Q : Exit → Act → World → Prop, (∀ a' w', Left base ρ w a fr' H' a' w' → Q .normal a' w') → (Code.region id ops true).wp P Q a w

def Draw3Spec (P : Program) (call : ACall) : Prop :=
  ∀ (id : Nat) (ops : Array Oper) (as : List AOper) (n : Nat) (base fl : Nat) (fr fr1 fr' : AFrame) (H H1 H' : AHeap) (ρ : List Reg) (a : Act) (w : World),
    optMap (resOper P ops.toList) ops.toList = some as → draw3Ok ops.toList as = some n → HR base ρ H w → FR ρ fr a.tmps →
    evalOps call H.length (as.take n) fr H = some (fr1, H1) → evalOps call fl (as.drop n) fr1 H1 = some (fr', H') →
    ∀ Q : Exit → Act → World → Prop, (∀ a' w', Left base ρ w a fr' H' a' w' → Q .normal a' w') → (Code.region id ops true).wp P Q a w

theorem code_sound (hc : CallSpec P call) (hd : DrawSpec P call) (hda : DrawASpec P call) (hd3 : Draw3Spec P call) (n : Nat) : ∀ (c : Code) (ac : ACode) (fr : AFrame) (H : AHeap) (ρ : List Reg) (a : Act) (w : World) (e : AExit) (fr' : AFrame) (H' : AHeap), resCode P c = some ac → HR base ρ H w → FR ρ fr a.tmps →
    evalCode call fl n ac fr H = some (e, fr', H') → c.wp P (fun x a' w' => exitIs e x ∧ Left base ρ w a fr' H' a' w') a w := by
  intro c
  induction c with
  | skip =>
    intro ac fr H ρ a w e fr' H' hr hH hF he
    simp [resCode] at hr; subst hr
    simp [evalCode] at he
    obtain ⟨rfl, rfl, rfl⟩ := he
    exact wp_skip ⟨rfl, ρ, hH, hF, RExt.refl ρ, Below.refl _ _, rfl⟩
  | ret =>
    intro ac fr H ρ a w e fr' H' hr hH hF he
    simp [resCode] at hr; subst hr
    simp [evalCode] at he
    obtain ⟨rfl, rfl, rfl⟩ := he
    exact wp_ret ⟨rfl, ρ, hH, hF, RExt.refl ρ, Below.refl _ _, rfl⟩
  | exit id =>
    intro ac fr H ρ a w e fr' H' hr hH hF he
    simp [resCode] at hr; subst hr
    simp [evalCode] at he
    obtain ⟨rfl, rfl, rfl⟩ := he
    exact wp_exit ⟨rfl, ρ, hH, hF, RExt.refl ρ, Below.refl _ _, rfl⟩
  | region id ops draw =>
    intro ac fr H ρ a w e fr' H' hr hH hF he
    simp only [resCode] at hr
    split at hr
    · cases hr
    · rename_i as has
      split at hr
      · rename_i hdr
        subst hdr
        split at hr
        · rename_i m hm
          simp only [Option.some.injEq] at hr; subst hr
          simp only [evalCode] at he
          split at he
          · rename_i fr1 H1 h1
            split at he
            · rename_i fr2 H2 h2
              simp at he
              obtain ⟨rfl, rfl, rfl⟩ := he
              exact hd3 id ops as m base fl fr fr1 _ H H1 _ ρ a w has (drawC_spec hm) hH hF h1 h2 _ fun a' w' hl => ⟨rfl, hl⟩
            · cases he
          · cases he
        split at hr
        · rename_i m hm
          simp only [Option.some.injEq] at hr; subst hr
          simp only [evalCode] at he
          split at he
          · rename_i fr1 H1 h1
            split at he
            · rename_i fr2 H2 h2
              simp at he
              obtain ⟨rfl, rfl, rfl⟩ := he
              exact hd id ops as m base fl fr fr1 _ H H1 _ ρ a w has hm hH hF h1 h2 _ fun a' w' hl => ⟨rfl, hl⟩
            · cases he
          · cases he
        · split at hr
          · rename_i z q d m hm
            simp only [Option.some.injEq] at hr; subst hr
            simp only [evalCode] at he
            split at he
            · rename_i fr1 H1 h1
              split at he
              · rename_i fr2 H2 h2
                simp at he
                obtain ⟨rfl, rfl, rfl⟩ := he
                exact hda id ops as z q d m base fl fr fr1 _ H H1 _ ρ a w has hm hH hF h1 h2 _ fun a' w' hl => ⟨rfl, hl⟩
              · cases he
            · cases he
          · cases hr
      · rename_i hdr
        simp only [Option.some.injEq] at hr; subst hr
        simp only [evalCode] at he
        split at he
        · rename_i fr1 H1 h1
          simp at he
          obtain ⟨rfl, rfl, rfl⟩ := he
          have hdr : draw = false := by simpa using hdr
          subst hdr
          refine wp_region_list ?_
          exact ops_sound hc ops.toList as fr H ρ a w has hH hF h1 fun a' w' hl => ⟨rfl, hl⟩
        · cases he
  | seq x y ihx ihy =>
    intro ac fr H ρ a w e fr' H' hr hH hF he
    simp only [resCode] at hr
    split at hr
    · rename_i ax ay h1 h2
      simp only [Option.some.injEq] at hr; subst hr
      simp only [evalCode] at he
      split at he
      · rename_i fr1 H1 hx
        refine wp_seq (wp_mono (ihx ax fr H ρ a w _ fr1 H1 h1 hH hF hx) fun e1 a1 w1 ⟨h3, ρ1, g1, g2, g3, g4, g5⟩ => ?_)
        subst h3
        exact wp_mono (ihy ay fr1 H1 ρ1 a1 w1 e fr' H' h2 g1 g2 he) fun e2 a2 w2 ⟨h4, ρ2, k1, k2, k3, k4, k5⟩ => ⟨h4, ρ2, k1, k2, g3.trans k3, g4.trans k4, k5.trans g5⟩
      · rename_i hne
        refine wp_seq (wp_mono (ihx ax fr H ρ a w e fr' H' h1 hH hF he) fun e1 a1 w1 ⟨h3, hl⟩ => ?_)
        cases e with
        | normal => exact absurd he (hne _ _)
        | exit id => simp only [exitIs] at h3; subst h3; exact ⟨rfl, hl⟩
        | ret => simp only [exitIs] at h3; subst h3; exact ⟨rfl, hl⟩
    · cases hr
  | cond c x y ihx ihy =>
    intro ac fr H ρ a w e fr' H' hr hH hF he
    simp only [resCode] at hr
    split at hr
    · rename_i ac' ax ay h0 h1 h2
      simp only [Option.some.injEq] at hr; subst hr
      have hv := absOpd_VR hF h0
      simp only [evalCode] at he
      split at he
      · rename_i hb
        rw [hb] at hv
        exact wp_cond_true hv (ihx ax fr H ρ a w e fr' H' h1 hH hF he)
      · rename_i hb
        rw [hb] at hv
        exact wp_cond_false hv (ihy ay fr H ρ a w e fr' H' h2 hH hF he)
      · cases he
    · cases hr
  | block id c ih =>
    intro ac fr H ρ a w e fr' H' hr hH hF he
    simp only [resCode] at hr
    obtain ⟨ac', hac, rfl⟩ := map_some hr
    simp only [evalCode] at he
    refine wp_block ?_
    split at he
    · rename_i i fr1 H1 hx
      refine wp_mono (ih ac' fr H ρ a w _ fr1 H1 hac hH hF hx) fun e1 a1 w1 ⟨h3, hl⟩ => ?_
      simp only [exitIs] at h3; subst h3
      split at he
      · rename_i hi
        subst hi
        simp at he
        obtain ⟨rfl, rfl, rfl⟩ := he
        simp only [Exit.inBlock, if_true]; exact ⟨rfl, hl⟩
      · rename_i hi
        simp at he
        obtain ⟨rfl, rfl, rfl⟩ := he
        simp only [Exit.inBlock, if_neg hi]; exact ⟨rfl, hl⟩
    · rename_i hne
      refine wp_mono (ih ac' fr H ρ a w e fr' H' hac hH hF he) fun e1 a1 w1 ⟨h3, hl⟩ => ?_
      cases e with
      | normal => simp only [exitIs] at h3; subst h3; exact ⟨rfl, hl⟩
      | exit id => exact absurd he (hne _ _ _)
      | ret => simp only [exitIs] at h3; subst h3; exact ⟨rfl, hl⟩
  | loop c ih =>
    intro ac fr H ρ a w e fr' H' hr hH hF he
    simp only [resCode] at hr
    obtain ⟨ac', hac, rfl⟩ := map_some hr
    simp only [evalCode] at he
    have key : ∀ (m : Nat) (fr : AFrame) (H : AHeap) (ρ1 : List Reg) (a1 : Act) (w1 : World), HR base ρ1 H w1 → FR ρ1 fr a1.tmps → RExt ρ ρ1 → Below base w w1 → a1.defers = a.defers → iterA (evalCode call fl n ac') m fr H = some (e, fr', H') →
        Code.rounds P c (fun x a' w' => exitIs e x ∧ Left base ρ w a fr' H' a' w') m a1 w1 := by
      intro m
      induction m with
      | zero => intro fr H ρ1 a1 w1 _ _ _ _ _ h; simp [iterA] at h
      | succ m ihm =>
        intro fr H ρ1 a1 w1 q1 q2 q3 q4 q5 h
        simp only [iterA] at h
        rw [rounds_succ]
        split at h
        · rename_i fr2 H2 hb
          refine wp_mono (ih ac' fr H ρ1 a1 w1 _ fr2 H2 hac q1 q2 hb) fun e1 a2 w2 ⟨h3, ρ2, g1, g2, g3, g4, g5⟩ => ?_
          simp only [exitIs] at h3; subst h3
          exact ihm fr2 H2 ρ2 a2 w2 g1 g2 (q3.trans g3) (q4.trans g4) (g5.trans q5) h
        · rename_i hne
          refine wp_mono (ih ac' fr H ρ1 a1 w1 e fr' H' hac q1 q2 h) fun e1 a2 w2 ⟨h3, ρ2, g1, g2, g3, g4, g5⟩ => ?_
          cases e with
          | normal => exact absurd h (hne _ _)
          | exit id => simp only [exitIs] at h3; subst h3; exact ⟨rfl, ρ2, g1, g2, q3.trans g3, q4.trans g4, g5.trans q5⟩
          | ret => simp only [exitIs] at h3; subst h3; exact ⟨rfl, ρ2, g1, g2, q3.trans g3, q4.trans g4, g5.trans q5⟩
    exact wp_loop_rounds n (key n fr H ρ a w hH hF (RExt.refl ρ) (Below.refl _ _) rfl he)
  | rangeFunc f ps x y ihx ihy => intro ac fr H ρ a w e fr' H' hr; simp [resCode] at hr
  | scope c ih =>
    intro ac fr H ρ a w e fr' H' hr hH hF he
    simp only [resCode] at hr
    refine wp_scope_straight (wp_mono (ih ac fr H ρ a w e fr' H' hr hH hF he) fun x a' w' ⟨hx, hl⟩ => ?_)
    cases e <;> simp only [exitIs] at hx <;> subst hx <;> exact ⟨rfl, hl⟩
  | label l =>
    intro ac fr H ρ a w e fr' H' hr hH hF he
    simp [resCode] at hr; subst hr
    simp [evalCode] at he
    obtain ⟨rfl, rfl, rfl⟩ := he
    exact wp_label ⟨rfl, ρ, hH, hF, RExt.refl ρ, Below.refl _ _, rfl⟩
  | goto l => intro ac fr H ρ a w e fr' H' hr; simp [resCode] at hr
  | refuse why => intro ac fr H ρ a w e fr' H' hr; simp [resCode] at hr

/-! ### results -/
def resSem (tmps : Array Value) (r : ResultVar) : Sem Value :=
  match r with
  | .tmp t => pure (tmps.getD t undef)
  | .cell a t => do loadVar t (← asAddr (tmps.getD a undef))

theorem res_sound (hH : HR base ρ H w) {tmps : Array Value} (hF : FR ρ fr tmps) {r : ResultVar} {ar : ARes} (hr : resRes P r = some ar) (h : resA fr H ar = some v) :
    ∃ u, (resSem tmps r).run P w = .ok u w ∧ VR ρ v u := by
  cases r with
  | tmp t =>
    simp [resRes] at hr; subst hr
    simp [resA] at h; subst h
    exact ⟨_, rfl, hF.getD t⟩
  | cell b t =>
    simp only [resRes] at hr
    split at hr
    · rename_i n hag hn
      simp only [Option.some.injEq] at hr; subst hr
      simp only [resA] at h
      split at h
      · rename_i b' o' hb
        obtain ⟨cs, hcs, rfl⟩ := map_some h
        have hv := hF.getD b
        rw [hb] at hv
        obtain ⟨g, f, hu, l, hl, hll, hcell⟩ := readN_run hH hv hcs
        refine ⟨.agg l.toArray, ?_, l, rfl, hl⟩
        simp only [resSem, Sem.run_bind, hu, asAddr, Sem.run_pure, Result.andThen_ok]
        exact run_loadVarN hag (hn.trans (by rw [hll])) hcell
      · cases h
    · rename_i hag
      simp only [Option.some.injEq] at hr; subst hr
      simp only [resA] at h
      split at h
      · rename_i b' o' hb
        split at h
        · rename_i cs hcs
          obtain ⟨c, hc, rfl⟩ := map_some h
          have hv := hF.getD b
          rw [hb] at hv
          obtain ⟨g, f, cc, hr', hu, arr, ty, fz, hg, hh⟩ := hH.at_ptr hcs hv
          obtain ⟨u, h1, h2⟩ := hh _ _ hc
          refine ⟨u, ?_, h2⟩
          simp only [resSem, Sem.run_bind, hu, asAddr, Sem.run_pure, Result.andThen_ok]
          exact run_loadVar1 hag ((cell_of hg).trans h1)
        · cases h
      · cases h
    · cases hr

theorem ress_sound (hH : HR base ρ H w) {tmps : Array Value} (hF : FR ρ fr tmps) : ∀ {rs : List ResultVar} {ars : List ARes} {tvs : List TV}, optMap (resRes P) rs = some ars → ressA fr H ars = some tvs →
    ∃ us : List Value, (rs.mapM (resSem tmps)).run P w = .ok us w ∧ L2 (TR ρ) tvs us
  | [], ars, tvs, hr, h => by
    simp [optMap] at hr; subst hr
    simp [ressA] at h; subst h
    exact ⟨[], rfl, L2.nil⟩
  | r :: rs, ars, tvs, hr, h => by
    simp only [optMap] at hr
    split at hr
    · rename_i ar ars' h1 h2
      simp only [Option.some.injEq] at hr; subst hr
      simp only [ressA] at h
      split at h
      · rename_i x xs hx hxs
        obtain ⟨t, ht, rfl⟩ := map_some h
        obtain ⟨u, hu, hV⟩ := res_sound hH hF h1 hx
        obtain ⟨us, hus, hL⟩ := ress_sound hH hF h2 hxs
        refine ⟨u :: us, ?_, L2.cons hL (hV.tv ht)⟩
        simp only [List.mapM_cons, Sem.run_bind]
        rw [hu]
        simp only [Result.andThen_ok]
        rw [hus]
        rfl
      · cases h
    · cases hr

theorem out_sound (hH : HR base ρ H w) {tmps : Array Value} (hF : FR ρ fr tmps) {fn : Func} {ars : List ARes} (hr : optMap (resRes P) fn.results.toList = some ars) (h : outA fr H ars = some v) :
    ∃ u, (results fn tmps).run P w = .ok u w ∧ VR ρ v u := by
  have hrun : ∀ us : List Value, (fn.results.toList.mapM (resSem tmps)).run P w = .ok us w →
      (results fn tmps).run P w = .ok (if h : us.length = 1 then us[0] else .tuple us.toArray) w := fun us hus => by
    have e : results fn tmps = (do let vs ← fn.results.mapM (resSem tmps); pure (if h : vs.size = 1 then vs[0] else .tuple vs)) := rfl
    rw [e]
    rw [show fn.results = fn.results.toList.toArray by simp, List.mapM_toArray]
    simp only [Sem.run_bind, Sem.run_map]
    rw [hus]
    simp only [Result.andThen_ok, Sem.run_pure, List.size_toArray]
    split <;> rfl
  by_cases h1 : ∃ r, ars = [r]
  · obtain ⟨r, rfl⟩ := h1
    simp only [outA] at h
    obtain ⟨x, hx, hxr⟩ := optMap_one hr
    obtain ⟨u, hu, hV⟩ := res_sound hH hF hxr h
    refine ⟨u, ?_, hV⟩
    have := hrun [u] (by rw [hx]; simp only [List.mapM_cons, List.mapM_nil, Sem.run_bind]; rw [hu]; rfl)
    simpa using this
  · have h' : (ressA fr H ars).map AV.tup = some v := by
      cases ars with
      | nil => simpa [outA] using h
      | cons r l =>
        cases l with
        | nil => exact absurd ⟨r, rfl⟩ h1
        | cons r' l => simpa [outA] using h
    obtain ⟨tvs, htv, rfl⟩ := map_some h'
    obtain ⟨us, hus, hL⟩ := ress_sound hH hF hr htv
    refine ⟨_, hrun us hus, ?_⟩
    have hlen : us.length = ars.length := by
      have e1 := hL.1
      have key : ∀ {l : List ARes} {t : List TV}, ressA fr H l = some t → t.length = l.length := by
        intro l
        induction l with
        | nil => intro t h; simp [ressA] at h; subst h; rfl
        | cons r l ih =>
          intro t h
          simp only [ressA] at h
          split at h
          · rename_i x xs _ hxs
            obtain ⟨q, _, rfl⟩ := map_some h
            simp [ih hxs]
          · cases h
      rw [← e1, key htv]
    have hne : us.length ≠ 1 := by
      intro e
      rw [hlen] at e
      cases ars with
      | nil => simp at e
      | cons r l =>
        cases l with
        | nil => exact h1 ⟨r, rfl⟩
        | cons r' l => simp at e
    rw [dif_neg hne]
    exact ⟨us, rfl, hL⟩
end

/-- and deferred, for a function that defers nothing -/
def CallDSpec (P : Program) (call : ACall) : Prop :=
  ∀ fl f args H v H', call fl f args H = some (v, H') → plainFn P f = true → ∀ base ρ w (vs : Array Value), HR base ρ H w → L2 (VR ρ) args vs.toList →
    (tableA P f).isSome = true ∧ CallsD P f vs .returning w fun e u' w' => u' = .returning ∧ ∃ u ρ', e = .returned u ∧ HR base ρ' H' w' ∧ RExt ρ ρ' ∧ VR ρ' v u ∧ Below base w w'

theorem deferOf_spec {ops pre : List Oper} {o : Oper} {f : Nat} {args : List Operand} (h : deferOf ops = some (pre, o, f, args)) :
    ops = pre ++ [o] ∧ o.guard = none ∧ o.dst = none ∧ ∃ ar ts, o.op = .defer { callee := .value (.func f), args := ar, argTypes := ts } ∧ ar.toList = args := by
  unfold deferOf at h
  split at h
  · rename_i o' ho
    split at h
    · rename_i f' ar ts hop hg hd
      simp only [Option.some.injEq, Prod.mk.injEq] at h
      obtain ⟨rfl, rfl, rfl, rfl⟩ := h
      obtain ⟨ys, rfl⟩ := List.getLast?_eq_some_iff.1 ho
      exact ⟨by rw [List.dropLast_concat], hg, hd, ar, ts, hop, rfl⟩
    · cases h
  · cases h

section
variable {P : Program} {call : ACall}
/-- what a function's end comes to -/
def EndsWith (P : Program) (fn : Func) (base : Nat) (ρ : List Reg) (w : World) (v : AV) (H' : AHeap) (e : Ending) (w' : World) : Prop :=
  ∃ u ρ', e = .returned u ∧ HR base ρ' H' w' ∧ RExt ρ ρ' ∧ VR ρ' v u ∧ Below base w w'
theorem spine_sound (hc : CallSpec P call) (hcd : CallDSpec P call) (hd : DrawSpec P call) (hda : DrawASpec P call) (hd3 : Draw3Spec P call) (n base fl : Nat) {fn : Func} {rs : List ARes} (hrs : optMap (resRes P) fn.results.toList = some rs) (ρ0 : List Reg) (w0 : World) (v : AV) (e : AExit) (fr' : AFrame) (H' : AHeap) (hen : e = .normal ∨ e = .ret) (hout : outA fr' H' rs = some v) :
    ∀ (c : Code) (ac : ACode) (fr : AFrame) (H : AHeap) (ρ : List Reg) (a : Act) (w : World), resSpine P c = some ac → HR base ρ H w → FR ρ fr a.tmps → RExt ρ0 ρ → Below base w0 w → a.defers = [] →
    evalCode call fl n ac fr H = some (e, fr', H') → c.wp P (bodyPostD P fn (EndsWith P fn base ρ0 w0 v H')) a w := by
  -- the end without a deferred call
  have done : ∀ (x : Exit) (ρ : List Reg) (a' : Act) (w' : World), exitIs e x → HR base ρ H' w' → FR ρ fr' a'.tmps → RExt ρ0 ρ → Below base w0 w' → a'.defers = [] → bodyPostD P fn (EndsWith P fn base ρ0 w0 v H') x a' w' := fun x ρ a' w' hx g1 g2 g3 g4 g5 => by
    obtain ⟨u, hu, hV⟩ := out_sound g1 g2 hrs hout
    rcases hen with rfl | rfl <;> simp only [exitIs] at hx <;> subst hx <;> simp only [bodyPostD, g5, Leaves] <;> exact ⟨u, hu, u, ρ, rfl, g1, g3, hV, g4⟩
  intro c
  induction c with
  | seq x y ihx ihy =>
    intro ac fr H ρ a w hr hH hF hx0 hB0 hds he
    -- a part that defers nothing, then the rest
    have plainSeq : (match resCode P x, resSpine P y with | some a, some b => some (ACode.seq a b) | _, _ => none) = some ac → (Code.seq x y).wp P (bodyPostD P fn (EndsWith P fn base ρ0 w0 v H')) a w := fun hr => by
      split at hr
      · rename_i ax ay h1 h2
        simp only [Option.some.injEq] at hr; subst hr
        simp only [evalCode] at he
        split at he
        · rename_i fr1 H1 hx
          refine wp_seq (wp_mono (code_sound hc hd hda hd3 n x ax fr H ρ a w _ fr1 H1 h1 hH hF hx) fun e1 a1 w1 ⟨h3, ρ1, g1, g2, g3, g4, g5⟩ => ?_)
          simp only [exitIs] at h3; subst h3
          exact ihy ay fr1 H1 ρ1 a1 w1 h2 g1 g2 (hx0.trans g3) (hB0.trans g4) (g5.trans hds) he
        · rename_i hne
          refine wp_seq (wp_mono (code_sound hc hd hda hd3 n x ax fr H ρ a w e fr' H' h1 hH hF he) fun e1 a1 w1 ⟨h3, ρ1, g1, g2, g3, g4, g5⟩ => ?_)
          rcases hen with rfl | rfl
          · exact absurd he (hne _ _)
          · simp only [exitIs] at h3; subst h3
            exact done .ret ρ1 a1 w1 rfl g1 g2 (hx0.trans g3) (hB0.trans g4) (g5.trans hds)
      · cases hr
    simp only [resSpine] at hr
    split at hr
    · rename_i id ops
      split at hr
      · rename_i pre o f args hdo
        split at hr
        · rename_i as xs r h1 h2 h3
          split at hr
          · rename_i hpl
            simp only [Option.some.injEq] at hr; subst hr
            obtain ⟨hops, hg, hdst, ar, ts, hop, har⟩ := deferOf_spec hdo
            simp only [evalCode] at he
            split at he
            · rename_i fr1 H1 e1
              split at he
              · rename_i e2 fr2 H2 e3
                split at he
                · rename_i v3 H3 e4
                  simp only [Option.some.injEq, Prod.mk.injEq] at he
                  obtain ⟨rfl, rfl, rfl⟩ := he
                  refine wp_seq (wp_region_list ?_)
                  rw [hops]
                  refine ops_sound_app hc [o] pre as fr H ρ a w h1 hH hF e1 fun a1 w1 ⟨ρ1, g1, g2, g3, g4, g5⟩ => ?_
                  have hL := absOpd_evs (a := a1) g2 h2
                  rw [← har] at hL
                  unfold wpList
                  rw [if_pos (by simp [Region.wanted, hg])]
                  refine .inl ?_
                  unfold Oper.wp
                  have hrun : (execOp a1.eval o).run P w1 = .ok (.defer { target := .fn (.func f) #[], args := ar.map a1.eval }) w1 := by
                    simp only [execOp, hop, resolve, Act.eval, Deferred.ofValue, Sem.run_bind, Sem.run_pure, Result.andThen_ok, Array.empty_append, Array.append_empty]
                  rw [hrun, Oper.upon_defer, hdst]
                  unfold wpList
                  have ga : ({ a1 with defers := { target := .fn (.func f) #[], args := ar.map a1.eval } :: a1.defers } : Act).put none undef = { a1 with defers := { target := .fn (.func f) #[], args := ar.map a1.eval } :: a1.defers } := rfl
                  rw [ga]
                  refine wp_mono (code_sound hc hd hda hd3 n y r fr1 H1 ρ1 _ w1 e2 fr2 H2 h3 g1 g2 e3) fun x2 a2 w2 ⟨hx2, ρ2, k1, k2, k3, k4, k5⟩ => ?_
                  have hds2 : a2.defers = [{ target := .fn (.func f) #[], args := ar.map a1.eval }] := by rw [k5]; simp [g5, hds]
                  have hL2 : L2 (VR ρ2) (xs.map (·.ev fr1)) (ar.map a1.eval).toList := by
                    have := hL.mono fun _ _ h => h.ext k3
                    simpa using this
                  obtain ⟨ht, hD⟩ := hcd _ _ _ _ _ _ e4 hpl base ρ2 w2 _ k1 hL2
                  have hleave : Leaves P fn a2.tmps (EndsWith P fn base ρ0 w0 v H3) a2.defers .returning w2 := by
                    rw [hds2]
                    refine leaves_cons (by simp) (f := f) (args := ar.map a1.eval) (by simp only [invoke, Array.append_empty]; exact run_callFunc ht _) (hD.mono fun x3 u3 w3 ⟨hu3, u, ρ3, hx3, q1, q2, q3, q4⟩ => ?_)
                    subst hx3 hu3
                    simp only [settle, Leaves]
                    obtain ⟨u', hu', hV⟩ := out_sound q1 (k2.ext q2) hrs hout
                    exact ⟨u', hu', u', ρ3, rfl, q1, ((hx0.trans g3).trans k3).trans q2, hV, ((hB0.trans g4).trans k4).trans q4⟩
                  rcases hen with rfl | rfl <;> simp only [exitIs] at hx2 <;> subst hx2 <;> exact hleave
                · cases he
              · cases he
            · cases he
          · cases hr
        · cases hr
      · exact plainSeq hr
    · exact plainSeq hr
  | scope c ih =>
    intro ac fr H ρ a w hr hH hF hx0 hB0 hds he
    simp only [resSpine] at hr
    refine wp_scope_straight (wp_mono (ih ac fr H ρ a w hr hH hF hx0 hB0 hds he) fun x a' w' h => ?_)
    cases x <;> first | exact h | exact ⟨rfl, h⟩ | (simp only [bodyPostD] at h; exact h.elim)
  | skip => intro ac fr H ρ a w hr; simp [resSpine] at hr
  | ret => intro ac fr H ρ a w hr; simp [resSpine] at hr
  | exit id => intro ac fr H ρ a w hr; simp [resSpine] at hr
  | region id ops draw => intro ac fr H ρ a w hr; simp [resSpine] at hr
  | cond c x y ihx ihy => intro ac fr H ρ a w hr; simp [resSpine] at hr
  | block id c ih => intro ac fr H ρ a w hr; simp [resSpine] at hr
  | loop c ih => intro ac fr H ρ a w hr; simp [resSpine] at hr
  | rangeFunc f ps x y ihx ihy => intro ac fr H ρ a w hr; simp [resSpine] at hr
  | label l => intro ac fr H ρ a w hr; simp [resSpine] at hr
  | goto l => intro ac fr H ρ a w hr; simp [resSpine] at hr
  | refuse why => intro ac fr H ρ a w hr; simp [resSpine] at hr
end

theorem resFn0_parts {P : Program} {fn : Func} {af : AFn} (h : resFn0 P fn = some af) : ∃ c rs ac, fn.body = some c ∧ optMap (resRes P) fn.results.toList = some rs ∧ resCode P c = some ac ∧ af = { ntmps := fn.ntmps, results := rs, body := ac } := by
  unfold resFn0 at h
  split at h
  · rename_i c rs hb hrs
    split at h
    · cases h
    · obtain ⟨ac, hac, rfl⟩ := map_some h
      exact ⟨c, rs, ac, hb, hrs, hac, rfl⟩
  · cases h

/-- A CALL OF THE ABSTRACT MACHINE IS A CALL OF THE MODEL. -/
theorem call_sound' (P : Program) (hd : ∀ k, CallSpec P (callFn (tableA P) k) → DrawSpec P (callFn (tableA P) k) ∧ DrawASpec P (callFn (tableA P) k) ∧ Draw3Spec P (callFn (tableA P) k)) : ∀ k, CallSpec P (callFn (tableA P) k) ∧ CallDSpec P (callFn (tableA P) k)
  | 0 => ⟨fun fl f args H v H' h => by simp [callFn] at h, fun fl f args H v H' h => by simp [callFn] at h⟩
  | k + 1 => by
    obtain ⟨ih, ihd⟩ := call_sound' P hd k
    have enter : ∀ (fn : Func) (rs : List ARes) (ac : ACode) (args : List AV) (vs : Array Value) (ρ : List Reg), L2 (VR ρ) args vs.toList → FR ρ (enterA { ntmps := fn.ntmps, results := rs, body := ac } args) (vs ++ Array.replicate (fn.ntmps - vs.size) undef) := fun fn rs ac args vs ρ hL => by
      have h1 : vs.size = args.length := by have := hL.1; simpa using this.symm
      simp only [FR, enterA, Array.toList_append, Array.toList_replicate, h1]
      exact hL.append (L2.replicate _ (VR.undef ρ))
    have ends : ∀ {fl f : Nat} {args : List AV} {H H' : AHeap} {v : AV} {af : AFn}, callFn (tableA P) (k + 1) fl f args H = some (v, H') → tableA P f = some af →
        ∃ e fr, evalCode (callFn (tableA P) k) fl k af.body (enterA af args) H = some (e, fr, H') ∧ (e = .normal ∨ e = .ret) ∧ outA fr H' af.results = some v := fun {fl f args H H' v af} h haf => by
      simp only [callFn, haf] at h
      split at h
      · rename_i fr H1 he
        obtain ⟨v', hv', e⟩ := map_some h
        simp at e
        obtain ⟨rfl, rfl⟩ := e
        exact ⟨_, _, he, .inl rfl, hv'⟩
      · rename_i fr H1 he
        obtain ⟨v', hv', e⟩ := map_some h
        simp at e
        obtain ⟨rfl, rfl⟩ := e
        exact ⟨_, _, he, .inr rfl, hv'⟩
      · cases h
    have some_ : ∀ {fl f : Nat} {args : List AV} {H H' : AHeap} {v : AV}, callFn (tableA P) (k + 1) fl f args H = some (v, H') → ∃ af, tableA P f = some af := fun {fl f args H H' v} h => by
      cases haf : tableA P f with
      | none => simp only [callFn, haf] at h; cases h
      | some af => exact ⟨af, rfl⟩
    -- a function that defers nothing
    have plain : ∀ {fl f : Nat} {args : List AV} {H H' : AHeap} {v : AV} {fn : Func} {af : AFn}, callFn (tableA P) (k + 1) fl f args H = some (v, H') → P.funcs[f]? = some fn → resFn0 P fn = some af → ∀ base ρ w (vs : Array Value), HR base ρ H w → L2 (VR ρ) args vs.toList →
        ∃ c, fn.body = some c ∧ c.wp P (bodyPost P fn fun e w' => ∃ u ρ', e = .returned u ∧ HR base ρ' H' w' ∧ RExt ρ ρ' ∧ VR ρ' v u ∧ Below base w w') { tmps := vs ++ Array.replicate (fn.ntmps - vs.size) undef, defers := [] } w := fun {fl f args H H' v fn af} h hf h0 base ρ w vs hH hL => by
      obtain ⟨c, rs, ac, hb, hrs, hac, rfl⟩ := resFn0_parts h0
      have haf : tableA P f = some { ntmps := fn.ntmps, results := rs, body := ac } := by simp only [tableA, hf, Option.bind_some, resFn, h0]
      obtain ⟨e, fr, he, hen, ho⟩ := ends h haf
      refine ⟨c, hb, wp_mono (code_sound ih (hd k ih).1 (hd k ih).2.1 (hd k ih).2.2 k c ac _ H ρ _ w e fr H' hac hH (enter fn rs ac args vs ρ hL) he) fun x a' w' ⟨hx, ρ', g1, g2, g3, g4, g5⟩ => ?_⟩
      obtain ⟨u, hu, hV⟩ := out_sound g1 g2 hrs ho
      rcases hen with rfl | rfl <;> simp only [exitIs] at hx <;> subst hx <;> exact ⟨g5, u, hu, u, ρ', rfl, g1, g3, hV, g4⟩
    refine ⟨fun fl f args H v H' h base ρ w vs hH hL => ?_, fun fl f args H v H' h hpl base ρ w vs hH hL => ?_⟩
    · obtain ⟨af, haf⟩ := some_ h
      refine ⟨by rw [haf]; rfl, ?_⟩
      cases hf : P.funcs[f]? with
      | none => simp [tableA, hf] at haf
      | some fn =>
        cases h0 : resFn0 P fn with
        | some af' =>
          obtain ⟨c, hb, hwp⟩ := plain h hf h0 base ρ w vs hH hL
          exact calls_of_wp hf hb hwp
        | none =>
          obtain ⟨e, fr, he, hen, ho⟩ := ends h haf
          simp only [tableA, hf, Option.bind_some, resFn, h0] at haf
          split at haf
          · rename_i c rs hb hrs
            split at haf
            · cases haf
            · obtain ⟨ac, hac, rfl⟩ := map_some haf
              exact calls_of_wp_defers hf hb (spine_sound ih ihd (hd k ih).1 (hd k ih).2.1 (hd k ih).2.2 k base fl hrs ρ w v e fr H' hen ho c ac _ H ρ _ w hac hH (enter fn rs ac args vs ρ hL) (RExt.refl ρ) (Below.refl _ _) rfl he)
          · cases haf
    · obtain ⟨af, haf⟩ := some_ h
      refine ⟨by rw [haf]; rfl, ?_⟩
      unfold plainFn at hpl
      cases hf : P.funcs[f]? with
      | none => simp [tableA, hf] at haf
      | some fn =>
        rw [hf, Option.bind_some] at hpl
        cases h0 : resFn0 P fn with
        | none => rw [h0] at hpl; cases hpl
        | some af' =>
          obtain ⟨c, hb, hwp⟩ := plain h hf h0 base ρ w vs hH hL
          exact callsD_of_wp hf hb hwp
theorem call_sound (P : Program) (hd : ∀ k, CallSpec P (callFn (tableA P) k) → DrawSpec P (callFn (tableA P) k) ∧ DrawASpec P (callFn (tableA P) k) ∧ Draw3Spec P (callFn (tableA P) k)) (k : Nat) : CallSpec P (callFn (tableA P) k) := (call_sound' P hd k).1
end PAbs
