/- Reckoning straight code by rewriting: each operation's own arguments first. -/
import Derived.Test.YtebccciodmlikaaWp
namespace PAbs
open Go
set_option linter.unusedSimpArgs false
set_option linter.unusedVariables false

def contA (call : ACall) (fl : Nat) (d : Option Nat) (rest : List AOper) (fr : AFrame) : Option (AV × AHeap) → Option (AFrame × AHeap)
  | some (v, H) => evalOps call fl rest (putA fr d v) H
  | none => none
def gateA (call : ACall) (fl : Nat) (d : Option Nat) (op : AOp) (rest : List AOper) (fr : AFrame) (H : AHeap) : Bool → Option (AFrame × AHeap)
  | true => contA call fl d rest fr (execA call fl fr H op)
  | false => evalOps call fl rest (putA fr d aundef) H
def contH (call : ACall) (d : Option Nat) (rest : List AOper) (fr : AFrame) : Option (AV × AHeap) → Option (AFrame × AHeap)
  | some (v, H) => evalHead call rest (putA fr d v) H
  | none => none
def gateH (call : ACall) (d : Option Nat) (op : AOp) (rest : List AOper) (fr : AFrame) (H : AHeap) : Bool → Option (AFrame × AHeap)
  | true => contH call d rest fr (execA call H.length fr H op)
  | false => evalHead call rest (putA fr d aundef) H

section
variable {call : ACall} {fl : Nat} {d : Option Nat} {op : AOp} {rest : List AOper} {fr : AFrame} {H : AHeap} {v : AV} {g : Nat × Bool}
theorem run_nil : evalOps call fl [] fr H = some (fr, H) := rfl
theorem run_cons : evalOps call fl (⟨d, op, none⟩ :: rest) fr H = contA call fl d rest fr (execA call fl fr H op) := by
  simp only [evalOps, wantedA, if_true]; split <;> simp_all [contA]
theorem run_gate : evalOps call fl (⟨d, op, some g⟩ :: rest) fr H = gateA call fl d op rest fr H (wantedA fr (some g)) := by
  simp only [evalOps]
  cases hw : wantedA fr (some g) with
  | true => simp only [if_true, gateA]; split <;> simp_all [contA]
  | false => simp [gateA]
theorem cont_some : contA call fl d rest fr (some (v, H)) = evalOps call fl rest (putA fr d v) H := rfl
theorem gate_true : gateA call fl d op rest fr H true = contA call fl d rest fr (execA call fl fr H op) := rfl
theorem gate_false : gateA call fl d op rest fr H false = evalOps call fl rest (putA fr d aundef) H := rfl
theorem hrun_nil : evalHead call [] fr H = some (fr, H) := rfl
theorem hrun_cons : evalHead call (⟨d, op, none⟩ :: rest) fr H = contH call d rest fr (execA call H.length fr H op) := by
  simp only [evalHead, wantedA, if_true]; split <;> simp_all [contH]
theorem hrun_gate : evalHead call (⟨d, op, some g⟩ :: rest) fr H = gateH call d op rest fr H (wantedA fr (some g)) := by
  simp only [evalHead]
  cases hw : wantedA fr (some g) with
  | true => simp only [if_true, gateH]; split <;> simp_all [contH]
  | false => simp [gateH]
theorem hcont_some : contH call d rest fr (some (v, H)) = evalHead call rest (putA fr d v) H := rfl
theorem hgate_true : gateH call d op rest fr H true = contH call d rest fr (execA call H.length fr H op) := rfl
theorem hgate_false : gateH call d op rest fr H false = evalHead call rest (putA fr d aundef) H := rfl
theorem put_some {i : Nat} : putA fr (some i) v = fr.set i v := rfl
theorem put_none : putA fr none v = fr := rfl
theorem ev_t {i : Nat} : (AOpd.t i).ev fr = fr.getD i aundef := rfl
theorem ev_k : (AOpd.k v).ev fr = v := rfl
theorem exec_mv_c {x : AOpd} {c : Cell} (h : x.ev fr = .c c) : execA call fl fr H (.mv x) = some (.c c, H) := by simp only [execA, stepA, h]
theorem exec_mv_agg {x : AOpd} {c : List Cell} (h : x.ev fr = .agg c) : execA call fl fr H (.mv x) = some (.agg c, H) := by simp only [execA, stepA, h]
end

theorem AW_mid {A : Nat → Option AFn} {fl : Nat} {c : ACode} {fr : AFrame} {H : AHeap} {Q : AExit → AFrame → AHeap → Prop} (R : AExit → AFrame → AHeap → Prop) (h : AW A fl c fr H R) (hq : ∀ e fr' H', R e fr' H' → Q e fr' H') : AW A fl c fr H Q := h.mono hq

/-- a loop: what holds at each round's head, with a number that goes down -/
theorem AW_loopN {A : Nat → Option AFn} {fl : Nat} {c : ACode} {fr : AFrame} {H : AHeap} {Q : AExit → AFrame → AHeap → Prop} (I : Nat → AFrame → AHeap → Prop) (m : Nat) (h0 : I m fr H)
    (hr : ∀ m fr H, I m fr H → AW A fl c fr H (fun e fr' H' => match e with | .normal => ∃ m', m' < m ∧ I m' fr' H' | e => Q e fr' H')) : AW A fl (.loop c) fr H Q := by
  classical
  have least : ∀ (P : Nat → Prop), (∃ m, P m) → ∃ m, P m ∧ ∀ m', P m' → m ≤ m' := by
    intro P ⟨m, hm⟩
    induction m using Nat.strongRecOn with
    | _ m ih =>
      by_cases h : ∃ m', m' < m ∧ P m'
      · obtain ⟨m', h1, h2⟩ := h; exact ih m' h1 h2
      · exact ⟨m, hm, fun m' h' => Nat.le_of_not_lt fun hl => h ⟨m', hl, h'⟩⟩
  refine AW_loop (fun fr H => ∃ m, I m fr H) (fun fr H => if h : ∃ m, I m fr H then (least _ h).choose else 0) ⟨m, h0⟩ ?_
  intro fr H hI
  have hs := (least _ hI).choose_spec
  refine (hr _ _ _ hs.1).mono fun e fr' H' h => ?_
  cases e with
  | normal =>
    obtain ⟨m', h1, h2⟩ := h
    have hI' : ∃ m, I m fr' H' := ⟨m', h2⟩
    refine ⟨hI', ?_⟩
    simp only [dif_pos hI, dif_pos hI']
    exact Nat.lt_of_le_of_lt ((least _ hI').choose_spec.2 m' h2) h1
  | exit id => exact h
  | ret => exact h
end PAbs
