/- Steps that go as far as they can: operations up to the first call or append; lengths by facts; loops that count up. -/
import Derived.Test.YtebccciodmlikaaSlc
namespace PAbs
open Go
set_option linter.unusedSimpArgs false
set_option linter.unusedVariables false

def AOp.stops : AOp → Bool
  | .call _ _ => true
  | .callV _ _ => true
  | .append _ _ (.k (.c .snil)) _ => false
  | .append _ _ _ _ => true
  | _ => false

inductive Pre where
  | at (ops : List AOper) (fr : AFrame) (H : AHeap)
  | bad

def Pre.isAt : Pre → List AOper → AFrame → AHeap → Prop
  | .at o f h, o', f', h' => o = o' ∧ f = f' ∧ h = h'
  | .bad, _, _, _ => False

def evalPre (fl : Nat) : List AOper → AFrame → AHeap → Pre
  | [], fr, H => .at [] fr H
  | o :: r, fr, H =>
    if wantedA fr o.guard then
      if o.op.stops then .at (o :: r) fr H else
      match execA noCall fl fr H o.op with
      | some (v, H') => evalPre fl r (putA fr o.dst v) H'
      | none => .bad
    else evalPre fl r (putA fr o.dst aundef) H

/-- the first one is not to stop -/
def evalPre1 (fl : Nat) : List AOper → AFrame → AHeap → Pre
  | [], _, _ => .bad
  | o :: r, fr, H =>
    if wantedA fr o.guard then
      if o.op.stops then .bad else
      match execA noCall fl fr H o.op with
      | some (v, H') => evalPre fl r (putA fr o.dst v) H'
      | none => .bad
    else evalPre fl r (putA fr o.dst aundef) H

def hPre : List AOper → AFrame → AHeap → Pre
  | [], fr, H => .at [] fr H
  | o :: r, fr, H =>
    if wantedA fr o.guard then
      if o.op.stops then .at (o :: r) fr H else
      match execA noCall H.length fr H o.op with
      | some (v, H') => hPre r (putA fr o.dst v) H'
      | none => .bad
    else hPre r (putA fr o.dst aundef) H
def hPre1 : List AOper → AFrame → AHeap → Pre
  | [], _, _ => .bad
  | o :: r, fr, H =>
    if wantedA fr o.guard then
      if o.op.stops then .bad else
      match execA noCall H.length fr H o.op with
      | some (v, H') => hPre r (putA fr o.dst v) H'
      | none => .bad
    else hPre r (putA fr o.dst aundef) H

section
variable {A : Nat → Option AFn} {fl : Nat}
theorem AO_pre0 : ∀ {ops ops' : List AOper} {fr fr' : AFrame} {H H' : AHeap} {Q : AFrame → AHeap → Prop}, evalPre fl ops fr H = .at ops' fr' H' → AO A fl ops' fr' H' Q → AO A fl ops fr H Q
  | [], ops', fr, fr', H, H', Q, h, h2 => by simp only [evalPre, Pre.at.injEq] at h; obtain ⟨rfl, rfl, rfl⟩ := h; exact h2
  | o :: r, ops', fr, fr', H, H', Q, h, h2 => by
    simp only [evalPre] at h
    split at h
    · rename_i hw
      split at h
      · simp only [Pre.at.injEq] at h; obtain ⟨rfl, rfl, rfl⟩ := h; exact h2
      · split at h
        · rename_i v H1 hx
          exact AO_step hw hx (AO_pre0 h h2)
        · cases h
    · rename_i hw
      exact AO_skip (by simpa using hw) (AO_pre0 h h2)
theorem AO_pre {ops ops' : List AOper} {fr fr' : AFrame} {H H' : AHeap} {Q : AFrame → AHeap → Prop} (h : evalPre1 fl ops fr H = .at ops' fr' H') (h2 : AO A fl ops' fr' H' Q) : AO A fl ops fr H Q := by
  refine AO_pre0 (ops' := ops') (fr' := fr') (H' := H') ?_ h2
  cases ops with
  | nil => cases h
  | cons o r =>
    simp only [evalPre, evalPre1] at h ⊢
    split at h
    · rename_i hw
      rw [if_pos hw]
      split at h
      · cases h
      · rename_i hs
        rw [if_neg hs]; exact h
    · rename_i hw
      rw [if_neg hw]; exact h
theorem AHd_pre0 : ∀ {ops ops' : List AOper} {fr fr' : AFrame} {H H' : AHeap} {Q : AFrame → AHeap → Prop}, hPre ops fr H = .at ops' fr' H' → AHd A ops' fr' H' Q → AHd A ops fr H Q
  | [], ops', fr, fr', H, H', Q, h, h2 => by simp only [hPre, Pre.at.injEq] at h; obtain ⟨rfl, rfl, rfl⟩ := h; exact h2
  | o :: r, ops', fr, fr', H, H', Q, h, h2 => by
    simp only [hPre] at h
    split at h
    · rename_i hw
      split at h
      · simp only [Pre.at.injEq] at h; obtain ⟨rfl, rfl, rfl⟩ := h; exact h2
      · split at h
        · rename_i v H1 hx
          exact AHd_step hw hx (AHd_pre0 h h2)
        · cases h
    · rename_i hw
      exact AHd_skip (by simpa using hw) (AHd_pre0 h h2)
theorem AHd_pre {ops ops' : List AOper} {fr fr' : AFrame} {H H' : AHeap} {Q : AFrame → AHeap → Prop} (h : hPre1 ops fr H = .at ops' fr' H') (h2 : AHd A ops' fr' H' Q) : AHd A ops fr H Q := by
  refine AHd_pre0 (ops' := ops') (fr' := fr') (H' := H') ?_ h2
  cases ops with
  | nil => cases h
  | cons o r =>
    simp only [hPre, hPre1] at h ⊢
    split at h
    · rename_i hw
      rw [if_pos hw]
      split at h
      · cases h
      · rename_i hs
        rw [if_neg hs]; exact h
    · rename_i hw
      rw [if_neg hw]; exact h
end

def contP (fl : Nat) (d : Option Nat) (rest : List AOper) (fr : AFrame) : Option (AV × AHeap) → Pre
  | some (v, H) => evalPre fl rest (putA fr d v) H
  | none => .bad
def stopP (fl : Nat) (o : AOper) (rest : List AOper) (fr : AFrame) (H : AHeap) : Bool → Pre
  | true => .at (o :: rest) fr H
  | false => contP fl o.dst rest fr (execA noCall fl fr H o.op)
def gateP (fl : Nat) (o : AOper) (rest : List AOper) (fr : AFrame) (H : AHeap) : Bool → Pre
  | true => stopP fl o rest fr H o.op.stops
  | false => evalPre fl rest (putA fr o.dst aundef) H
def stopQ (fl : Nat) (o : AOper) (rest : List AOper) (fr : AFrame) (H : AHeap) : Bool → Pre
  | true => .bad
  | false => contP fl o.dst rest fr (execA noCall fl fr H o.op)
def gateQ (fl : Nat) (o : AOper) (rest : List AOper) (fr : AFrame) (H : AHeap) : Bool → Pre
  | true => stopQ fl o rest fr H o.op.stops
  | false => evalPre fl rest (putA fr o.dst aundef) H
def contHP (d : Option Nat) (rest : List AOper) (fr : AFrame) : Option (AV × AHeap) → Pre
  | some (v, H) => hPre rest (putA fr d v) H
  | none => .bad
def stopHP (o : AOper) (rest : List AOper) (fr : AFrame) (H : AHeap) : Bool → Pre
  | true => .at (o :: rest) fr H
  | false => contHP o.dst rest fr (execA noCall H.length fr H o.op)
def stopHQ (o : AOper) (rest : List AOper) (fr : AFrame) (H : AHeap) : Bool → Pre
  | true => .bad
  | false => contHP o.dst rest fr (execA noCall H.length fr H o.op)
def gateHQ (o : AOper) (rest : List AOper) (fr : AFrame) (H : AHeap) : Bool → Pre
  | true => stopHQ o rest fr H o.op.stops
  | false => hPre rest (putA fr o.dst aundef) H
def gateHP (o : AOper) (rest : List AOper) (fr : AFrame) (H : AHeap) : Bool → Pre
  | true => stopHP o rest fr H o.op.stops
  | false => hPre rest (putA fr o.dst aundef) H

section
variable {fl : Nat} {d : Option Nat} {op : AOp} {rest : List AOper} {fr : AFrame} {H : AHeap} {v : AV} {g : Nat × Bool}
theorem pre_nil : evalPre fl [] fr H = .at [] fr H := rfl
theorem pre_cons : evalPre fl (⟨d, op, none⟩ :: rest) fr H = stopP fl ⟨d, op, none⟩ rest fr H op.stops := by
  simp only [evalPre, wantedA, if_true]; cases h : op.stops <;> simp only [stopP, if_true, if_false, Bool.false_eq_true]
  cases execA noCall fl fr H op <;> rfl
theorem pre_gate : evalPre fl (⟨d, op, some g⟩ :: rest) fr H = gateP fl ⟨d, op, some g⟩ rest fr H (wantedA fr (some g)) := by
  simp only [evalPre]
  cases hw : wantedA fr (some g) with
  | true =>
    simp only [if_true, gateP]; cases h : op.stops <;> simp only [stopP, if_true, if_false, Bool.false_eq_true]
    cases execA noCall fl fr H op <;> rfl
  | false => simp [gateP]
theorem pre1_nil : evalPre1 fl [] fr H = .bad := rfl
theorem pre1_cons : evalPre1 fl (⟨d, op, none⟩ :: rest) fr H = stopQ fl ⟨d, op, none⟩ rest fr H op.stops := by
  simp only [evalPre1, wantedA, if_true]; cases h : op.stops <;> simp only [stopQ, if_true, if_false, Bool.false_eq_true]
  cases execA noCall fl fr H op <;> rfl
theorem pre1_gate : evalPre1 fl (⟨d, op, some g⟩ :: rest) fr H = gateQ fl ⟨d, op, some g⟩ rest fr H (wantedA fr (some g)) := by
  simp only [evalPre1]
  cases hw : wantedA fr (some g) with
  | true =>
    simp only [if_true, gateQ]; cases h : op.stops <;> simp only [stopQ, if_true, if_false, Bool.false_eq_true]
    cases execA noCall fl fr H op <;> rfl
  | false => simp [gateQ]
theorem qstop_true {o : AOper} : stopQ fl o rest fr H true = .bad := rfl
theorem qstop_false : stopQ fl ⟨d, op, none⟩ rest fr H false = contP fl d rest fr (execA noCall fl fr H op) := rfl
theorem qstopg_false : stopQ fl ⟨d, op, some g⟩ rest fr H false = contP fl d rest fr (execA noCall fl fr H op) := rfl
theorem qgate_true : gateQ fl ⟨d, op, some g⟩ rest fr H true = stopQ fl ⟨d, op, some g⟩ rest fr H op.stops := rfl
theorem qgate_false : gateQ fl ⟨d, op, some g⟩ rest fr H false = evalPre fl rest (putA fr d aundef) H := rfl
theorem pcont_some : contP fl d rest fr (some (v, H)) = evalPre fl rest (putA fr d v) H := rfl
theorem pstop_true {o : AOper} : stopP fl o rest fr H true = .at (o :: rest) fr H := rfl
theorem pstop_false : stopP fl ⟨d, op, none⟩ rest fr H false = contP fl d rest fr (execA noCall fl fr H op) := rfl
theorem pstopg_false : stopP fl ⟨d, op, some g⟩ rest fr H false = contP fl d rest fr (execA noCall fl fr H op) := rfl
theorem pgate_true : gateP fl ⟨d, op, some g⟩ rest fr H true = stopP fl ⟨d, op, some g⟩ rest fr H op.stops := rfl
theorem pgate_false : gateP fl ⟨d, op, some g⟩ rest fr H false = evalPre fl rest (putA fr d aundef) H := rfl
theorem hpre_nil : hPre [] fr H = .at [] fr H := rfl
theorem hpre_cons : hPre (⟨d, op, none⟩ :: rest) fr H = stopHP ⟨d, op, none⟩ rest fr H op.stops := by
  simp only [hPre, wantedA, if_true]; cases h : op.stops <;> simp only [stopHP, if_true, if_false, Bool.false_eq_true]
  cases execA noCall H.length fr H op <;> rfl
theorem hpre_gate : hPre (⟨d, op, some g⟩ :: rest) fr H = gateHP ⟨d, op, some g⟩ rest fr H (wantedA fr (some g)) := by
  simp only [hPre]
  cases hw : wantedA fr (some g) with
  | true =>
    simp only [if_true, gateHP]; cases h : op.stops <;> simp only [stopHP, if_true, if_false, Bool.false_eq_true]
    cases execA noCall H.length fr H op <;> rfl
  | false => simp [gateHP]
theorem hpre1_nil : hPre1 [] fr H = .bad := rfl
theorem hpre1_cons : hPre1 (⟨d, op, none⟩ :: rest) fr H = stopHQ ⟨d, op, none⟩ rest fr H op.stops := by
  simp only [hPre1, wantedA, if_true]; cases h : op.stops <;> simp only [stopHQ, if_true, if_false, Bool.false_eq_true]
  cases execA noCall H.length fr H op <;> rfl
theorem hpre1_gate : hPre1 (⟨d, op, some g⟩ :: rest) fr H = gateHQ ⟨d, op, some g⟩ rest fr H (wantedA fr (some g)) := by
  simp only [hPre1]
  cases hw : wantedA fr (some g) with
  | true =>
    simp only [if_true, gateHQ]; cases h : op.stops <;> simp only [stopHQ, if_true, if_false, Bool.false_eq_true]
    cases execA noCall H.length fr H op <;> rfl
  | false => simp [gateHQ]
theorem hqstop_true {o : AOper} : stopHQ o rest fr H true = .bad := rfl
theorem hqstop_false : stopHQ ⟨d, op, none⟩ rest fr H false = contHP d rest fr (execA noCall H.length fr H op) := rfl
theorem hqstopg_false : stopHQ ⟨d, op, some g⟩ rest fr H false = contHP d rest fr (execA noCall H.length fr H op) := rfl
theorem hqgate_true : gateHQ ⟨d, op, some g⟩ rest fr H true = stopHQ ⟨d, op, some g⟩ rest fr H op.stops := rfl
theorem hqgate_false : gateHQ ⟨d, op, some g⟩ rest fr H false = hPre rest (putA fr d aundef) H := rfl
theorem hpcont_some : contHP d rest fr (some (v, H)) = hPre rest (putA fr d v) H := rfl
theorem hpstop_true {o : AOper} : stopHP o rest fr H true = .at (o :: rest) fr H := rfl
theorem hpstop_false : stopHP ⟨d, op, none⟩ rest fr H false = contHP d rest fr (execA noCall H.length fr H op) := rfl
theorem hpstopg_false : stopHP ⟨d, op, some g⟩ rest fr H false = contHP d rest fr (execA noCall H.length fr H op) := rfl
theorem hpgate_true : gateHP ⟨d, op, some g⟩ rest fr H true = stopHP ⟨d, op, some g⟩ rest fr H op.stops := rfl
theorem hpgate_false : gateHP ⟨d, op, some g⟩ rest fr H false = hPre rest (putA fr d aundef) H := rfl
end

/-- whether a guarded operation is wanted -/
def wantV (x : Option AV) (w : Bool) : Bool := match x with | some (.c (.bool b)) => b == w | _ => false
theorem want_eq {fr : AFrame} {t : Nat} {w : Bool} : wantedA fr (some (t, w)) = wantV fr[t]? w := rfl
theorem wantV_bool {b w : Bool} : wantV (some (.c (.bool b))) w = (b == w) := rfl
theorem wantV_undef {w : Bool} : wantV (some aundef) w = false := rfl

/-- the length of a slice -/
def lenX (H : AHeap) (x : AV) : Option (AV × AHeap) :=
  match x with
  | .c .snil => some (i64 0, H)
  | .c (.slc b _ n _) => (hcells H b).map fun _ => (i64 n, H)
  | _ => none
theorem exec_lenX {call : ACall} {fl : Nat} {fr : AFrame} {H : AHeap} {o : AOpd} : execA call fl fr H (.len false o) = lenX H (o.ev fr) := by
  simp only [execA, stepA, lenX]
  cases o.ev fr with
  | c x => cases x <;> rfl
  | agg l => rfl
  | tup l => rfl
theorem lenX_snil {H : AHeap} : lenX H (.c .snil) = some (.c (.int .i64 0), H) := rfl
theorem lenX_slc {H : AHeap} {b o n z : Nat} : lenX H (.c (.slc b o n z)) = (hcells H b).map fun _ => (.c (.int .i64 (n : Int)), H) := rfl
theorem Rd.len {H : AHeap} {x : Cell} {sz : Nat} {cs : List Cell} (h : Rd H x sz cs) (n : Nat) (hn : cs.length = n * sz) (hz : 0 < sz) : lenX H (.c x) = some (.c (.int .i64 (n : Int)), H) := by
  rcases h with ⟨rfl, rfl⟩ | ⟨s, b, m, rfl, h2, h3⟩
  · obtain rfl : n = 0 := by
      rcases Nat.eq_zero_or_pos n with h | h
      · exact h
      · have := Nat.mul_pos h hz
        simp only [List.length_nil] at hn; omega
    rfl
  · obtain rfl : n = m := Nat.eq_of_mul_eq_mul_right hz (by omega)
    simp only [readN] at h3
    cases hc : hcells H s with
    | none => rw [hc] at h3; cases h3
    | some l => rw [lenX_slc, hc]; rfl
theorem Rd.len1 {H : AHeap} {x : Cell} {cs : List Cell} (h : Rd H x 1 cs) (n : Nat) (hn : cs.length = n) : lenX H (.c x) = some (.c (.int .i64 (n : Int)), H) := h.len n (by omega) (by omega)
theorem Rd.len0 {H : AHeap} {x : Cell} {sz : Nat} {cs : List Cell} (h : Rd H x sz cs) (hn : cs.length = 0) (hz : 0 < sz) : lenX H (.c x) = some (.c (.int .i64 0), H) := h.len 0 (by omega) hz

section
variable {A : Nat → Option AFn} {fl id : Nat} {fr : AFrame} {H : AHeap} {Q : AExit → AFrame → AHeap → Prop}
theorem thenQ_n {b : ACode} (h : AW A fl b fr H Q) : thenQ A fl b Q .normal fr H := h
theorem blockQ_n (h : Q .normal fr H) : blockQ id Q .normal fr H := h
theorem AW_blockS {a b : ACode} (h : AW A fl (.seq a b) fr H (blockQ id Q)) : AW A fl (.block id (.seq a b)) fr H Q := AW_block h
theorem AW_blockR {a : List AOper} (h : AW A fl (.region a) fr H (blockQ id Q)) : AW A fl (.block id (.region a)) fr H Q := AW_block h
theorem AW_blockD {a b : List AOper} (h : AW A fl (.draw a b) fr H (blockQ id Q)) : AW A fl (.block id (.draw a b)) fr H Q := AW_block h
theorem AW_blockC {c : AOpd} {a b : ACode} (h : AW A fl (.cond c a b) fr H (blockQ id Q)) : AW A fl (.block id (.cond c a b)) fr H Q := AW_block h
end
theorem ret_ok {rs : List ARes} {fr : AFrame} {H : AHeap} {Q : AV → AHeap → Prop} {v : AV} (h : outA fr H rs = some v) (hq : Q v H) : exitQ rs Q .ret fr H := ⟨v, h, hq⟩

/-- a loop that counts up -/
theorem AW_up {A : Nat → Option AFn} {fl : Nat} {c : ACode} {fr : AFrame} {H : AHeap} {Q : AExit → AFrame → AHeap → Prop} (I : Nat → AFrame → AHeap → Prop) (n : Nat) (h0 : I 0 fr H)
    (hr : ∀ i fr H, i ≤ n → I i fr H → AW A fl c fr H (fun e fr' H' => match e with | .normal => i < n ∧ I (i + 1) fr' H' | e => Q e fr' H')) : AW A fl (.loop c) fr H Q := by
  refine AW_loopN (fun m fr H => m ≤ n ∧ I (n - m) fr H) n ⟨Nat.le_refl _, by rw [Nat.sub_self]; exact h0⟩ ?_
  intro m fr H ⟨hm, hI⟩
  refine (hr (n - m) fr H (Nat.sub_le _ _) hI).mono fun e fr' H' h => ?_
  cases e with
  | normal =>
    obtain ⟨h1, h2⟩ := h
    refine ⟨m - 1, by omega, by omega, ?_⟩
    have e : n - (m - 1) = n - m + 1 := by omega
    rw [e]; exact h2
  | exit id => exact h
  | ret => exact h

theorem i64_of {n : Int} (h : -9223372036854775808 ≤ n) (h' : n < 9223372036854775808) : IntKind.i64.wrap n = n := by
  show (if (true && decide (n % (2 ^ 64 : Int) ≥ (2 ^ 63 : Int))) = true then n % (2 ^ 64 : Int) - (2 ^ 64 : Int) else n % (2 ^ 64 : Int)) = n
  simp only [Bool.true_and, decide_eq_true_eq]
  split <;> omega
theorem i64_add {a b : Nat} (h : a + b < 9223372036854775808) : IntKind.i64.wrap ((a : Int) + (b : Int)) = ((a + b : Nat) : Int) := by rw [i64_of (by omega) (by omega)]; omega
theorem i64_succ {a : Nat} (h : a < 9223372036854775807) : IntKind.i64.wrap ((a : Int) + 1) = ((a + 1 : Nat) : Int) := by rw [i64_of (by omega) (by omega)]; omega

theorem nat_0 : ((0 : Nat) : Int) = 0 := rfl
theorem nat_1 : ((1 : Nat) : Int) = 1 := rfl
theorem nat_2 : ((2 : Nat) : Int) = 2 := rfl
theorem nat_3 : ((3 : Nat) : Int) = 3 := rfl
theorem nat_4 : ((4 : Nat) : Int) = 4 := rfl
theorem nat_8 : ((8 : Nat) : Int) = 8 := rfl
theorem nat_16 : ((16 : Nat) : Int) = 16 := rfl
theorem nat_64 : ((64 : Nat) : Int) = 64 := rfl
theorem nat_128 : ((128 : Nat) : Int) = 128 := rfl
end PAbs
