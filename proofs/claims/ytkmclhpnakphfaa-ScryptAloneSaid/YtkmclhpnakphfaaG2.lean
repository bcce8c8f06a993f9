/- Texts of this claim, put together: Eq. -/
import Derived.Test.YtkmclhpnakphfaaG1
import Derived.ChangeKeysEq
import Derived.Laws.StructEq
/- '==' of arrays and structs, cell by cell. -/
namespace PAbs
open Go Go.RowKit
set_option linter.unusedSimpArgs false
set_option linter.unusedVariables false

/-- a value of a type, out of its cells -/
def IsVal (P : Program) (ρ : List Reg) (t : TypeId) (x : Value) (cs : List Cell) : Prop :=
  (aggT P t = some true ∧ AggR ρ cs x) ∨ (aggT P t = some false ∧ ∃ c, cs = [c] ∧ CR ρ c x)

def EqS (P : Program) (ρ : List Reg) (dd : Nat) (t : TypeId) (sh : List CK) : Prop :=
  ∀ (w : World) (cs ds : List Cell) (x y : Value), fitsAll sh cs = true → fitsAll sh ds = true → IsVal P ρ t x cs → IsVal P ρ t y ds → (Op.equalIn dd t x y).run P w = .ok (cs == ds) w

theorem fitsAll_length : ∀ {sh : List CK} {cs : List Cell}, fitsAll sh cs = true → cs.length = sh.length
  | [], [], _ => rfl
  | k :: sh, c :: cs, h => by simp [fitsAll] at h; simp [fitsAll_length h.2]
  | [], _ :: _, h => by simp [fitsAll] at h
  | _ :: _, [], h => by simp [fitsAll] at h

theorem fitsAll_append : ∀ {sh sh' : List CK} {cs : List Cell}, fitsAll (sh ++ sh') cs = true → fitsAll sh (cs.take sh.length) = true ∧ fitsAll sh' (cs.drop sh.length) = true
  | [], sh', cs, h => by simpa [fitsAll] using h
  | k :: sh, sh', [], h => by simp [fitsAll] at h
  | k :: sh, sh', c :: cs, h => by
    simp only [List.cons_append, fitsAll, Bool.and_eq_true] at h
    have := fitsAll_append h.2
    simp [fitsAll, h.1, this.1, this.2]

section
variable {P : Program} {ρ : List Reg} {w : World}

def aggD : TypeDesc → Bool
  | .struct _ => true
  | .array _ _ => true
  | _ => false
theorem aggT_of {t : TypeId} {d : TypeDesc} (h : P.underlying t = some d) : aggT P t = some (aggD d) := by
  unfold aggT; rw [h]; cases d <;> rfl

/-- a part of a struct or an array -/
theorem part_val {e : TypeId} {cs : List Cell} {l : List Value} {off n : Nat} {sh : List CK} {d : Nat} (hL : L2 (CR ρ) cs l) (hn : sizeT P e = some n) (hsh : shapeT P d e = some sh) (hl : sh.length = n) (hf : fitsAll sh ((cs.drop off).take n) = true) :
    ∃ x, (part e l.toArray off).run P w = .ok x w ∧ IsVal P ρ e x ((cs.drop off).take n) := by
  have hlen := fitsAll_length hf
  cases ha : aggT P e with
  | none =>
    cases d with
    | zero => simp [shapeT] at hsh
    | succ d =>
      unfold shapeT at hsh
      unfold aggT at ha
      cases hu : P.underlying e with
      | none => simp [hu] at hsh
      | some dd => rw [hu] at ha; cases dd <;> simp at ha
  | some b =>
    cases b with
    | true =>
      refine ⟨.agg (l.toArray.extract off (off + n)), ?_, .inl ⟨ha, (l.drop off).take n, ?_, (hL.drop off).take n⟩⟩
      · simp [part, run_isAgg ha, run_sizeOf hn]
      · congr 1
        apply Array.ext'
        simp [List.extract]
    | false =>
      have h1 : n = 1 := by
        cases d with
        | zero => simp [shapeT] at hsh
        | succ d =>
          unfold shapeT at hsh
          unfold aggT at ha
          cases hu : P.underlying e with
          | none => simp [hu] at hsh
          | some dd => rw [hu] at ha hsh; cases dd <;> simp at ha hsh <;> (subst hsh; simpa using hl.symm)
      subst h1
      have h0 : off < cs.length := by simp at hlen; omega
      obtain ⟨y, hy, hR⟩ := hL.2 off _ (List.getElem?_eq_getElem h0)
      refine ⟨y, ?_, .inr ⟨ha, cs[off], ?_, hR⟩⟩
      · simp [part, run_isAgg ha, hy]
      · rw [List.drop_eq_getElem_cons h0, List.take_succ_cons, List.take_zero]

theorem beq_split (cs ds : List Cell) (n : Nat) (h : cs.length = ds.length) : (cs == ds) = ((cs.take n == ds.take n) && (cs.drop n == ds.drop n)) := by
  rw [Bool.eq_iff_iff]
  simp only [beq_iff_eq, Bool.and_eq_true]
  constructor
  · rintro rfl; exact ⟨rfl, rfl⟩
  · rintro ⟨h1, h2⟩
    rw [← List.take_append_drop n cs, ← List.take_append_drop n ds, h1, h2]

theorem eqItems_run {dd d e : Nat} {sh : List CK} (IH : EqS P ρ dd e sh) (hsh : shapeT P d e = some sh) (hn : sizeT P e = some sh.length) (hc : P.cellsOf e = sh.length) {cs ds : List Cell} {l m : List Value} (hL : L2 (CR ρ) cs l) (hM : L2 (CR ρ) ds m) :
    ∀ (k i : Nat), fitsAll (List.replicate k sh).flatten (cs.drop (i * sh.length)) = true → fitsAll (List.replicate k sh).flatten (ds.drop (i * sh.length)) = true →
      (Op.eqItems dd e (P.cellsOf e) l.toArray m.toArray (List.range' i k)).run P w = .ok (cs.drop (i * sh.length) == ds.drop (i * sh.length)) w
  | 0, i, h1, h2 => by
    have e1 : cs.drop (i * sh.length) = [] := List.eq_nil_of_length_eq_zero (by simpa using fitsAll_length h1)
    have e2 : ds.drop (i * sh.length) = [] := List.eq_nil_of_length_eq_zero (by simpa using fitsAll_length h2)
    rw [e1, e2]; simp [Op.eqItems]
  | k + 1, i, h1, h2 => by
    simp only [List.replicate_succ, List.flatten_cons] at h1 h2
    have hl1 := fitsAll_length h1
    have hl2 := fitsAll_length h2
    obtain ⟨a1, a2⟩ := fitsAll_append h1
    obtain ⟨b1, b2⟩ := fitsAll_append h2
    rw [List.drop_drop] at a2 b2
    have hi : i * sh.length + sh.length = (i + 1) * sh.length := by rw [Nat.add_mul]; omega
    rw [hi] at a2 b2
    obtain ⟨x, hx, vx⟩ := part_val (w := w) hL hn hsh rfl a1
    obtain ⟨y, hy, vy⟩ := part_val (w := w) hM hn hsh rfl b1
    have hq := IH w _ _ x y a1 b1 vx vy
    have hr := eqItems_run IH hsh hn hc hL hM k (i + 1) a2 b2
    rw [beq_split _ _ sh.length (by omega), List.drop_drop, List.drop_drop, hi]
    rw [hc] at hr ⊢
    simp only [List.range'_succ, Op.eqItems, Sem.run_bind, hx, hy, Result.andThen_ok, hq]
    cases hb : (List.take sh.length (List.drop (i * sh.length) cs) == List.take sh.length (List.drop (i * sh.length) ds))
    · simp
    · simpa using hr

theorem eqFields_run {dd d : Nat} (IH : ∀ t sh, shapeT P d t = some sh → EqS P ρ dd t sh) {cs ds : List Cell} {l m : List Value} (hL : L2 (CR ρ) cs l) (hM : L2 (CR ρ) ds m) :
    ∀ (fs : List Field) (off : Nat) (sh : List CK), shapeT.shapeFs P (shapeT P d) off fs = some sh → fitsAll sh (cs.drop off) = true → fitsAll sh (ds.drop off) = true →
      (Op.eqFields dd l.toArray m.toArray fs).run P w = .ok (cs.drop off == ds.drop off) w
  | [], off, sh, h, h1, h2 => by
    simp [shapeT.shapeFs] at h; subst h
    have e1 : cs.drop off = [] := List.eq_nil_of_length_eq_zero (by simpa using fitsAll_length h1)
    have e2 : ds.drop off = [] := List.eq_nil_of_length_eq_zero (by simpa using fitsAll_length h2)
    rw [e1, e2]; simp [Op.eqFields]
  | f :: r, off, sh, h, h1, h2 => by
    simp only [shapeT.shapeFs] at h
    split at h
    · rename_i s s' hs hs'
      split at h
      · rename_i hc
        obtain ⟨hname, hoff, hn⟩ := hc
        have e : s ++ s' = sh := by simpa using h
        subst e
        have hl1 := fitsAll_length h1
        have hl2 := fitsAll_length h2
        obtain ⟨a1, a2⟩ := fitsAll_append h1
        obtain ⟨b1, b2⟩ := fitsAll_append h2
        rw [List.drop_drop] at a2 b2
        rw [hn] at hs'
        simp only [Option.getD_some] at hs'
        obtain ⟨x, hx, vx⟩ := part_val (w := w) hL hn hs rfl a1
        obtain ⟨y, hy, vy⟩ := part_val (w := w) hM hn hs rfl b1
        have hq := IH _ _ hs w _ _ x y a1 b1 vx vy
        have hr := eqFields_run IH hL hM r (off + s.length) s' hs' a2 b2
        rw [beq_split _ _ s.length (by omega), List.drop_drop, List.drop_drop]
        simp only [Op.eqFields, hname, ne_eq, not_false_eq_true, if_true, hoff, Sem.run_bind, hx, hy, Result.andThen_ok, hq]
        cases hb : (List.take s.length (List.drop off cs) == List.take s.length (List.drop off ds))
        · simp
        · simpa using hr
      · cases h
    · cases h

theorem cellK_eq {k : CK} {c d : Cell} {x y : Value} (h1 : k.fits c = true) (h2 : k.fits d = true) (hx : CR ρ c x) (hy : CR ρ d y) :
    (∃ q a b, k = .int q ∧ c = .int q a ∧ d = .int q b ∧ x = .int q a ∧ y = .int q b) ∨ (∃ a b, k = .str ∧ c = .str a ∧ d = .str b ∧ x = .string ⟨a.toArray⟩ ∧ y = .string ⟨b.toArray⟩) ∨ (∃ a b, k = .bool ∧ c = .bool a ∧ d = .bool b ∧ x = .bool a ∧ y = .bool b) := by
  cases k <;> cases c <;> simp [CK.fits] at h1 <;> cases d <;> simp [CK.fits] at h2
  · subst h1 h2; exact .inl ⟨_, _, _, rfl, rfl, rfl, hx, hy⟩
  · exact .inr (.inl ⟨_, _, rfl, rfl, rfl, hx, hy⟩)
  · exact .inr (.inr ⟨_, _, rfl, rfl, rfl, hx, hy⟩)

theorem equalIn_plain {dd : Nat} {t : TypeId} {sh : List CK} {k : CK} (hu : P.underlying t = some (match k with | .int q => .int q | .str => .string | .bool => .bool)) : EqS P ρ (dd + 1) t [k] := by
  intro w cs ds x y h1 h2 vx vy
  have hag : aggT P t = some false := by rw [aggT_of hu]; cases k <;> rfl
  rcases vx with ⟨e, _⟩ | ⟨_, c, rfl, hx⟩
  · rw [hag] at e; cases e
  rcases vy with ⟨e, _⟩ | ⟨_, d, rfl, hy⟩
  · rw [hag] at e; cases e
  simp [fitsAll] at h1 h2
  rcases cellK_eq h1 h2 hx hy with ⟨q, a, b, rfl, rfl, rfl, rfl, rfl⟩ | ⟨a, b, rfl, rfl, rfl, rfl, rfl⟩ | ⟨a, b, rfl, rfl, rfl, rfl, rfl⟩
  · rw [run_equalIn_int w dd t q q a b hu]
    simp only [Result.ok.injEq, and_true]
    rw [Bool.eq_iff_iff]; simp
  · rw [run_equalIn_string w dd t _ _ hu, toList_mk, toList_mk]
    simp only [Result.ok.injEq, and_true]
    rw [Bool.eq_iff_iff]; simp
  · rw [run_equalIn_bool' w dd t a b hu]
    simp only [Result.ok.injEq, and_true]
    rw [Bool.eq_iff_iff]; simp

theorem isVal_agg {t : TypeId} {x : Value} {cs : List Cell} (hag : aggT P t = some true) (h : IsVal P ρ t x cs) : ∃ l : List Value, x = .agg l.toArray ∧ L2 (CR ρ) cs l := by
  rcases h with ⟨_, h⟩ | ⟨e, _⟩
  · exact h
  · rw [hag] at e; cases e

theorem equalIn_shape (dd : Nat) : ∀ (d : Nat) (t : TypeId) (sh : List CK), shapeT P d t = some sh → EqS P ρ (dd + d) t sh
  | 0, _, _, h => by simp [shapeT] at h
  | d + 1, t, sh, h => by
    unfold shapeT at h
    cases hu : P.underlying t with
    | none => simp [hu] at h
    | some kd =>
      rw [hu] at h
      cases kd <;> simp only at h <;> try (cases h; done)
      case bool => simp at h; subst h; exact equalIn_plain (dd := dd + d) (sh := []) (k := .bool) hu
      case int q => simp at h; subst h; exact equalIn_plain (dd := dd + d) (sh := []) (k := .int q) hu
      case string => simp at h; subst h; exact equalIn_plain (dd := dd + d) (sh := []) (k := .str) hu
      case array n e =>
        split at h
        · rename_i s hs
          split at h
          · rename_i hc
            obtain ⟨hc, hn⟩ := hc
            have e' : (List.replicate n s).flatten = sh := by simpa using h
            subst e'
            intro w cs ds x y h1 h2 vx vy
            have hag : aggT P t = some true := aggT_of hu
            obtain ⟨l, rfl, hL⟩ := isVal_agg hag vx
            obtain ⟨m, rfl, hM⟩ := isVal_agg hag vy
            obtain ⟨i, hi, _⟩ := sizeT_info hn
            rw [show dd + (d + 1) = (dd + d) + 1 from rfl, run_equalIn_array w (dd + d) l.toArray m.toArray hu hi, List.range_eq_range']
            have := eqItems_run (w := w) (equalIn_shape dd d e s hs) hs hn hc hL hM n 0 (by simpa using h1) (by simpa using h2)
            simpa using this
          · cases h
        · cases h
      case struct fs =>
        split at h
        · cases h
        · rename_i hst
          intro w cs ds x y h1 h2 vx vy
          have hag : aggT P t = some true := aggT_of hu
          obtain ⟨l, rfl, hL⟩ := isVal_agg hag vx
          obtain ⟨m, rfl, hM⟩ := isVal_agg hag vy
          have hfs : P.fieldsOf t = fs := by simp [Program.fieldsOf, hu]
          rw [show dd + (d + 1) = (dd + d) + 1 from rfl, run_equalIn_struct w (dd + d) t l.toArray m.toArray (by rw [hfs]; exact hu) (by simpa using hst), hfs]
          have := eqFields_run (w := w) (fun t sh h => equalIn_shape dd d t sh h) hL hM fs.toList 0 sh h (by simpa using h1) (by simpa using h2)
          simpa using this
end
end PAbs
