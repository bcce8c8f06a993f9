/- Each operation of the abstract machine, against the model's own: numbers, texts, slices. -/
import Derived.Test.YtebccciodmlikaaOps2
namespace PAbs
open Go Go.RowKit
set_option linter.unusedSimpArgs false
set_option linter.unusedVariables false

section steps
variable {P : Program} {o : Oper} {a : Act} {base fl : Nat} {ρ : List Reg} {H H' : AHeap} {w : World} {fr : AFrame} {v : AV}

theorem mk_append (x y : List UInt8) : (⟨x.toArray⟩ : ByteArray) ++ ⟨y.toArray⟩ = ⟨(x ++ y).toArray⟩ := by
  apply ByteArray.ext
  simp

theorem mk_size (x : List UInt8) : (⟨x.toArray⟩ : ByteArray).size = x.length := by simp [ByteArray.size]

theorem binStr_run {op : BinOp} {x y : List UInt8} {c : Cell} (h : binStr op x y = some c) (t : TypeId) (w : World) :
    ∃ u, (binOp op t (.string ⟨x.toArray⟩) (.string ⟨y.toArray⟩)).run P w = .ok u w ∧ CR ρ c u := by
  cases op <;> simp only [binStr] at h <;> try (cases h; done)
  case add =>
    split at h
    · rename_i hle
      simp at h; subst h
      refine ⟨_, ?_, rfl⟩
      simp only [binOp, Op.stringOp, mk_size]
      rw [if_neg (by simp [IntKind.max, IntKind.signed, IntKind.bits]; omega), mk_append]
      rfl
    · cases h
  all_goals
    simp at h; subst h
    exact ⟨_, by simp [binOp, Op.stringOp, toList_mk] <;> rfl, rfl⟩

theorem eqGuard_plain {op : BinOp} {t : TypeId} {x y : Operand} {u v : Value} (hu : (∃ k n, u = .int k n) ∨ (∃ s, u = .string s) ∨ (∃ b, u = .bool b) ∨ (∃ p, u = .pointer p) ∨ (∃ p n c, u = .slice p n c)) (w : World) :
    (eqGuard op t x y u v).run P w = .ok () w := by
  rcases hu with ⟨k, n, rfl⟩ | ⟨s, rfl⟩ | ⟨b, rfl⟩ | ⟨p, rfl⟩ | ⟨p, n, c, rfl⟩ <;> cases op <;> rfl

theorem st_bin (hH : HR base ρ H w) (hF : FR ρ fr a.tmps) {op : BinOp} {t u : TypeId} {x z : Operand} {y q : AOpd} (ho : o.op = .binOp op t x z u) (hx : absOpd x = some y) (hz : absOpd z = some q)
    (h : stepA fl H (·.ev fr) (.bin op y q) = some (v, H')) : Stepped P o a base ρ w v H' := by
  have hvx := absOpd_VR hF hx
  have hvz := absOpd_VR hF hz
  simp only [stepA] at h
  cases hb : binA op (y.ev fr) (q.ev fr) with
  | none => rw [hb] at h; cases h
  | some c =>
    rw [hb] at h
    simp at h
    obtain ⟨rfl, rfl⟩ := h
    unfold binA at hb
    split at hb
    · rename_i k n k' n' e1 e2
      rw [e1] at hvx; rw [e2] at hvz
      have hvx : a.eval x = .int k n := hvx
      have hvz : a.eval z = .int k' n' := hvz
      split at hb
      · rename_i hk
        obtain ⟨r, hr, hc⟩ := binInt_run (P := P) (ρ := ρ) hk hb t w
        refine Stepped.pure hH (u := r) ?_ hc
        simp only [execOp, ho, Sem.run_bind, hvx, hvz, eqGuard_plain (.inl ⟨k, n, rfl⟩), Result.andThen_ok, hr]
        rfl
      · cases hb
    · rename_i s s' e1 e2
      rw [e1] at hvx; rw [e2] at hvz
      have hvx : a.eval x = .string ⟨s.toArray⟩ := hvx
      have hvz : a.eval z = .string ⟨s'.toArray⟩ := hvz
      obtain ⟨r, hr, hc⟩ := binStr_run (P := P) (ρ := ρ) hb t w
      refine Stepped.pure hH (u := r) ?_ hc
      simp only [execOp, ho, Sem.run_bind, hvx, hvz, eqGuard_plain (.inr (.inl ⟨_, rfl⟩)), Result.andThen_ok, hr]
      rfl
    · cases hb

theorem st_un (hH : HR base ρ H w) (hF : FR ρ fr a.tmps) {op : UnOp} {t : TypeId} {x : Operand} {y : AOpd} (ho : o.op = .unOp op t x) (hx : absOpd x = some y)
    (h : stepA fl H (·.ev fr) (.un op y) = some (v, H')) : Stepped P o a base ρ w v H' := by
  have hvx := absOpd_VR hF hx
  simp only [stepA] at h
  cases hb : unA op (y.ev fr) with
  | none => rw [hb] at h; cases h
  | some c =>
    rw [hb] at h
    simp at h
    obtain ⟨rfl, rfl⟩ := h
    unfold unA at hb
    split at hb
    · rename_i k n e
      rw [e] at hvx
      have hvx : a.eval x = .int k n := hvx
      simp at hb; subst hb
      exact Stepped.pure hH (u := .int k (k.wrap (-n))) (by simp [execOp, ho, hvx, Op.unary, Op.intArith]) rfl
    · rename_i k n e
      rw [e] at hvx
      have hvx : a.eval x = .int k n := hvx
      simp at hb; subst hb
      exact Stepped.pure hH (u := .int k (bitsA .xor k (if k.signed then -1 else k.max) n)) (by simp only [execOp, ho, hvx, Op.unary, Sem.run_bind]; rw [bits_run _ _ _ _ (by simp) w]; rfl) rfl
    · rename_i b e
      rw [e] at hvx
      have hvx : a.eval x = .bool b := hvx
      simp at hb; subst hb
      exact Stepped.pure hH (u := .bool (!b)) (by simp [execOp, ho, hvx, Op.unary]) rfl
    · cases hb

theorem st_convInt (hH : HR base ρ H w) (hF : FR ρ fr a.tmps) {s t : TypeId} {k k0 : IntKind} {x : Operand} {y : AOpd} (ho : o.op = .convert s t x) (hx : absOpd x = some y) (hs : P.underlying s = some (.int k0)) (ht : P.underlying t = some (.int k))
    (h : stepA fl H (·.ev fr) (.convInt k y) = some (v, H')) : Stepped P o a base ρ w v H' := by
  have hvx := absOpd_VR hF hx
  simp only [stepA] at h
  split at h
  · rename_i k' n e
    rw [e] at hvx
    have hvx : a.eval x = .int k' n := hvx
    simp at h
    obtain ⟨rfl, rfl⟩ := h
    exact Stepped.pure hH (u := .int k (k.wrap n)) (by simp [execOp, ho, hvx, convert, run_underlying hs, run_underlying ht, Conv.intToInt]) rfl
  · cases h

theorem st_convStr (hH : HR base ρ H w) (hF : FR ρ fr a.tmps) {s t : TypeId} {x : Operand} {y : AOpd} (ho : o.op = .convert s t x) (hx : absOpd x = some y) (hs : P.underlying s = some .string) (ht : P.underlying t = some .string)
    (h : stepA fl H (·.ev fr) (.convStr y) = some (v, H')) : Stepped P o a base ρ w v H' := by
  have hvx := absOpd_VR hF hx
  simp only [stepA] at h
  split at h
  · rename_i l e
    rw [e] at hvx
    have hvx : a.eval x = .string ⟨l.toArray⟩ := hvx
    simp at h
    obtain ⟨rfl, rfl⟩ := h
    exact Stepped.pure hH (u := .string ⟨l.toArray⟩) (by simp [execOp, ho, hvx, convert, run_underlying hs, run_underlying ht]) rfl
  · cases h

theorem freeze_new (w : World) (C : Array Value) (e : TypeId) (k : Nat) : (w.alloc (.cells C e)).freeze ⟨w.heap.size, k, none⟩ 1 = w.alloc (.cells C e (k, k + 1)) := by
  have hm : ∀ (a : Array Obj) (x : Obj) (f : Obj → Obj), (a.push x).modify a.size f = a.push (f x) := by
    intro a x f
    apply Array.ext
    · simp
    · intro i h1 h2
      simp only [Array.getElem_modify, Array.getElem_push]
      by_cases h : a.size = i
      · subst h; simp
      · have hi : i < a.size := by simp at h1; omega
        simp [h, hi]
  unfold World.freeze
  rw [if_neg (by decide)]
  show ({ w.alloc (.cells C e) with heap := (w.heap.push (.cells C e)).modify w.heap.size _ } : World) = _
  rw [hm]
  rfl

theorem cut_ge (need old : Nat) (e : TypeId) (t : Nat) : need ≤ (Question.appendCap need old e).cut t := by simp [Question.cut]

theorem st_strBytes (hH : HR base ρ H w) (hF : FR ρ fr a.tmps) {s t e : TypeId} {x : Operand} {y : AOpd} (ho : o.op = .convert s t x) (hx : absOpd x = some y) (hs : P.underlying s = some .string) (ht : P.underlying t = some (.slice e)) (he : P.underlying e = some (.int .u8))
    (h : stepA fl H (·.ev fr) (.strBytes y) = some (v, H')) : Stepped P o a base ρ w v H' := by
  have hvx := absOpd_VR hF hx
  simp only [stepA] at h
  split at h
  · rename_i l el
    rw [el] at hvx
    have hvx : a.eval x = .string ⟨l.toArray⟩ := hvx
    simp at h
    obtain ⟨rfl, rfl⟩ := h
    obtain ⟨k, hk⟩ : ∃ k, k = (Question.appendCap l.length 0 e).cut (w.tape w.drawn (.appendCap l.length 0 e)) := ⟨_, rfl⟩
    have hge : l.length ≤ k := by rw [hk]; exact cut_ge _ _ _ _
    obtain ⟨arr, harr⟩ : ∃ arr : Array Value, arr = (l.toArray.map fun b => Value.int .u8 b.toNat) ++ Array.replicate (k - l.length) (.int .u8 0) := ⟨_, rfl⟩
    have hsz : arr.size = k := by rw [harr]; simp; omega
    have hp := hH.drew.push (arr := arr) (ty := e) (fz := (k, k + 1)) (cs := l.map fun u => Cell.int .u8 u.toNat) (c := k) (fun o ho1 ho2 => by omega) (by omega) (by simpa using hge) (fun i z hz => by
      rw [List.getElem?_map] at hz
      cases hq : l[i]? with
      | none => rw [hq] at hz; cases hz
      | some q =>
        rw [hq] at hz; simp at hz; subst hz
        refine ⟨.int .u8 q.toNat, ?_, rfl⟩
        have hlt := (List.getElem?_eq_some_iff.1 hq).1
        rw [harr, Nat.zero_add, Array.getElem?_append_left (by simpa using hlt)]
        simp [hq])
    refine ⟨.slice (some ⟨w.heap.size, 0, none⟩) l.length k, w.drew.alloc (.cells arr e (k, k + 1)), ρ ++ [.at w.heap.size 0 k], .inl ?_, hp, RExt.push ρ _, slc_new ρ H hH.len _ _ _ _ _ hge (by omega), (Below.refl _ _).drew.alloc (by simpa using hH.base_le) _⟩
    simp only [execOp, ho, hvx, convert, Sem.run_bind, run_underlying hs, run_underlying ht, run_underlying he, Result.andThen_ok, Conv.stringToBytes, mk_size, run_choose, Question.forced]
    simp only [Bool.false_eq_true, if_false, Result.andThen_ok]
    rw [← hk, ← harr]
    simp only [newRow, Sem.run_bind, run_newObj, Result.andThen_ok, Sem.run_pure, markStringish, run_shape]
    have hsh : (w.drew.alloc (.cells arr e)).shape? w.drew.heap.size = some (e, k) := by
      have : (w.drew.alloc (.cells arr e)).heap[w.drew.heap.size]? = some (.cells arr e) := heap_alloc_new w.drew _
      unfold World.shape?
      rw [this]; simp [hsz]
    have hfr := freeze_new w.drew arr e k
    change (((Sem.run P (match (w.drew.alloc (.cells arr e)).shape? w.drew.heap.size with | some (_, n) => freeze { block := w.heap.size, off := n } 1 | x => pure ()) (w.drew.alloc (.cells arr e))).andThen _).andThen _) = _
    rw [hsh]
    simp only [run_freeze, Result.andThen_ok]
    change Result.ok _ ((w.drew.alloc (.cells arr e)).freeze ⟨w.drew.heap.size, k, none⟩ 1) = _
    rw [hfr]
  · cases h

theorem bytesOf_rel : ∀ {cs : List Cell} {l : List UInt8} {vs : List Value}, bytesOf cs = some l → L2 (CR ρ) cs vs → ∃ ns : List Int, vs = ns.map (Value.int .u8) ∧ l = ns.map fun n => UInt8.ofNat n.toNat
  | [], l, vs, h, hL => by
    simp [bytesOf] at h; subst h
    have : vs = [] := List.eq_nil_of_length_eq_zero hL.1.symm
    subst this; exact ⟨[], rfl, rfl⟩
  | c :: r, l, vs, h, hL => by
    simp only [bytesOf] at h
    split at h
    · rename_i u l' h1 h2
      have e : u :: l' = l := by simpa using h
      subst e
      cases vs with
      | nil => have := hL.1; simp at this
      | cons x vs =>
        obtain ⟨y, hy, hR⟩ := hL.2 0 c rfl
        simp at hy; subst hy
        have hL' : L2 (CR ρ) r vs := ⟨by have := hL.1; simpa using this, fun i z hz => by simpa using hL.2 (i + 1) z (by simpa using hz)⟩
        obtain ⟨ns, rfl, rfl⟩ := bytesOf_rel h2 hL'
        unfold byteOf at h1
        split at h1
        · rename_i n
          simp at h1; subst h1
          have hR : x = .int .u8 n := hR
          subst hR
          exact ⟨n :: ns, rfl, rfl⟩
        · cases h1
    · cases h

theorem fold_bytes (ns : List Int) : ∀ s : List UInt8, ns.foldl (fun (r : ByteArray) n => r.push (UInt8.ofNat n.toNat)) ⟨s.toArray⟩ = ⟨(s ++ ns.map fun n => UInt8.ofNat n.toNat).toArray⟩ := by
  induction ns with
  | nil => intro s; simp
  | cons n r ih =>
    intro s
    have e : (⟨s.toArray⟩ : ByteArray).push (UInt8.ofNat n.toNat) = ⟨(s ++ [UInt8.ofNat n.toNat]).toArray⟩ := by simp [ByteArray.push]
    simp only [List.foldl_cons, e, ih, List.map_cons, List.append_assoc, List.singleton_append]

theorem st_bytesStr (hH : HR base ρ H w) (hF : FR ρ fr a.tmps) {s t e : TypeId} {x : Operand} {y : AOpd} (ho : o.op = .convert s t x) (hx : absOpd x = some y) (hs : P.underlying s = some (.slice e)) (ht : P.underlying t = some .string) (he : P.underlying e = some (.int .u8))
    (h : stepA fl H (·.ev fr) (.bytesStr y) = some (v, H')) : Stepped P o a base ρ w v H' := by
  have hvx := absOpd_VR hF hx
  simp only [stepA] at h
  split at h
  · cases h
  · rename_i hns
    split at h
    · rename_i cs hcs
      cases hb : bytesOf cs with
      | none => rw [hb] at h; cases h
      | some l =>
        rw [hb] at h
        simp at h
        obtain ⟨rfl, rfl⟩ := h
        obtain ⟨vs, n, hL, hlen, _, hfc, _, hlenA⟩ := sliceCells_run (P := P) hH hvx hcs rfl (by omega)
        obtain ⟨ns, rfl, rfl⟩ := bytesOf_rel hb hL
        refine Stepped.pure hH (u := .string ⟨(ns.map fun (n : Int) => UInt8.ofNat n.toNat).toArray⟩) ?_ rfl
        have hsl : ∃ ad m k, a.eval x = .slice ad m k ∧ (m = n) := by
          have hfc' := hfc w (fun _ _ => rfl)
          cases hy : y.ev fr with
          | agg _ => rw [hy] at hlenA; cases hlenA
          | tup _ => rw [hy] at hlenA; cases hlenA
          | c q =>
            rw [hy] at hlenA hvx
            cases q <;> simp only [lenA] at hlenA <;> try (cases hlenA; done)
            · exact absurd hy (hns _)
            · have hvx : a.eval x = .slice none 0 0 := hvx
              simp at hlenA; exact ⟨_, _, _, hvx, hlenA⟩
            · rename_i b o' n' sz'
              simp at hlenA; subst hlenA
              rw [hy] at hcs
              simp only [sliceCells] at hcs
              split at hcs
              · simp only [readN] at hcs
                split at hcs
                · rename_i bs hbs
                  rcases hH.at_slc hbs hvx with ⟨g, f, c, k, _, hu, _⟩ | ⟨h0, ad, hu⟩
                  · exact ⟨_, _, _, hu, rfl⟩
                  · exact ⟨_, _, _, hu, h0.symm⟩
                · cases hcs
              · cases hcs
        obtain ⟨ad, m, k, hu, rfl⟩ := hsl
        simp only [execOp, ho, hu, Sem.run_bind, run_convert_bytes_string w s t e ad m k hs he ht]
        have hfc' := hfc w (fun _ _ => rfl)
        rw [hu] at hfc'
        cases ad with
        | none =>
          simp only [Builtin.firstCells, Sem.run_pure] at hfc'
          have : ns = [] := by
            have := congrArg (fun r => match r with | Result.ok (q : Array Value) _ => q.size | _ => 0) hfc'
            simp at this
            exact List.eq_nil_of_length_eq_zero this.symm
          subst this
          rfl
        | some ad =>
          have hload : (loadCells ad m).run P w = .ok (ns.map (Value.int .u8)).toArray w := by
            simpa [Builtin.firstCells] using hfc'
          rw [run_bytesToString w ad m k ns hload]
          have := fold_bytes ns []
          simp only [List.nil_append] at this
          rw [show (ByteArray.empty) = (⟨([] : List UInt8).toArray⟩ : ByteArray) from rfl, this]
          rfl
    · cases h

end steps
end PAbs
