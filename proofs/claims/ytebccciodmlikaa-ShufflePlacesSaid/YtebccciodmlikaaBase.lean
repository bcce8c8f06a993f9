/- Lists of cells: bytes, words; a list changed place by place; stores; bits. -/
import Derived.Test.YtebccciodmlikaaGo
namespace PAbs
open Go
set_option linter.unusedSimpArgs false
set_option linter.unusedVariables false

/-- the cells of letters -/
def B8 (s : List UInt8) : List Cell := s.map fun u => .int .u8 u.toNat
theorem B8_length {s : List UInt8} : (B8 s).length = s.length := by simp [B8]
theorem B8_append {s t : List UInt8} : B8 (s ++ t) = B8 s ++ B8 t := by simp [B8]
theorem B8_get {s : List UInt8} {i : Nat} {u : UInt8} (h : s[i]? = some u) : (B8 s)[i]? = some (.int .u8 (u.toNat : Int)) := by simp [B8, h]
theorem B8_set {s : List UInt8} {i : Nat} {u : UInt8} : (B8 s).set i (.int .u8 (u.toNat : Int)) = B8 (s.set i u) := by simp [B8, List.map_set]
theorem bytesOf_B8 : ∀ s : List UInt8, bytesOf (B8 s) = some s
  | [] => rfl
  | u :: s => by
    have := bytesOf_B8 s
    simp only [B8, List.map_cons, bytesOf, byteOf] at this ⊢
    rw [this]; simp
theorem B8_of_str (s : List UInt8) : (s.map fun u => Cell.int .u8 (u.toNat : Int)) = B8 s := rfl

/-- a list whose first k places are new -/
def upd {α : Type} (f : Nat → α) (l : List α) : Nat → List α
  | 0 => l
  | k + 1 => (upd f l k).set k (f k)
theorem upd_length {α : Type} {f : Nat → α} {l : List α} : ∀ k, (upd f l k).length = l.length
  | 0 => rfl
  | k + 1 => by simp [upd, upd_length k]
theorem upd_get {α : Type} {f : Nat → α} {l : List α} : ∀ k j, j < l.length → (upd f l k)[j]? = if j < k then some (f j) else l[j]?
  | 0, j, h => by simp [upd]
  | k + 1, j, h => by
    simp only [upd, List.getElem?_set, upd_length]
    by_cases hk : k = j
    · subst hk; rw [if_pos rfl, if_pos h, if_pos (by omega)]
    · rw [if_neg hk, upd_get k j h]
      by_cases hj : j < k
      · rw [if_pos hj, if_pos (by omega)]
      · rw [if_neg hj, if_neg (by omega)]
theorem upd_self {α : Type} {f : Nat → α} {l : List α} (k : Nat) (h : k < l.length) : (upd f l k)[k]? = l[k]? := by rw [upd_get k k h, if_neg (by omega)]
theorem upd_eq {α : Type} {f : Nat → α} {l m : List α} (hl : l.length = m.length) (h : ∀ j, j < m.length → m[j]? = some (f j)) : upd f l m.length = m := by
  apply List.ext_getElem?
  intro j
  rcases Nat.lt_or_ge j m.length with hj | hj
  · rw [upd_get _ j (by omega), if_pos hj, h j hj]
  · rw [List.getElem?_eq_none (by rw [upd_length]; omega), List.getElem?_eq_none hj]

theorem Kept.setB {f b : Nat} {H : AHeap} {y : Blk} (h : f ≤ b) : Kept f H (H.set b y) := ⟨by simp, fun c hc _ => by rw [List.getElem?_set, if_neg (by omega)]⟩

/-- bytes as a text -/
def bsX (H : AHeap) (y : AV) : Option (AV × AHeap) :=
  match y with
  | .c (.str _) => none
  | v => match sliceCells H 1 v with | some cs => (bytesOf cs).map fun l => (.c (.str l), H) | none => none
theorem exec_bsX {call : ACall} {fl : Nat} {fr : AFrame} {H : AHeap} {o : AOpd} : execA call fl fr H (.bytesStr o) = bsX H (o.ev fr) := by simp only [execA, stepA, bsX]; rfl
theorem bsX_rd {H : AHeap} {x : Cell} {s : List UInt8} (h : Rd H x 1 (B8 s)) : bsX H (.c x) = some (.c (.str s), H) := by
  have hc := h.cells
  rcases h with ⟨rfl, h2⟩ | ⟨s', o, n, rfl, h2, h3⟩
  · simp only [bsX, hc, bytesOf_B8]; rfl
  · simp only [bsX, hc, bytesOf_B8]; rfl

/-- append to nothing -/
def appNil (H : AHeap) (z bytes : Nat) (y : AV) : Option (AV × AHeap) :=
  match sliceCells H z y with
  | some news => if news.length * bytes ≤ 140737488355328 then some (.c (.slc H.length 0 (news.length / z) z), H ++ [.own news]) else none
  | none => none
theorem exec_appNil {call : ACall} {fl bytes : Nat} {fr : AFrame} {H : AHeap} {zero : List Cell} {o : AOpd} : execA call fl fr H (.append zero bytes (.k (.c .snil)) o) = appNil H zero.length bytes (o.ev fr) := by
  simp only [execA, stepA, appendA, appNil]
  generalize o.ev fr = y
  cases sliceCells H zero.length y <;> rfl
theorem appNil_one {H : AHeap} {bytes n : Nat} {y : AV} {news : List Cell} (h : sliceCells H 1 y = some news) (hn : news.length = n) (hb : n * bytes ≤ 140737488355328) : appNil H 1 bytes y = some (.c (.slc H.length 0 n 1), H ++ [.own news]) := by
  subst hn; simp only [appNil, h, if_pos hb, Nat.div_one]

/-- a store of one cell -/
def storeX (fl : Nat) (H : AHeap) (a x : AV) : Option (AV × AHeap) :=
  match a, x.cells with
  | .c (.ptr b o), some vs => if vs.length = 1 then (writeN fl H b o vs).map fun H' => (aundef, H') else none
  | _, _ => none
theorem exec_storeX {call : ACall} {fl : Nat} {fr : AFrame} {H : AHeap} {a x : AOpd} : execA call fl fr H (.store 1 a x) = storeX fl H (a.ev fr) (x.ev fr) := by
  simp only [execA, stepA, storeX]; rfl
theorem storeX_own {fl : Nat} {H : AHeap} {b o : Nat} {cs : List Cell} {v : Cell} (hb : hown H b = some cs) (hf : fl ≤ b) (ho : o < cs.length) : storeX fl H (.c (.ptr b o)) (.c v) = some (aundef, H.set b (.own (cs.set o v))) := by
  have e : cs.set o v = cs.take o ++ [v] ++ cs.drop (o + 1) := by rw [List.set_eq_take_append_cons_drop, if_pos ho]; simp
  simp only [storeX, AV.cells, writeN, hb, List.length_cons, List.length_nil, Nat.zero_add, if_true]
  rw [if_pos ⟨hf, by omega⟩, e]; rfl
/-- a store of several cells -/
def storeN (n fl : Nat) (H : AHeap) (a x : AV) : Option (AV × AHeap) :=
  match a, x.cells with
  | .c (.ptr b o), some vs => if vs.length = n then (writeN fl H b o vs).map fun H' => (aundef, H') else none
  | _, _ => none
theorem exec_storeN {call : ACall} {fl n : Nat} {fr : AFrame} {H : AHeap} {a x : AOpd} : execA call fl fr H (.store n a x) = storeN n fl H (a.ev fr) (x.ev fr) := by
  simp only [execA, stepA, storeN]; rfl
theorem storeN_all {n fl : Nat} {H : AHeap} {b : Nat} {cs vs : List Cell} (hb : hown H b = some cs) (hf : fl ≤ b) (hc : cs.length = n) (hv : vs.length = n) : storeN n fl H (.c (.ptr b 0)) (.agg vs) = some (aundef, H.set b (.own vs)) := by
  simp only [storeN, AV.cells, writeN, hb, hv, if_true]
  rw [if_pos ⟨hf, by omega⟩, List.drop_eq_nil_of_le (by omega)]; simp

theorem Rd.full {H : AHeap} {u o n sz : Nat} {cs : List Cell} (h : Rd H (.slc u o n sz) sz cs) : ∃ full, hcells H u = some full ∧ cs.length = n * sz ∧ o + n * sz ≤ full.length ∧ cs = (full.drop o).take (n * sz) := by
  rcases h with ⟨h, _⟩ | ⟨s, o', n', e, h2, h3⟩
  · cases h
  · cases e
    simp only [readN] at h3
    cases hc : hcells H u with
    | none => rw [hc] at h3; cases h3
    | some l =>
      rw [hc] at h3
      simp only at h3
      split at h3
      · exact ⟨l, rfl, h2, by assumption, (Option.some.inj h3).symm⟩
      · cases h3
theorem Rd.of_full {H : AHeap} {u o n sz : Nat} {full cs : List Cell} (hc : hcells H u = some full) (hl : o + n * sz ≤ full.length) (he : cs = (full.drop o).take (n * sz)) : Rd H (.slc u o n sz) sz cs := by
  refine .inr ⟨u, o, n, rfl, ?_, ?_⟩
  · rw [he, List.length_take, List.length_drop]; omega
  · simp only [readN, hc, he]; rw [if_pos hl]
/-- a part of a slice -/
theorem Rd.sub {H : AHeap} {u o n sz i j : Nat} {cs : List Cell} (h : Rd H (.slc u o n sz) sz cs) (hij : i ≤ j) (hj : j ≤ n) : Rd H (.slc u (o + i * sz) (j - i) sz) sz ((cs.drop (i * sz)).take ((j - i) * sz)) := by
  obtain ⟨full, hc, hl, ho, he⟩ := h.full
  have h1 : j * sz ≤ n * sz := Nat.mul_le_mul_right _ hj
  have h2 : (j - i) * sz + i * sz = j * sz := by rw [← Nat.add_mul]; congr 1; omega
  refine Rd.of_full hc (by omega) ?_
  rw [he, List.drop_take, List.take_take, List.drop_drop]
  congr 1; omega

theorem xor_of {k : IntKind} (hs : k.signed = false) {a b : Nat} (ha : a < 2 ^ k.bits) (hb : b < 2 ^ k.bits) : bitsA .xor k (a : Int) (b : Int) = ((a ^^^ b : Nat) : Int) := by
  have h : a ^^^ b < 2 ^ k.bits := Nat.xor_lt_two_pow ha hb
  simp only [bitsA, IntKind.wrap, hs, Bool.false_and, Bool.false_eq_true, if_false, BitVec.ofInt_natCast, BitVec.toNat_xor, BitVec.toNat_ofNat, Nat.mod_eq_of_lt ha, Nat.mod_eq_of_lt hb]
  have : ((2 : Int) ^ k.bits) = ((2 ^ k.bits : Nat) : Int) := by simp
  rw [this, ← Int.natCast_emod, Nat.mod_eq_of_lt h]
theorem and_of {k : IntKind} (hs : k.signed = false) {a b : Nat} (ha : a < 2 ^ k.bits) (hb : b < 2 ^ k.bits) : bitsA .and k (a : Int) (b : Int) = ((a &&& b : Nat) : Int) := by
  have h : a &&& b < 2 ^ k.bits := Nat.and_lt_two_pow _ hb
  simp only [bitsA, IntKind.wrap, hs, Bool.false_and, Bool.false_eq_true, if_false, BitVec.ofInt_natCast, BitVec.toNat_and, BitVec.toNat_ofNat, Nat.mod_eq_of_lt ha, Nat.mod_eq_of_lt hb]
  have : ((2 : Int) ^ k.bits) = ((2 ^ k.bits : Nat) : Int) := by simp
  rw [this, ← Int.natCast_emod, Nat.mod_eq_of_lt h]
theorem xor_byte (a b : UInt8) : bitsA .xor .u8 (a.toNat : Int) (b.toNat : Int) = (((a ^^^ b : UInt8)).toNat : Int) := by
  rw [xor_of rfl a.toNat_lt b.toNat_lt, UInt8.toNat_xor]

theorem tmod_nat {a b : Nat} : Int.tmod (a : Int) (b : Int) = ((a % b : Nat) : Int) := by rw [← Int.ofNat_tmod]
theorem tdiv_nat {a b : Nat} : Int.tdiv (a : Int) (b : Int) = ((a / b : Nat) : Int) := by rw [← Int.ofNat_tdiv]
end PAbs
