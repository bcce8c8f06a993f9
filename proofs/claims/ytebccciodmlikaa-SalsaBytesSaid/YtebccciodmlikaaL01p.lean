/- Plain law: words taken byte by byte are the document's. -/
import Derived.Test.YtebccciodmlikaaL01o
namespace PK
open Go PAbs
set_option linter.unusedSimpArgs false
set_option linter.unusedVariables false
set_option maxRecDepth 100000

def partB (k : Nat) (at_ : Nat → Nat) (bs : List Nat) (p : Nat) : Nat → Nat
  | 0 => 0
  | m + 1 => partB k at_ bs p m ||| (bs.getD (p + m) 0 * 2 ^ (8 * at_ m) % 2 ^ (8 * k))
def lowv (bs : List Nat) (p : Nat) : Nat → Nat
  | 0 => 0
  | m + 1 => lowv bs p m + bs.getD (p + m) 0 * 256 ^ m
theorem lowv_lt {bs : List Nat} (h : ∀ k, bs.getD k 0 < 256) (p : Nat) : ∀ m, lowv bs p m < 256 ^ m
  | 0 => by simp [lowv]
  | m + 1 => by
    have h1 := lowv_lt h p m
    have h2 : bs.getD (p + m) 0 * 256 ^ m ≤ 255 * 256 ^ m := Nat.mul_le_mul_right _ (by have := h (p + m); omega)
    simp only [lowv, Nat.pow_succ]; omega

theorem tk_partB {k : Nat} {at_ : Nat → Nat} (hk : 0 < k) (bs : List Nat) (n : Nat) (hn : bs.length / k = n) : ∀ i, i ≤ n * k → ∀ j, j < n → (tk k at_ bs i).getD j 0 = partB k at_ bs (k * j) (min k (i - k * j))
  | 0, _, j, hj => by
    simp only [tk, Nat.zero_sub, Nat.min_zero, partB, List.getD_eq_getElem?_getD, List.getElem?_replicate]
    split <;> rfl
  | i + 1, hi, j, hj => by
    have ih := tk_partB (at_ := at_) hk bs n hn i (by omega)
    have hl : (tk k at_ bs i).length = n := by rw [tk_length, hn]
    have hd := Nat.div_add_mod i k
    have hm := Nat.mod_lt i hk
    simp only [tk, getD_set', hl]
    by_cases h : i / k = j
    · rw [if_pos ⟨h, by omega⟩, h, ih j hj]
      rw [h] at hd
      have e1 : min k (i - k * j) = i % k := by omega
      have e2 : min k (i + 1 - k * j) = i % k + 1 := by omega
      rw [e1, e2]; simp only [partB, hd]
    · rw [if_neg (fun hc => h hc.1), ih j hj]
      congr 1
      rcases Nat.lt_or_gt_of_ne h with h1 | h1
      · have : k * (i / k + 1) ≤ k * j := Nat.mul_le_mul_left _ h1
        rw [Nat.mul_add, Nat.mul_one] at this
        omega
      · have : k * (j + 1) ≤ k * (i / k) := Nat.mul_le_mul_left _ h1
        rw [Nat.mul_add, Nat.mul_one] at this
        omega

theorem partB_le {k : Nat} {bs : List Nat} (hb : ∀ k, bs.getD k 0 < 256) (p : Nat) : ∀ m, m ≤ k → partB k id bs p m = lowv bs p m
  | 0, _ => rfl
  | m + 1, h => by
    have ih := partB_le (k := k) hb p m (by omega)
    have hlt : bs.getD (p + m) 0 < 2 ^ 8 := hb _
    have hp : bs.getD (p + m) 0 * 2 ^ (8 * m) < 2 ^ (8 * k) := by
      calc bs.getD (p + m) 0 * 2 ^ (8 * m) < 2 ^ 8 * 2 ^ (8 * m) := Nat.mul_lt_mul_of_pos_right hlt (Nat.two_pow_pos _)
        _ = 2 ^ (8 * (m + 1)) := by rw [← Nat.pow_add]; congr 1; omega
        _ ≤ 2 ^ (8 * k) := Nat.pow_le_pow_right (by omega) (by omega)
    have hv : lowv bs p m < 2 ^ (8 * m) := by rw [pow8]; exact lowv_lt hb p m
    simp only [partB, ih, id, lowv]
    rw [Nat.mod_eq_of_lt hp, Nat.or_comm, ← Nat.shiftLeft_eq, ← Nat.shiftLeft_add_eq_or_of_lt hv, Nat.shiftLeft_eq, pow8, Nat.add_comm]

theorem lowv_topv (bs : List Nat) (p each : Nat) : ∀ j, j ≤ each → lowv bs p each = lowv bs p (each - j) + 256 ^ (each - j) * topv bs p each j
  | 0, _ => by simp [topv]
  | j + 1, h => by
    have ih := lowv_topv bs p each j (by omega)
    have e : each - j = (each - (j + 1)) + 1 := by omega
    rw [ih, e]
    simp only [lowv, topv, Nat.pow_succ, show each - 1 - j = each - (j + 1) by omega, Nat.mul_add]
    rw [Nat.mul_comm (bs.getD _ 0), Nat.mul_assoc]; omega
theorem low_top (bs : List Nat) (p each : Nat) : lowv bs p each = topv bs p each each := by
  have := lowv_topv bs p each each (Nat.le_refl _)
  simpa [lowv] using this

theorem wordsL_get (bs : List Nat) (each : Nat) : ∀ n j, j < n → (wordsL bs each n).getD j 0 = topv bs (j * each) each each
  | 0, j, h => by omega
  | n + 1, j, h => by
    simp only [wordsL, List.getD_eq_getElem?_getD, List.getElem?_append, wordsL_length]
    by_cases hj : j < n
    · rw [if_pos hj, ← List.getD_eq_getElem?_getD, wordsL_get bs each n j hj]
    · obtain rfl : j = n := by omega
      simp

/-- low byte first: the document's words -/
theorem tk_words {k : Nat} (hk : 0 < k) (bs : List Nat) (hb : ∀ k, bs.getD k 0 < 256) (h0 : bs.length % k = 0) : tk k id bs bs.length = wordsL bs k (bs.length / k) := by
  have hn : bs.length = bs.length / k * k := by have := Nat.div_add_mod bs.length k; rw [h0, Nat.add_zero, Nat.mul_comm] at this; exact this.symm
  apply List.ext_getElem (by rw [tk_length, wordsL_length])
  intro j h1 h2
  have hj : j < bs.length / k := by rw [tk_length] at h1; exact h1
  have h := tk_partB (at_ := id) hk bs _ rfl bs.length (by omega) j hj
  have e : min k (bs.length - k * j) = k := by
    have : k * (j + 1) ≤ k * (bs.length / k) := Nat.mul_le_mul_left _ hj
    rw [Nat.mul_add, Nat.mul_one, Nat.mul_comm k (bs.length / k)] at this
    omega
  rw [e, partB_le hb _ k (Nat.le_refl _), low_top] at h
  have hw := wordsL_get bs k _ j hj
  rw [Nat.mul_comm j k, ← h] at hw
  simpa [List.getD_eq_getElem?_getD, h1, h2] using hw.symm

theorem chunk_get (bs : List Nat) (p each : Nat) : ∀ j q, q < j → (chunk bs p each j).getD q 0 = bs.getD (p + (each - 1 - q)) 0
  | 0, q, h => by omega
  | j + 1, q, h => by
    simp only [chunk, List.getD_eq_getElem?_getD, List.getElem?_append, chunk_length]
    by_cases hq : q < j
    · rw [if_pos hq, ← List.getD_eq_getElem?_getD, chunk_get bs p each j q hq, List.getD_eq_getElem?_getD]
    · obtain rfl : q = j := by omega
      simp
theorem swap_get {k : Nat} (hk : 0 < k) (bs : List Nat) : ∀ n j q, j < n → q < k → (swap bs k n).getD (k * j + q) 0 = bs.getD (k * j + (k - 1 - q)) 0
  | 0, j, q, h, _ => by omega
  | n + 1, j, q, h, hq => by
    simp only [swap, List.getD_eq_getElem?_getD, List.getElem?_append, swap_length]
    by_cases hj : j < n
    · have : k * (j + 1) ≤ k * n := Nat.mul_le_mul_left _ hj
      rw [Nat.mul_add, Nat.mul_one, Nat.mul_comm k n] at this
      rw [if_pos (by omega), ← List.getD_eq_getElem?_getD, swap_get hk bs n j q hj hq, List.getD_eq_getElem?_getD]
    · obtain rfl : j = n := by omega
      have e : k * j + q - j * k = q := by rw [Nat.mul_comm k j]; omega
      rw [if_neg (by rw [Nat.mul_comm k j]; omega), e, ← List.getD_eq_getElem?_getD, chunk_get bs _ k k q hq, List.getD_eq_getElem?_getD, Nat.mul_comm j k]

theorem partB_be {bs : List Nat} (hb : ∀ k, bs.getD k 0 < 256) (p : Nat) : partB 4 (3 - ·) bs p 4 = bs.getD (p + 3) 0 + bs.getD (p + 2) 0 * 256 + bs.getD (p + 1) 0 * 65536 + bs.getD p 0 * 16777216 := by
  have h0 := hb p
  have h1 := hb (p + 1)
  have h2 := hb (p + 2)
  have h3 := hb (p + 3)
  simp only [partB, Nat.zero_or, Nat.add_zero]
  generalize bs.getD p 0 = b0 at *
  generalize bs.getD (p + 1) 0 = b1 at *
  generalize bs.getD (p + 2) 0 = b2 at *
  generalize bs.getD (p + 3) 0 = b3 at *
  simp only [show 3 - 0 = 3 from rfl, show 3 - 1 = 2 from rfl, show 3 - 2 = 1 from rfl, show 3 - 3 = 0 from rfl, show 2 ^ (8 * 3) = 16777216 from rfl, show 2 ^ (8 * 2) = 65536 from rfl, show 2 ^ (8 * 1) = 256 from rfl, show 2 ^ (8 * 0) = 1 from rfl, show 2 ^ (8 * 4) = 4294967296 from rfl]
  rw [Nat.mod_eq_of_lt (show b0 * 16777216 < 4294967296 by omega), Nat.mod_eq_of_lt (show b1 * 65536 < 4294967296 by omega), Nat.mod_eq_of_lt (show b2 * 256 < 4294967296 by omega), Nat.mod_eq_of_lt (show b3 * 1 < 4294967296 by omega)]
  rw [← orAdd (i := 24) (n := 16777216) (by decide) (show b1 * 65536 < 16777216 by omega) b0]
  have e1 : b0 * 16777216 + b1 * 65536 = (b0 * 256 + b1) * 65536 := by omega
  rw [e1, ← orAdd (i := 16) (n := 65536) (by decide) (show b2 * 256 < 65536 by omega)]
  have e2 : (b0 * 256 + b1) * 65536 + b2 * 256 = (b0 * 65536 + b1 * 256 + b2) * 256 := by
    rw [Nat.add_mul, Nat.add_mul, Nat.add_mul, Nat.mul_assoc, Nat.mul_assoc, Nat.mul_assoc]
  rw [e2, ← orAdd (i := 8) (n := 256) (by decide) (show b3 * 1 < 256 by omega)]
  omega

/-- high byte first: the document's words of the swapped bytes -/
theorem tk_swapped (bs : List Nat) (hb : ∀ k, bs.getD k 0 < 256) (h0 : bs.length % 4 = 0) : tk 4 (3 - ·) bs bs.length = wordsL (swap bs 4 (bs.length / 4)) 4 (bs.length / 4) := by
  apply List.ext_getElem (by rw [tk_length, wordsL_length])
  intro j h1 h2
  have hj : j < bs.length / 4 := by rw [tk_length] at h1; exact h1
  have h := tk_partB (at_ := (3 - ·)) (by omega : 0 < 4) bs _ rfl bs.length (by omega) j hj
  have e : min 4 (bs.length - 4 * j) = 4 := by omega
  rw [e, partB_be hb] at h
  have hw := wordsL_get (swap bs 4 (bs.length / 4)) 4 _ j hj
  rw [← low_top, Nat.mul_comm j 4] at hw
  have s0 := swap_get (by omega : 0 < 4) bs _ j 0 hj (by omega)
  have s1 := swap_get (by omega : 0 < 4) bs _ j 1 hj (by omega)
  have s2 := swap_get (by omega : 0 < 4) bs _ j 2 hj (by omega)
  have s3 := swap_get (by omega : 0 < 4) bs _ j 3 hj (by omega)
  simp only [lowv, s0, s1, s2, s3, Nat.zero_add] at hw
  have hh : (wordsL (swap bs 4 (bs.length / 4)) 4 (bs.length / 4)).getD j 0 = (tk 4 (3 - ·) bs bs.length).getD j 0 := by
    rw [hw, h]; simp only [show 4 - 1 - 0 = 3 from rfl, show 4 - 1 - 1 = 2 from rfl, show 4 - 1 - 2 = 1 from rfl, show 4 - 1 - 3 = 0 from rfl, Nat.add_zero]; omega
  simpa [List.getD_eq_getElem?_getD, h1, h2] using hh.symm
end PK
