/- Plain law: words written as bytes are what is taken back. -/
import Derived.Test.YtebccciodmlikaaL01l
namespace PK
open Go PAbs
set_option linter.unusedSimpArgs false
set_option linter.unusedVariables false
set_option maxRecDepth 100000

/-- a word, of which m bytes are put together -/
def part (k : Nat) (g : Nat → List Nat) (at_ : Nat → Nat) (w : Nat) : Nat → Nat
  | 0 => 0
  | m + 1 => part k g at_ w m ||| ((g w).getD m 0 * 2 ^ (8 * at_ m) % 2 ^ (8 * k))

theorem flat_get {k : Nat} {g : Nat → List Nat} (hk : 0 < k) (hg : ∀ w, (g w).length = k) (xs : List Nat) : ∀ n i, i < n * k → (flat g xs n).getD i 0 = (g (xs.getD (i / k) 0)).getD (i % k) 0
  | 0, i, h => by omega
  | n + 1, i, h => by
    simp only [flat, List.getD_eq_getElem?_getD, List.getElem?_append, flat_length hg]
    by_cases hi : i < n * k
    · rw [if_pos hi, ← List.getD_eq_getElem?_getD, flat_get hk hg xs n i hi, List.getD_eq_getElem?_getD, List.getD_eq_getElem?_getD]
    · rw [if_neg hi]
      have e1 : i = (i - n * k) + k * n := by rw [Nat.mul_comm k n]; omega
      have hlt : i - n * k < k := by rw [Nat.add_mul] at h; omega
      have e2 : i / k = n := by
        rw [e1, Nat.add_mul_div_left _ _ hk, Nat.div_eq_of_lt (by omega)]; omega
      have e3 : i % k = i - n * k := by
        conv => lhs; rw [e1]
        rw [Nat.add_mul_mod_self_left, Nat.mod_eq_of_lt (by omega)]
      rw [e2, e3]

theorem tk_part {k : Nat} {g : Nat → List Nat} {at_ : Nat → Nat} (hk : 0 < k) (hg : ∀ w, (g w).length = k) (xs : List Nat) : ∀ i, i ≤ xs.length * k → ∀ j, j < xs.length → (tk k at_ (flat g xs xs.length) i).getD j 0 = part k g at_ (xs.getD j 0) (min k (i - k * j))
  | 0, _, j, hj => by
    simp only [tk, Nat.zero_sub, Nat.min_zero, part, List.getD_eq_getElem?_getD, List.getElem?_replicate]
    split <;> rfl
  | i + 1, hi, j, hj => by
    have ih := tk_part (at_ := at_) hk hg xs i (by omega)
    have hl : (tk k at_ (flat g xs xs.length) i).length = xs.length := by rw [tk_length, flat_length hg, Nat.mul_div_cancel _ hk]
    have hd := Nat.div_add_mod i k
    have hm := Nat.mod_lt i hk
    simp only [tk, getD_set', hl]
    by_cases h : i / k = j
    · rw [if_pos ⟨h, by omega⟩, h, ih j hj, flat_get hk hg xs _ _ (by omega), h]
      rw [h] at hd
      have e1 : min k (i - k * j) = i % k := by omega
      have e2 : min k (i + 1 - k * j) = i % k + 1 := by omega
      rw [e1, e2]; rfl
    · rw [if_neg (fun hc => h hc.1), ih j hj]
      congr 1
      rcases Nat.lt_or_gt_of_ne h with h1 | h1
      · have : k * (i / k + 1) ≤ k * j := Nat.mul_le_mul_left _ h1
        rw [Nat.mul_add, Nat.mul_one] at this
        omega
      · have : k * (j + 1) ≤ k * (i / k) := Nat.mul_le_mul_left _ h1
        rw [Nat.mul_add, Nat.mul_one] at this
        omega

theorem part_le {k w : Nat} : ∀ m, m ≤ k → part k (leB k) id w m = w % 256 ^ m
  | 0, _ => by simp [part, Nat.mod_one]
  | m + 1, h => by
    have g : (leB k w).getD m 0 = w / 256 ^ m % 256 := by simp [leB, show m < k by omega]
    have hlt : w / 256 ^ m % 256 < 2 ^ 8 := Nat.mod_lt _ (by omega)
    have hp : w / 256 ^ m % 256 * 2 ^ (8 * m) < 2 ^ (8 * k) := by
      calc w / 256 ^ m % 256 * 2 ^ (8 * m) < 2 ^ 8 * 2 ^ (8 * m) := Nat.mul_lt_mul_of_pos_right hlt (Nat.two_pow_pos _)
        _ = 2 ^ (8 * (m + 1)) := by rw [← Nat.pow_add]; congr 1; omega
        _ ≤ 2 ^ (8 * k) := Nat.pow_le_pow_right (by omega) (by omega)
    have hb : w % 256 ^ m < 2 ^ (8 * m) := by rw [pow8]; exact Nat.mod_lt _ (Nat.pow_pos (by omega))
    have ih := part_le (k := k) (w := w) m (by omega)
    simp only [part, ih, g, id]
    rw [Nat.mod_eq_of_lt hp, Nat.or_comm, ← Nat.shiftLeft_eq, ← Nat.shiftLeft_add_eq_or_of_lt hb, Nat.shiftLeft_eq, pow8, Nat.pow_succ, Nat.mod_mul, Nat.add_comm, Nat.mul_comm]

theorem orAdd {i n a : Nat} (hn : 2 ^ i = n) (ha : a < n) (w : Nat) : w * n + a = w * n ||| a := by
  subst hn
  have := Nat.shiftLeft_add_eq_or_of_lt ha w
  rw [Nat.shiftLeft_eq] at this; exact this
theorem part_be {w : Nat} (hw : w < 4294967296) : part 4 (beB 4) (3 - ·) w 4 = w := by
  have g : beB 4 w = [w / 16777216 % 256, w / 65536 % 256, w / 256 % 256, w % 256] := by
    simp only [beB, leB, show List.range 4 = [0, 1, 2, 3] from rfl, List.map_cons, List.map_nil, Nat.pow_zero, Nat.div_one, show 256 ^ 1 = 256 from rfl, show 256 ^ 2 = 65536 from rfl, show 256 ^ 3 = 16777216 from rfl]; rfl
  simp only [part, g, List.getD_cons_zero, List.getD_cons_succ, Nat.zero_or]
  simp only [show 3 - 0 = 3 from rfl, show 3 - 1 = 2 from rfl, show 3 - 2 = 1 from rfl, show 3 - 3 = 0 from rfl, show 2 ^ (8 * 3) = 16777216 from rfl, show 2 ^ (8 * 2) = 65536 from rfl, show 2 ^ (8 * 1) = 256 from rfl, show 2 ^ (8 * 0) = 1 from rfl, show 2 ^ (8 * 4) = 4294967296 from rfl]
  have o1 := orAdd (i := 24) (n := 16777216) (by decide) (show w / 65536 % 256 * 65536 % 4294967296 < 16777216 by omega) (w / 16777216)
  have o2 := orAdd (i := 16) (n := 65536) (by decide) (show w / 256 % 256 * 256 % 4294967296 < 65536 by omega) (w / 65536)
  have o3 := orAdd (i := 8) (n := 256) (by decide) (show w % 256 * 1 % 4294967296 < 256 by omega) (w / 256)
  have e0 : w / 16777216 % 256 * 16777216 % 4294967296 = w / 16777216 * 16777216 := by omega
  rw [e0, ← o1]
  have e1 : w / 16777216 * 16777216 + w / 65536 % 256 * 65536 % 4294967296 = w / 65536 * 65536 := by
    rw [show w / 16777216 = w / 65536 / 256 by rw [Nat.div_div_eq_div_mul]]
    have hq : w / 65536 < 65536 := by omega
    clear o1 o2 o3 e0
    generalize w / 65536 = q at *
    rw [Nat.mod_eq_of_lt (show q % 256 * 65536 < 4294967296 by omega)]; omega
  rw [e1, ← o2]
  have e2 : w / 65536 * 65536 + w / 256 % 256 * 256 % 4294967296 = w / 256 * 256 := by
    rw [show w / 65536 = w / 256 / 256 by rw [Nat.div_div_eq_div_mul]]
    have hq : w / 256 < 16777216 := by omega
    clear o1 o2 o3 e0 e1
    generalize w / 256 = q at *
    rw [Nat.mod_eq_of_lt (show q % 256 * 256 < 4294967296 by omega)]; omega
  rw [e2, ← o3]
  omega

theorem back_of {k : Nat} {g : Nat → List Nat} {at_ : Nat → Nat} (hk : 0 < k) (hg : ∀ w, (g w).length = k) (xs : List Nat) (hp : ∀ j, part k g at_ (xs.getD j 0) k = xs.getD j 0) : tk k at_ (flat g xs xs.length) (flat g xs xs.length).length = xs := by
  have hl := flat_length hg xs xs.length
  have hlen : (tk k at_ (flat g xs xs.length) (flat g xs xs.length).length).length = xs.length := by rw [tk_length, hl, Nat.mul_div_cancel _ hk]
  apply List.ext_getElem hlen
  intro j h1 h2
  have h := tk_part (at_ := at_) hk hg xs (flat g xs xs.length).length (by rw [hl]; exact Nat.le_refl _) j h2
  have e : min k ((flat g xs xs.length).length - k * j) = k := by
    rw [hl]
    have : k * (j + 1) ≤ k * xs.length := Nat.mul_le_mul_left _ h2
    rw [Nat.mul_add, Nat.mul_one, Nat.mul_comm k xs.length] at this
    omega
  rw [e, hp j] at h
  have g1 : (tk k at_ (flat g xs xs.length) (flat g xs xs.length).length).getD j 0 = (tk k at_ (flat g xs xs.length) (flat g xs xs.length).length)[j] := by simp only [List.getD_eq_getElem?_getD, List.getElem?_eq_getElem h1, Option.getD_some]
  have g2 : xs.getD j 0 = xs[j] := by simp [h2]
  rw [← g1, ← g2, h]

theorem back_le32 (xs : List Nat) (hw : ∀ j, xs.getD j 0 < 4294967296) : tk 4 id (flat (leB 4) xs xs.length) (flat (leB 4) xs xs.length).length = xs :=
  back_of (by omega) (leB_length 4) xs fun j => by rw [part_le 4 (Nat.le_refl _)]; exact Nat.mod_eq_of_lt (hw j)
theorem back_be32 (xs : List Nat) (hw : ∀ j, xs.getD j 0 < 4294967296) : tk 4 (3 - ·) (flat (beB 4) xs xs.length) (flat (beB 4) xs xs.length).length = xs :=
  back_of (by omega) (beB_length 4) xs fun j => part_be (hw j)
theorem back_le64 (xs : List Nat) (hw : ∀ j, xs.getD j 0 < 18446744073709551616) : tk 8 id (flat (leB 8) xs xs.length) (flat (leB 8) xs xs.length).length = xs :=
  back_of (by omega) (leB_length 8) xs fun j => by rw [part_le 8 (Nat.le_refl _)]; exact Nat.mod_eq_of_lt (hw j)
end PK
