/- Plain arithmetic of turned words. -/
import Derived.Test.YtebccciodmlikaaWp
namespace PAbs
open Go
set_option linter.unusedSimpArgs false
set_option linter.unusedVariables false

theorem wrap_u8 (n : Int) : IntKind.u8.wrap n = n % 256 := rfl
theorem wrap_u32 (n : Int) : IntKind.u32.wrap n = n % 4294967296 := rfl
theorem wrap_u64 (n : Int) : IntKind.u64.wrap n = n % 18446744073709551616 := rfl
theorem wrap_i64_of {n : Int} (h : -9223372036854775808 ≤ n) (h' : n < 9223372036854775808) : IntKind.i64.wrap n = n := by
  show (if (true && decide (n % (2 ^ 64 : Int) ≥ (2 ^ 63 : Int))) = true then n % (2 ^ 64 : Int) - (2 ^ 64 : Int) else n % (2 ^ 64 : Int)) = n
  simp only [Bool.true_and, decide_eq_true_eq]
  split <;> omega

/-- a word of W bits turned to the left, to the right -/
def rl (W k x : Nat) : Nat := x * 2 ^ k % 2 ^ W + x / 2 ^ (W - k)
def rr (W k x : Nat) : Nat := x / 2 ^ k + x * 2 ^ (W - k) % 2 ^ W

theorem pow_split {W k : Nat} (h : k ≤ W) : 2 ^ W = 2 ^ (W - k) * 2 ^ k := by rw [← Nat.pow_add]; congr 1; omega

theorem mul_mod_pow {W k : Nat} (h : k ≤ W) (x : Nat) : x * 2 ^ k % 2 ^ W = x % 2 ^ (W - k) * 2 ^ k := by rw [pow_split h, Nat.mul_mod_mul_right]

theorem rl_eq {W k : Nat} (h : k ≤ W) (x : Nat) : rl W k x = x % 2 ^ (W - k) * 2 ^ k + x / 2 ^ (W - k) := by simp only [rl, mul_mod_pow h]
theorem rr_eq {W k : Nat} (h : k ≤ W) (x : Nat) : rr W k x = x / 2 ^ k + x % 2 ^ k * 2 ^ (W - k) := by
  have e : W - (W - k) = k := by omega
  simp only [rr, mul_mod_pow (Nat.sub_le W k), e]

theorem div_lt_pow {W k x : Nat} (h : k ≤ W) (hx : x < 2 ^ W) : x / 2 ^ (W - k) < 2 ^ k := by
  rw [Nat.div_lt_iff_lt_mul (Nat.two_pow_pos _), Nat.mul_comm, ← pow_split h]; exact hx
theorem div_lt_pow' {W k x : Nat} (h : k ≤ W) (hx : x < 2 ^ W) : x / 2 ^ k < 2 ^ (W - k) := by
  rw [Nat.div_lt_iff_lt_mul (Nat.two_pow_pos _), ← pow_split h]; exact hx

theorem rl_or {W k x : Nat} (h : k ≤ W) (hx : x < 2 ^ W) : x * 2 ^ k % 2 ^ W ||| x / 2 ^ (W - k) = rl W k x := by
  rw [rl_eq h, mul_mod_pow h, ← Nat.shiftLeft_eq, ← Nat.shiftLeft_add_eq_or_of_lt (div_lt_pow h hx)]
theorem rr_or {W k x : Nat} (h : k ≤ W) (hx : x < 2 ^ W) : x / 2 ^ k ||| x * 2 ^ (W - k) % 2 ^ W = rr W k x := by
  have e : W - (W - k) = k := by omega
  rw [rr_eq h, mul_mod_pow (Nat.sub_le W k), e, Nat.or_comm, ← Nat.shiftLeft_eq, ← Nat.shiftLeft_add_eq_or_of_lt (div_lt_pow' h hx), Nat.shiftLeft_eq, Nat.add_comm]

theorem two_parts {p q l h : Nat} (hh : h < p) : (l * p + h) / p = l ∧ (l * p + h) % p = h := by
  constructor
  · rw [Nat.mul_comm, Nat.mul_add_div (by omega), Nat.div_eq_of_lt hh, Nat.add_zero]
  · rw [Nat.mul_comm, Nat.mul_add_mod, Nat.mod_eq_of_lt hh]

theorem rl_lt {W k x : Nat} (h : k ≤ W) (hx : x < 2 ^ W) : rl W k x < 2 ^ W := by
  rw [rl_eq h]
  have h1 := div_lt_pow h hx
  have h2 : x % 2 ^ (W - k) < 2 ^ (W - k) := Nat.mod_lt _ (Nat.two_pow_pos _)
  have h3 := pow_split h
  generalize x % 2 ^ (W - k) = l at *
  generalize x / 2 ^ (W - k) = m at *
  rw [h3]
  calc l * 2 ^ k + m < l * 2 ^ k + 2 ^ k := by omega
    _ = (l + 1) * 2 ^ k := by rw [Nat.add_mul, Nat.one_mul]
    _ ≤ 2 ^ (W - k) * 2 ^ k := Nat.mul_le_mul_right _ h2
theorem rr_lt {W k x : Nat} (h : k ≤ W) (hx : x < 2 ^ W) : rr W k x < 2 ^ W := by
  have := rl_lt (Nat.sub_le W k) hx
  have e : W - (W - k) = k := by omega
  rw [rl_eq (Nat.sub_le W k), e] at this
  rw [rr_eq h]; omega

theorem rr_rl {W k x : Nat} (h : k ≤ W) (hx : x < 2 ^ W) : rr W k (rl W k x) = x := by
  rw [rr_eq h, rl_eq h]
  obtain ⟨h1, h2⟩ := two_parts (q := 0) (l := x % 2 ^ (W - k)) (div_lt_pow h hx)
  rw [h1, h2, Nat.mul_comm]
  have := Nat.div_add_mod x (2 ^ (W - k)); omega
theorem rl_rr {W k x : Nat} (h : k ≤ W) (hx : x < 2 ^ W) : rl W k (rr W k x) = x := by
  rw [rl_eq h, rr_eq h, Nat.add_comm (x / 2 ^ k)]
  obtain ⟨h1, h2⟩ := two_parts (q := 0) (l := x % 2 ^ k) (div_lt_pow' h hx)
  rw [h1, h2, Nat.mul_comm]
  have := Nat.div_add_mod x (2 ^ k); omega

theorem rl_zero {W x : Nat} (hx : x < 2 ^ W) : rl W 0 x = x := by
  simp only [rl, Nat.pow_zero, Nat.mul_one, Nat.sub_zero, Nat.mod_eq_of_lt hx, Nat.div_eq_of_lt hx, Nat.add_zero]
theorem rr_zero {W x : Nat} (hx : x < 2 ^ W) : rr W 0 x = x := by
  rw [rr_eq (Nat.zero_le _)]; simp [Nat.mod_one]

/-- one place more -/
theorem rl_succ {W k x : Nat} (h : k < W) (hx : x < 2 ^ W) : rl W k x * 2 % 2 ^ W + rl W k x / 2 ^ (W - 1) = rl W (k + 1) x := by
  have e1 : W - (k + 1) + 1 = W - k := by omega
  have hR : 2 ^ (W - k) = 2 * 2 ^ (W - (k + 1)) := by rw [← e1, Nat.pow_succ]; omega
  have hM : 2 ^ (W - 1) = 2 ^ (W - (k + 1)) * 2 ^ k := by rw [← Nat.pow_add]; congr 1; omega
  have hMM : 2 ^ W = 2 ^ (W - 1) * 2 := by rw [← Nat.pow_succ]; congr 1; omega
  have hm := div_lt_pow (Nat.le_of_lt h) hx
  rw [rl_eq (Nat.le_of_lt h), rl_eq h, hMM, Nat.mul_mod_mul_right, hM, Nat.pow_succ]
  rw [hR] at hm ⊢
  have hRp : 0 < 2 ^ (W - (k + 1)) := Nat.two_pow_pos _
  generalize 2 ^ (W - (k + 1)) = R at *
  generalize 2 ^ k = P at *
  -- x = m * (2 * R) + b * R + l
  have hx1 : x / (2 * R) = x / R / 2 := by rw [Nat.mul_comm, Nat.div_div_eq_div_mul]
  have hx2 : x % (2 * R) = x / R % 2 * R + x % R := by rw [Nat.mul_comm 2 R, Nat.mod_mul, Nat.mul_comm R, Nat.add_comm]
  rw [hx1, hx2]
  rw [hx1] at hm
  have hb : x / R % 2 < 2 := Nat.mod_lt _ (by omega)
  have hl : x % R < R := Nat.mod_lt _ hRp
  have hd := Nat.div_add_mod (x / R) 2
  generalize x / R % 2 = b at *
  generalize x % R = l at *
  generalize x / R / 2 = m at *
  have hlt : l * P + m < R * P := by
    calc l * P + m < l * P + P := by omega
      _ = (l + 1) * P := by rw [Nat.add_mul, Nat.one_mul]
      _ ≤ R * P := Nat.mul_le_mul_right _ hl
  have e : (b * R + l) * P + m = b * (R * P) + (l * P + m) := by rw [Nat.add_mul, Nat.mul_assoc]; omega
  obtain ⟨h1, h2⟩ := two_parts (q := 0) (l := b) hlt
  rw [e, h1, h2, ← hd, ← Nat.mul_assoc]
  omega

theorem rr_succ {W k x : Nat} (h : k < W) (hx : x < 2 ^ W) : rr W k x / 2 + rr W k x % 2 * 2 ^ (W - 1) = rr W (k + 1) x := by
  have e1 : W - (k + 1) + 1 = W - k := by omega
  have hR : 2 ^ (W - k) = 2 * 2 ^ (W - (k + 1)) := by rw [← e1, Nat.pow_succ]; omega
  have hM : 2 ^ (W - 1) = 2 ^ k * 2 ^ (W - (k + 1)) := by rw [← Nat.pow_add]; congr 1; omega
  rw [rr_eq (Nat.le_of_lt h), rr_eq h, hM, Nat.pow_succ, hR, Nat.mod_mul, Nat.div_div_eq_div_mul .. |>.symm]
  generalize 2 ^ (W - (k + 1)) = R at *
  generalize 2 ^ k = P at *
  have hb : x / P % 2 < 2 := Nat.mod_lt _ (by omega)
  have hd := Nat.div_add_mod (x / P) 2
  generalize x / P % 2 = b at *
  generalize x / P / 2 = l at *
  generalize x / P = q at *
  generalize x % P = g at *
  have e : q + g * (2 * R) = 2 * (l + g * R) + b := by rw [← hd, Nat.mul_left_comm]; omega
  have e2 : (g + P * b) * R = g * R + b * (P * R) := by rw [Nat.add_mul, Nat.mul_comm P b, Nat.mul_assoc]
  have h1 : (2 * (l + g * R) + b) / 2 = l + g * R := by omega
  have h2 : (2 * (l + g * R) + b) % 2 = b := by omega
  rw [e, h1, h2, e2]
  omega
end PAbs
