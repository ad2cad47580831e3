/- Long division to the base 2^32: plain numbers. -/
import Derived.Lib.ItoaNum
set_option linter.unusedVariables false
set_option linter.unusedSimpArgs false
namespace Go.Proofs.YtdlmcgflgdmjgaaDoor
/-- One digit of a long division to the base 2^32. -/
theorem dg_lt {Y U d : Nat} (hU : U < Y) (hd : d < 4294967296) : (U * 4294967296 + d) / Y < 4294967296 := by
  rw [Nat.div_lt_iff_lt_mul (by omega)]
  have : (U + 1) * 4294967296 ≤ Y * 4294967296 := Nat.mul_le_mul_right _ hU
  rw [Nat.add_mul] at this
  rw [Nat.mul_comm]; omega
theorem dg_test {Y U d qh rh : Nat} (hY : 0 < Y) (h : qh * (Y / 4294967296) + rh = U) : (qh * (Y % 4294967296) > 4294967296 * rh + d ↔ (U * 4294967296 + d) / Y < qh) := by
  rw [Nat.div_lt_iff_lt_mul hY]
  have hs : Y = 4294967296 * (Y / 4294967296) + Y % 4294967296 := (Nat.div_add_mod _ _).symm
  have e : qh * Y = 4294967296 * (qh * (Y / 4294967296)) + qh * (Y % 4294967296) := by
    conv => lhs; rw [hs]
    rw [Nat.mul_add, Nat.mul_left_comm]
  rw [e, ← h]
  generalize qh * (Y / 4294967296) = a
  generalize qh * (Y % 4294967296) = b
  omega
theorem dg_a1 {Y U : Nat} (hU : U < Y) (y : Nat) (hy : 2147483648 ≤ y) (hY : Y < 4294967296 * y + 4294967296) : U / y ≤ 4294967297 := by
  have h : U < y * 4294967298 := by omega
  have := Nat.div_lt_of_lt_mul h
  omega
theorem dg_start {Y U d : Nat} (hY : 9223372036854775808 ≤ Y) (hY2 : Y < 18446744073709551616) (hU : U < Y) (hd : d < 4294967296) :
    (U * 4294967296 + d) / Y ≤ U / (Y / 4294967296) ∧ U / (Y / 4294967296) ≤ 4294967297 ∧ U / (Y / 4294967296) * (Y / 4294967296) + U % (Y / 4294967296) = U ∧ U % (Y / 4294967296) < 4294967296 := by
  have hy : 2147483648 ≤ Y / 4294967296 := by omega
  have hs : Y = 4294967296 * (Y / 4294967296) + Y % 4294967296 := (Nat.div_add_mod _ _).symm
  have hm : Y % 4294967296 < 4294967296 := Nat.mod_lt _ (by omega)
  have hy2 : Y / 4294967296 < 4294967296 := by omega
  have h3 : U / (Y / 4294967296) * (Y / 4294967296) + U % (Y / 4294967296) = U := by rw [Nat.mul_comm]; exact Nat.div_add_mod _ _
  have h4 : U % (Y / 4294967296) < Y / 4294967296 := Nat.mod_lt _ (by omega)
  refine ⟨?_, ?_, h3, by omega⟩
  · refine Nat.le_trans (Nat.div_le_div_left (a := U * 4294967296 + d) (show 4294967296 * (Y / 4294967296) ≤ Y by omega) (by omega)) ?_
    rw [← Nat.div_div_eq_div_mul]
    exact Nat.div_le_div_right (by omega)
  · exact dg_a1 hU _ hy (by omega)
/-- The step down: behind it the digit is no less than the true one, and where the rest is too long, it is the true one. -/
theorem dg_end {Y U d qh rh : Nat} (hY : 0 < Y) (hd : d < 4294967296) (h : qh * (Y / 4294967296) + rh = U) (hq : qh ≤ 4294967296) (hr : 4294967296 ≤ rh) : qh ≤ (U * 4294967296 + d) / Y := by
  rw [← Nat.not_lt, ← dg_test (d := d) hY h]
  have hm : Y % 4294967296 < 4294967296 := Nat.mod_lt _ (by omega)
  have : qh * (Y % 4294967296) ≤ 4294967296 * (Y % 4294967296) := Nat.mul_le_mul_right _ hq
  omega
/-- Long division: two digits. -/
theorem dg_two {Y a B d : Nat} (hY : 0 < Y) : a / Y * B + (a % Y * B + d) / Y = (a * B + d) / Y := by
  have h := Nat.div_add_mod a Y
  generalize a / Y = q at *
  generalize a % Y = r at *
  subst h
  have e : (Y * q + r) * B + d = (r * B + d) + Y * (q * B) := by
    rw [Nat.add_mul, Nat.mul_assoc]; omega
  rw [e, Nat.add_mul_div_left _ _ hY, Nat.add_comm]
/-- Both shifted by s bits: the quotient is the same. -/
theorem dv_shift {N z s : Nat} : N * 2 ^ s / (z * 2 ^ s) = N / z := Nat.mul_div_mul_right _ _ (Nat.two_pow_pos s)
theorem dv_words {N : Nat} : N = (N / 18446744073709551616 * 4294967296 + N % 18446744073709551616 / 4294967296) * 4294967296 + N % 18446744073709551616 % 4294967296 := by omega

theorem bitLen_shifted {z : Nat} (h0 : 0 < z) (h2 : z < 18446744073709551616) : 1 ≤ Lib.bitLen z ∧ Lib.bitLen z ≤ 64 ∧ 9223372036854775808 ≤ z * 2 ^ (64 - Lib.bitLen z) ∧ z * 2 ^ (64 - Lib.bitLen z) < 18446744073709551616 := by
  obtain ⟨a, b, c⟩ := Lib.bitLenAux_bounds 64 z (by simpa using h2) (by omega)
  have hl : Lib.bitLenAux 64 z ≤ 64 := by
    rcases Nat.lt_or_ge 64 (Lib.bitLenAux 64 z) with h | h
    · have : 2 ^ 64 ≤ 2 ^ (Lib.bitLenAux 64 z - 1) := Nat.pow_le_pow_right (by omega) (by omega)
      have : (2 : Nat) ^ 64 = 18446744073709551616 := by decide
      omega
    · exact h
  show 1 ≤ Lib.bitLenAux 64 z ∧ Lib.bitLenAux 64 z ≤ 64 ∧ _ ≤ z * 2 ^ (64 - Lib.bitLenAux 64 z) ∧ z * 2 ^ (64 - Lib.bitLenAux 64 z) < _
  generalize Lib.bitLenAux 64 z = l at *
  refine ⟨a, hl, ?_, ?_⟩
  · have := Nat.mul_le_mul_right (2 ^ (64 - l)) b
    rw [← Nat.pow_add, show l - 1 + (64 - l) = 63 by omega] at this
    exact this
  · have := Nat.mul_lt_mul_of_pos_right c (Nat.two_pow_pos (64 - l))
    rw [← Nat.pow_add, show l + (64 - l) = 64 by omega] at this
    exact this
end Go.Proofs.YtdlmcgflgdmjgaaDoor
