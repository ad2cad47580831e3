/- A product over a number: package number's 'over'. -/
import Derived.Test.YtdlmcgflgdmjgaaDoorN2
set_option linter.unusedVariables false
set_option linter.unusedSimpArgs false
namespace Go.Proofs.YtdlmcgflgdmjgaaDoor
open Go.RowKit

theorem sum_fit (a b : Int) (a0 : -9223372036854775808 ≤ a) (a1 : a ≤ 9223372036854775807) (b0 : -9223372036854775808 ≤ b) (b1 : b ≤ 9223372036854775807) (w : World) :
    Calls Tryd.prog 49 #[.int .i64 a, .int .i64 b] w fun e w' => ∃ x ok, e = .returned (.tuple #[.int .i64 x, .bool ok]) ∧ IsFit (a + b) x ok ∧ w = w' := by
  refine (sum_any a b w).mono fun e w' ⟨he, hw⟩ => ⟨_, _, he, ⟨?_, ?_⟩, hw⟩
  · rw [Bool.eq_iff_iff, fits_iff]; simp [sumR, wrap64]; omega
  · simp [sumR, wrap64]; omega
theorem tdiv_nat (x y z : Nat) : Int.tdiv ((x : Int) * y) z = ((x * y / z : Nat) : Int) := by
  rw [← Int.natCast_mul]; rfl
/-- The size of a quotient of sizes, with its sign. -/
theorem over_sign (a b c : Int) (q : Nat) (hq : q = a.natAbs * b.natAbs / c.natAbs) : (if (!(!(decide (a < 0) == decide (b < 0))) == decide (c < 0)) = true then -(q : Int) else (q : Int)) = Int.tdiv (a * b) c := by
  subst hq
  have ea : ∀ a : Int, (a < 0 ∧ a = -(a.natAbs : Int)) ∨ (¬ a < 0 ∧ a = (a.natAbs : Int)) := fun a => by omega
  rcases ea a with ⟨ha, ha'⟩ | ⟨ha, ha'⟩ <;> rcases ea b with ⟨hb, hb'⟩ | ⟨hb, hb'⟩ <;> rcases ea c with ⟨hc, hc'⟩ | ⟨hc, hc'⟩ <;>
    (generalize a.natAbs = x at *; generalize b.natAbs = y at *; generalize c.natAbs = z at *; simp only [ha, hb, hc, decide_true, decide_false]; rw [ha', hb', hc'])
  all_goals simp [Int.neg_tdiv, Int.tdiv_neg, Int.neg_mul, Int.mul_neg, tdiv_nat]
theorem over_high (a b c : Int) (hc : c ≠ 0) {hi lo : Nat} (hp : hi * 18446744073709551616 + lo = a.natAbs * b.natAbs) (h : c.natAbs ≤ hi) : IsFit (Int.tdiv (a * b) c) 0 false := by
  have e := over_sign a b c _ rfl
  have hq : 18446744073709551616 ≤ a.natAbs * b.natAbs / c.natAbs := by
    rw [Nat.le_div_iff_mul_le (by omega)]
    have : 18446744073709551616 * c.natAbs ≤ 18446744073709551616 * hi := Nat.mul_le_mul_left _ h
    omega
  refine ⟨?_, fun h => by cases h⟩
  symm
  rw [← e, fits_not]
  generalize a.natAbs * b.natAbs / c.natAbs = q at *
  split <;> omega
theorem over_any (a b c : Int) (a0 : -9223372036854775808 ≤ a) (a1 : a ≤ 9223372036854775807) (b0 : -9223372036854775808 ≤ b) (b1 : b ≤ 9223372036854775807) (c0 : -9223372036854775808 ≤ c) (c1 : c ≤ 9223372036854775807) (hc : c ≠ 0) (w : World) :
    Calls Tryd.prog 50 #[.int .i64 a, .int .i64 b, .int .i64 c] w fun e w' => ∃ x ok, e = .returned (.tuple #[.int .i64 x, .bool ok]) ∧ IsFit (Int.tdiv (a * b) c) x ok ∧ Below w.heap.size w w' := by
  refine calls_hide ?_; intro R hR; go_enter Tryd.func50, Tryd.ntmps50
  go_wp2_with (first | (go_at_call 65; refine (size_any _ (by omega) (by omega) _).mono ?_; rintro e w' ⟨rfl, rfl⟩) | (go_at_call 66; refine (mul64_any _ _ (by omega) (by omega) _).mono ?_; rintro e w' ⟨hi, lo, rfl, hp, hhi, hlo, rfl⟩) | (go_at_call 68; refine (div64_any _ _ _ (by omega) (by omega) (by omega) _).mono ?_; rintro e w1 ⟨q, r, rfl, hq1, hq, hb1⟩) | (go_at_call 67; refine (fit_any _ (by omega) (by omega) _ _).mono ?_; rintro e w' ⟨x, ok, rfl, hx, rfl⟩))
  all_goals (apply hR.out; clear hR; go_tidy)
  · exact ⟨_, _, rfl, over_high a b c hc hp.out ‹_›, by (repeat' (first | exact Below.refl _ _ | (with_reducible assumption) | refine bl_alloc ?_ _ | refine bl_drewN ?_ _ | refine bl_drew ?_ | refine blw ?_ (by with_reducible assumption)))⟩
  · refine ⟨_, _, rfl, ?_, by (repeat' (first | exact Below.refl _ _ | (with_reducible assumption) | refine bl_alloc ?_ _ | refine bl_drewN ?_ _ | refine bl_drew ?_ | refine blw ?_ (by with_reducible assumption)))⟩
    rw [over_sign a b c q (by rw [← hp.out]; exact hq.out)] at hx
    exact hx
end Go.Proofs.YtdlmcgflgdmjgaaDoor
