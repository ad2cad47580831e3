/- NumberSmall: its walk. -/
import Derived.Test.YtdlmcgflgdmjgaaDoorN8
import Derived.Test.YtdlmcgflgdmjgaaDoorBx
import Derived.Test.YtdlmcgflgdmjgaaDoorEq
import Derived.Deep.DeepCutAuto
set_option linter.unusedVariables false
set_option linter.unusedSectionVars false
set_option linter.unusedSimpArgs false
namespace Go.Proofs.YtdlmcgflgdmjgaaDoor
open Go.RowKit
theorem rk_ok {op k n l m K X : Int} (hr : reckM op k n l m = .ok K X) (ha : Num k n) (hb : Num l m) (w : World) : Calls Tryd.prog 29 #[.int .i64 op, valV k n, valV l m] w fun e w' => e = .returned (.tuple #[valV K X, .nilIface]) ∧ Below w.heap.size w w' :=
  (reckon_num op k n l m ha hb w).mono fun e w' ⟨h, hw⟩ => ⟨by rw [hr] at h; exact h, hw⟩
theorem rk_bad {op k n l m c a : Int} (hr : reckM op k n l m = .bad c a) (ha : Num k n) (hb : Num l m) (w : World) : Calls Tryd.prog 29 #[.int .i64 op, valV k n, valV l m] w fun e w' => (∃ b, e = .returned (.tuple #[valV 0 0, errV b]) ∧ FaultAt w' b c a) ∧ Below w.heap.size w w' :=
  (reckon_num op k n l m ha hb w).mono fun e w' ⟨h, hw⟩ => ⟨by rw [hr] at h; exact h, hw⟩
theorem natAbs_lt {x B : Int} (h0 : -B < x) (h1 : x < B) : x.natAbs ≤ B.toNat := by omega
theorem mul_small {a b A B : Int} (ha0 : -A ≤ a) (ha1 : a ≤ A) (hb0 : -B ≤ b) (hb1 : b ≤ B) : -(A * B) ≤ a * b ∧ a * b ≤ A * B := by
  have h : (a * b).natAbs ≤ A.natAbs * B.natAbs := by
    rw [Int.natAbs_mul]; exact Nat.mul_le_mul (by omega) (by omega)
  rw [← Int.natAbs_mul] at h
  have h2 : ((A * B).natAbs : Int) = A * B := Int.natAbs_of_nonneg (Int.mul_nonneg (by omega) (by omega))
  omega
theorem tdiv_small {x y B : Int} (h0 : -B ≤ x) (h1 : x ≤ B) : -B ≤ x.tdiv y ∧ x.tdiv y ≤ B := by
  have h : (x.tdiv y).natAbs ≤ x.natAbs := by rw [Int.natAbs_tdiv]; exact Nat.div_le_self _ _
  omega
theorem fits_of {x : Int} (h0 : -9223372036854775808 ≤ x) (h1 : x ≤ 9223372036854775807) : fits x = true := fits_iff.2 ⟨h0, h1⟩
theorem arith_add {k x y one : Int} (h : fits (x + y) = true) : arithR 3 k x y one = .ok k (x + y) := by simp [arithR, finR, h]
theorem arith_sub {k x y one : Int} (h : fits (x - y) = true) : arithR 4 k x y one = .ok k (x - y) := by simp [arithR, finR, h]
theorem arith_mul {k x y one : Int} (h : fits (Int.tdiv (x * y) one) = true) : arithR 5 k x y one = .ok k (Int.tdiv (x * y) one) := by simp [arithR, finR, h]
theorem arith_div {k x y one : Int} (h0 : y ≠ 0) (h : fits (Int.tdiv (x * one) y) = true) : arithR 6 k x y one = .ok k (Int.tdiv (x * one) y) := by simp [arithR, finR, h, h0]
theorem reck_int (op n m : Int) (h0 : 3 ≤ op) (h1 : op ≤ 6) : reckM op 2 n 2 m = arithR op 2 n m 1 := by unfold reckM; rw [if_neg (by omega), if_neg (by omega), if_neg (by omega)]
theorem reck_dec (op n m : Int) (h0 : 3 ≤ op) (h1 : op ≤ 6) : reckM op 3 n 3 m = arithR op 3 n m 10000 := by unfold reckM; rw [if_neg (by omega), if_neg (by omega), if_pos (by omega), decR_some (x := n) (y := m) rfl rfl]
variable {a b : Int} (a0 : -1048576 < a) (a1 : a < 1048576) (b0 : -1048576 < b) (b1 : b < 1048576)
include a0 a1 b0 b1
theorem s_add : reckM 3 2 a 2 b = .ok 2 (a + b) := by rw [reck_int _ _ _ (by omega) (by omega), arith_add (fits_of (by omega) (by omega))]
theorem s_sub : reckM 4 2 a 2 b = .ok 2 (a - b) := by rw [reck_int _ _ _ (by omega) (by omega), arith_sub (fits_of (by omega) (by omega))]
theorem s_mb : -1099511627776 ≤ a * b ∧ a * b ≤ 1099511627776 := mul_small (A := 1048576) (B := 1048576) (by omega) (by omega) (by omega) (by omega)
theorem s_mul : reckM 5 2 a 2 b = .ok 2 (a * b) := by
  have h := s_mb a0 a1 b0 b1
  have e : Int.tdiv (a * b) 1 = a * b := Int.tdiv_one _
  rw [reck_int _ _ _ (by omega) (by omega), arith_mul (by rw [e]; exact fits_of (by omega) (by omega)), e]
theorem s_db : -1099511627776 ≤ (a * b).tdiv 10000 ∧ (a * b).tdiv 10000 ≤ 1099511627776 := tdiv_small (s_mb a0 a1 b0 b1).1 (s_mb a0 a1 b0 b1).2
theorem s_dmul : reckM 5 3 a 3 b = .ok 3 ((a * b).tdiv 10000) := by
  have h := s_db a0 a1 b0 b1
  rw [reck_dec _ _ _ (by omega) (by omega), arith_mul (fits_of (by omega) (by omega))]
theorem s_mix : reckM 3 2 a 3 b = .ok 3 (a * 10000 + b) := by
  have hp : prom 2 a = some (a * 10000) := by unfold prom; rw [if_neg (by omega), if_pos (fits_of (by omega) (by omega))]
  unfold reckM
  rw [if_neg (by omega), if_neg (by omega), if_pos (by omega), decR_some (x := a * 10000) (y := b) hp rfl, arith_add (fits_of (by omega) (by omega))]
omit b0 b1 in
theorem s_div (h : b ≠ 0) : reckM 6 2 a 2 b = .ok 2 (a.tdiv b) := by
  have e : a * 1 = a := Int.mul_one a
  have h2 : -1048576 ≤ a.tdiv b ∧ a.tdiv b ≤ 1048576 := tdiv_small (by omega) (by omega)
  rw [reck_int _ _ _ (by omega) (by omega), arith_div h (by rw [e]; exact fits_of (by omega) (by omega)), e]
omit b0 b1 in
theorem s_ddiv (h : b ≠ 0) : reckM 6 3 a 3 b = .ok 3 ((a * 10000).tdiv b) := by
  have h2 : -10485760000 ≤ (a * 10000).tdiv b ∧ (a * 10000).tdiv b ≤ 10485760000 := tdiv_small (by omega) (by omega)
  rw [reck_dec _ _ _ (by omega) (by omega), arith_div h (fits_of (by omega) (by omega))]
omit a0 a1 b0 b1 in
theorem s_zero : reckM 6 2 a 2 0 = .bad 32 1 ∧ reckM 6 3 a 3 0 = .bad 32 1 := ⟨by rw [reck_int _ _ _ (by omega) (by omega)]; rfl, by rw [reck_dec _ _ _ (by omega) (by omega)]; rfl⟩
omit a0 a1 b0 b1
end Go.Proofs.YtdlmcgflgdmjgaaDoor
