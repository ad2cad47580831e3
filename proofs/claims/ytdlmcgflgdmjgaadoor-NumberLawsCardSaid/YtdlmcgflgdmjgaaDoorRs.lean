/- number.Reckon's Add and Mul do not hang on order; one and nothing change nothing. -/
import Derived.Test.YtdlmcgflgdmjgaaDoorRk
set_option linter.unusedVariables false
set_option linter.unusedSimpArgs false
namespace Go.Proofs.YtdlmcgflgdmjgaaDoor
open Go.RowKit
def same (r s : RM) : Prop := rK r = rK s ∧ rN r = rN s ∧ rOk r = rOk s
theorem same_rfl (r : RM) : same r r := ⟨rfl, rfl, rfl⟩
theorem arith_swap3 (k x y one : Int) : arithR 3 k x y one = arithR 3 k y x one := by rw [arith3, arith3, Int.add_comm]
theorem arith_swap5 (k x y one : Int) : arithR 5 k x y one = arithR 5 k y x one := by rw [arith5, arith5, Int.mul_comm]
theorem reck_decR {op k n l m : Int} (h0 : 3 ≤ op) (h1 : op ≤ 6) (hk : k = 2 ∨ k = 3) (hl : l = 2 ∨ l = 3) (hd : k = 3 ∨ l = 3) : reckM op k n l m = decR op k n l m := by
  unfold reckM; rw [if_neg (by omega), if_neg (by omega), if_pos hd]
theorem dec_swap {op k n l m : Int} (hs : ∀ x y : Int, arithR op 3 x y 10000 = arithR op 3 y x 10000) : same (decR op k n l m) (decR op l m k n) := by
  unfold decR
  cases h1 : prom k n <;> cases h2 : prom l m
  · exact ⟨rfl, rfl, rfl⟩
  · exact ⟨rfl, rfl, rfl⟩
  · exact ⟨rfl, rfl, rfl⟩
  · simp only [hs]; exact same_rfl _
theorem reck_swap {op k n l m : Int} (ho : op = 3 ∨ op = 5) (hk : k = 2 ∨ k = 3) (hl : l = 2 ∨ l = 3) : same (reckM op k n l m) (reckM op l m k n) := by
  have hs : ∀ kk x y one : Int, arithR op kk x y one = arithR op kk y x one := by
    rcases ho with rfl | rfl
    · exact arith_swap3
    · exact arith_swap5
  by_cases hd : k = 3 ∨ l = 3
  · rw [reck_decR (by omega) (by omega) hk hl hd, reck_decR (by omega) (by omega) hl hk hd.symm]
    exact dec_swap (hs 3 · · 10000)
  · obtain rfl : k = 2 := by omega
    obtain rfl : l = 2 := by omega
    rw [reck_int _ _ _ (by omega) (by omega), reck_int _ _ _ (by omega) (by omega), hs]
    exact same_rfl _
theorem reck_mul1 {k n : Int} (hk : k = 2 ∨ k = 3) (h : fits n = true) : reckM 5 k n k (if k = 3 then 10000 else 1) = .ok k n := by
  rw [reck_same (by omega) (by omega) hk]
  have e : Int.tdiv (n * (if k = 3 then 10000 else 1)) (if k = 3 then 10000 else 1) = n := Int.mul_tdiv_cancel _ (by split <;> omega)
  rw [arith_mul (by rw [e]; exact h), e]
theorem reck_div1 {k n : Int} (hk : k = 2 ∨ k = 3) (h : fits n = true) : reckM 6 k n k (if k = 3 then 10000 else 1) = .ok k n := by
  rw [reck_same (by omega) (by omega) hk]
  have e : Int.tdiv (n * (if k = 3 then 10000 else 1)) (if k = 3 then 10000 else 1) = n := Int.mul_tdiv_cancel _ (by split <;> omega)
  rw [arith_div (by split <;> omega) (by rw [e]; exact h), e]
theorem reck_add0 {k n : Int} (hk : k = 2 ∨ k = 3) (h : fits n = true) : reckM 3 k n k 0 = .ok k n := by
  rw [reck_same (by omega) (by omega) hk, arith_add (by rw [Int.add_zero]; exact h), Int.add_zero]
end Go.Proofs.YtdlmcgflgdmjgaaDoor
