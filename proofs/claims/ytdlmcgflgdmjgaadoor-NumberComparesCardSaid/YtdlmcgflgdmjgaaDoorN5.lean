/- number.Reckon where a number is a Dec. -/
import Derived.Test.YtdlmcgflgdmjgaaDoorN5a
import Derived.Test.YtdlmcgflgdmjgaaDoorN5b
import Derived.Test.YtdlmcgflgdmjgaaDoorN5c
set_option linter.unusedVariables false
set_option linter.unusedSimpArgs false
namespace Go.Proofs.YtdlmcgflgdmjgaaDoor
open Go.RowKit

theorem reckon_dec (op k n l m : Int) (h0 : 3 ≤ op) (h1 : op ≤ 6) (hk : k = 2 ∨ k = 3) (hl : l = 2 ∨ l = 3) (hd : k = 3 ∨ l = 3) (n0 : -9223372036854775808 ≤ n) (n1 : n ≤ 9223372036854775807) (m0 : -9223372036854775808 ≤ m) (m1 : m ≤ 9223372036854775807) (w : World) :
    Calls Tryd.prog 29 #[.int .i64 op, valV k n, valV l m] w fun e w' => RPost (decR op k n l m) e w' ∧ Below w.heap.size w w' := by
  have hop : op = 3 ∨ op = 4 ∨ op = 5 ∨ op = 6 := by omega
  rcases hop with rfl | rfl | rfl | rfl
  · exact reckon_dec_add k n l m hk hl hd n0 n1 m0 m1 w
  · exact reckon_dec_sub k n l m hk hl hd n0 n1 m0 m1 w
  · exact reckon_dec_mul k n l m hk hl hd n0 n1 m0 m1 w
  · exact reckon_dec_div k n l m hk hl hd n0 n1 m0 m1 w
/-- What two numbers, or nothing, come to. -/
def reckM (op k n l m : Int) : RM := if op < 3 ∨ 6 < op then .bad 1 0 else if k = 0 ∨ l = 0 then .ok 0 0 else if k = 3 ∨ l = 3 then decR op k n l m else arithR op 2 n m 1
theorem reckon_num (op k n l m : Int) (ha : Num k n) (hb : Num l m) (w : World) :
    Calls Tryd.prog 29 #[.int .i64 op, valV k n, valV l m] w fun e w' => RPost (reckM op k n l m) e w' ∧ Below w.heap.size w w' := by
  unfold reckM
  by_cases h : op < 3 ∨ 6 < op
  · rw [if_pos h]; exact reckon_arg op k n l m _ _ h w
  rw [if_neg h]
  by_cases hz : k = 0 ∨ l = 0
  · rw [if_pos hz]; exact reckon_null op k n l m (by omega) (by omega) ha hb hz w
  rw [if_neg hz]
  obtain ⟨hk, n0, n1⟩ : (k = 2 ∨ k = 3) ∧ -9223372036854775808 ≤ n ∧ n ≤ 9223372036854775807 := ha.resolve_left (by omega)
  obtain ⟨hl, m0, m1⟩ : (l = 2 ∨ l = 3) ∧ -9223372036854775808 ≤ m ∧ m ≤ 9223372036854775807 := hb.resolve_left (by omega)
  by_cases hd : k = 3 ∨ l = 3
  · rw [if_pos hd]; exact reckon_dec op k n l m (by omega) (by omega) hk hl hd n0 n1 m0 m1 w
  · rw [if_neg hd]
    obtain rfl : k = 2 := by omega
    obtain rfl : l = 2 := by omega
    exact reckon_int op n m (by omega) (by omega) n0 n1 m0 m1 w
end Go.Proofs.YtdlmcgflgdmjgaaDoor
