/- Two api.Values are equal as their three fields are. -/
import Derived.Test.YtdlmcgflgdmjgaaDoorN8
import Derived.Laws.StructEq
set_option linter.unusedVariables false
set_option linter.unusedSimpArgs false
namespace Go.Proofs.YtdlmcgflgdmjgaaDoor
open Go.RowKit
theorem eqV (k n l m : Int) (s t : ByteArray) (w : World) : (Op.equalIn 10000 51 (.agg #[.int .i64 k, .int .i64 n, .string s]) (.agg #[.int .i64 l, .int .i64 m, .string t])).run Tryd.prog w = .ok (k == l && n == m && s.toList == t.toList) w := by
  have hS : Tryd.prog.underlying 51 = some (.struct (Tryd.prog.fieldsOf 51)) := by kernel_rfl
  have hp : Tryd.prog.stoodInHeld 51 = false := by kernel_rfl
  rw [show (10000 : Nat) = 9999 + 1 from rfl, run_equalIn_agg w 9999 51 _ _ hS hp]
  simp only [Program.fieldsOf, Tryd.underlying51]
  go_simp
  by_cases h1 : k = l <;> by_cases h2 : n = m <;> by_cases h3 : s.toList = t.toList <;> simp [h1, h2, h3]
theorem eqSame (k n : Int) (w : World) : (Op.equalIn 10000 51 (.agg #[.int .i64 k, .int .i64 n, .string ⟨#[]⟩]) (.agg #[.int .i64 k, .int .i64 n, .string ⟨#[]⟩])).run Tryd.prog w = .ok true w := by
  rw [eqV]; simp
end Go.Proofs.YtdlmcgflgdmjgaaDoor
