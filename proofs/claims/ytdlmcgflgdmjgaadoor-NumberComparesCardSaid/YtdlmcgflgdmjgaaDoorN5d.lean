/- number.Reckon where a number is a Dec. -/
import Derived.Test.YtdlmcgflgdmjgaaDoorN4
set_option linter.unusedVariables false
set_option linter.unusedSimpArgs false
namespace Go.Proofs.YtdlmcgflgdmjgaaDoor
open Go.RowKit

def decR (op k n l m : Int) : RM := match prom k n, prom l m with
  | none, _ => .bad 31 0
  | some _, none => .bad 31 1
  | some x, some y => arithR op 3 x y 10000
theorem decR_none {op k n l m : Int} (h : prom k n = none) : decR op k n l m = .bad 31 0 := by unfold decR; rw [h]
theorem decR_some_none {op k n l m x : Int} (h : prom k n = some x) (h2 : prom l m = none) : decR op k n l m = .bad 31 1 := by unfold decR; rw [h, h2]
theorem decR_some {op k n l m x y : Int} (h : prom k n = some x) (h2 : prom l m = some y) : decR op k n l m = arithR op 3 x y 10000 := by unfold decR; rw [h, h2]
end Go.Proofs.YtdlmcgflgdmjgaaDoor
