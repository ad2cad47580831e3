/- More rules, V: strings joined. Over any program. -/
import Derived.Test.YtdlmcgflgdmjgaaDoorSm
import Derived.Laws.Concat
set_option linter.unusedVariables false
set_option linter.unusedSimpArgs false
namespace Go.Proofs.YtdlmcgflgdmjgaaDoor
open Go Go.RowKit
section
variable {P : Program} {n : Nat} {f : Nat → Value} {w : World}
variable {d : Option Tmp} {x y : Operand} {ty T T' : TypeId} {pos : String} {aft : Array Edge} {g : Option (Nat × Bool)} {l m : List Nat}
theorem bs_join (l m : List Nat) : bs l ++ bs m = bs (l ++ m) := by
  unfold bs
  rw [ByteArray.mk_append_mk, List.map_append]
theorem q_str_add (hx : ev n f x = .string (bs l)) (hy : ev n f y = .string (bs m)) (h : l.length + m.length ≤ 9223372036854775807) : Run P n f ⟨d, .binOp .add T x y T', ty, pos, aft, g⟩ w (.string (bs (l ++ m))) := by
  have h1 := run_string_add_sum (P := P) w (bs l) (bs m) (by rw [bs_size, bs_size]; exact h)
  rw [bs_join] at h1
  simp [Run, execOp, hx, hy, eqGuard, binOp, h1, Sem.run]
end
end Go.Proofs.YtdlmcgflgdmjgaaDoor
