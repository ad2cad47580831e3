/- More rules. Over any program. -/
import Derived.Test.YtdlmcgflgdmjgaaDoorSm
set_option linter.unusedVariables false
set_option linter.unusedSimpArgs false
namespace Go.Proofs.YtdlmcgflgdmjgaaDoor
open Go.RowKit
section
variable {P : Program} {n : Nat} {f : Nat → Value} {w : World} {x y : Operand} {T T' ty : TypeId} {d : Option Tmp} {pos : String} {aft : Array Edge} {g : Option (Nat × Bool)}
def boB (P : Program) (t : TypeId) : Bool := match P.underlying t with | some .bool => true | _ => false
theorem und_bo {t : TypeId} (h : boB P t = true) : P.underlying t = some .bool := by
  unfold boB at h
  cases hu : P.underlying t with
  | none => simp [hu] at h
  | some d => cases d <;> simp [hu] at h; rfl
theorem eq_bo {t : TypeId} {a b : Bool} (h : boB P t = true) : (Op.equal t (.bool a) (.bool b)).run P w = .ok (a == b) w := by
  have : ∀ q : Nat, (Op.equalIn (q + 1) t (.bool a) (.bool b)).run P w = .ok (a == b) w := fun q => by simp [Op.equalIn, run_und (und_bo h), Sem.run]
  exact this 9999
theorem q_bool_eql {a b : Bool} (hx : ev n f x = .bool a) (hy : ev n f y = .bool b) (ht : boB P T = true) : Run P n f ⟨d, .binOp .eql T x y T', ty, pos, aft, g⟩ w (.bool (a == b)) := by
  simp only [Run, execOp, hx, hy, binOp, eqGuard]; simp [eq_bo ht, Sem.run]
theorem q_bool_neq {a b : Bool} (hx : ev n f x = .bool a) (hy : ev n f y = .bool b) (ht : boB P T = true) : Run P n f ⟨d, .binOp .neq T x y T', ty, pos, aft, g⟩ w (.bool (!(a == b))) := by
  simp only [Run, execOp, hx, hy, binOp, eqGuard]; simp [eq_bo ht, Sem.run]
end
end Go.Proofs.YtdlmcgflgdmjgaaDoor
