/- What the row's condition gives a walk; a world that meets it. After the guide's Toyas text. -/
import Derived.Test.YtdlmcgflgdmjgaaDoorRows
import Derived.Test.YtdlmcgflgdmjgaaDoorF2
import Derived.ChangeSame
import Derived.ChangeVars
import Derived.JoinedOf
import Derived.RowKit
import Derived.RowKitTokens
import Derived.LaidLaws
import Derived.LaidHandle
import Derived.Stop.Joined
namespace Go.Proofs.YtdlmcgflgdmjgaaDoor
open Go.ChangeShapes Go.WideShapes Go.RowKit

theorem own2 : ownKnob Tryd.prog.godebug = none := by kernel_rfl
theorem et2 : Tryd.prog.globalNamed "errors.errorType" = some 0 := by kernel_rfl
theorem rtt2 : (Tryd.prog.cutTypes.find? (·.1 == "internal/reflectlite.rtype")).map (·.2) = some 144 := by kernel_rfl
theorem oneRow2 : ((List.range 195).filter fun t => Tryd.prog.rowNamed t [101, 114, 114, 111, 114]) = [29] := by kernel_rfl
theorem nTypes2 : Tryd.prog.types.size = 195 := by kernel_rfl

theorem laid_of2 {W : World} (h : laidMetH Tryd.prog [("errors.errorType", Rows.laid_errors_errorType)] W) : LaidV W := by
  have h' : laidMet Tryd.prog [] W ∧ handlesMet Tryd.prog [("errors.errorType", Rows.laid_errors_errorType)] W := h
  obtain ⟨name, u, ty, e1, e2, e3, e4, e5⟩ := h'.2 _ (List.mem_singleton.2 rfl)
  have en : name = [101, 114, 114, 111, 114] := (Option.some.inj e1).symm
  subst en
  obtain rfl := Option.some.inj (rtt2.symm.trans e2)
  have hm : ty ∈ (List.range 195).filter fun t => Tryd.prog.rowNamed t [101, 114, 114, 111, 114] := List.mem_filter.2 ⟨List.mem_range.2 (by rw [← nTypes2]; exact e3), e4⟩
  rw [oneRow2] at hm
  obtain rfl := List.mem_singleton.1 hm
  have hh : typeHandle Tryd.prog 29 = .pointer (some ⟨3, 29, none⟩) := by kernel_rfl
  rw [hh] at e5
  unfold LaidV
  simpa using World.var?_cell et2 e5 0

/-- A world that meets the condition: the settled one, the variable's cell laid. -/
noncomputable def laidWorld2 (os : Os) : World :=
  let w0 := World.holding Tryd.prog os ⟨#[], #[], []⟩
  { w0 with heap := w0.heap.modify 0 fun
      | .cells _ t frozen => .cells #[.iface 144 (.agg #[.pointer (some ⟨3, 29, none⟩)])] t frozen
      | o => o }
theorem laidWorld2_met (os : Os) (args : Array Value) : laidMetH Tryd.prog [("errors.errorType", Rows.laid_errors_errorType)] ((laidWorld2 os).forCall (fun _ _ => 0) ⟨#[], args, []⟩).memory :=
  laidMetH_of_parts (laidMet_nil _ _) (by kernel_rfl)
theorem laidOut' : laidOutB Tryd.prog = true := by kernel_rfl
end Go.Proofs.YtdlmcgflgdmjgaaDoor
