/- What the row's condition gives a walk; a world that meets it. After the guide's Toyas text. -/
import Derived.Test.YtmemgpcgjephmaaGreatDoorRows
import Derived.Test.YtmemgpcgjephmaaGreatDoorF2
import Derived.ChangeSame
import Derived.ChangeVars
import Derived.JoinedOf
import Derived.RowKit
import Derived.RowKitTokens
import Derived.LaidLaws
import Derived.LaidHandle
import Derived.Stop.Joined
import Derived.LaidMore
import Derived.Lay
namespace Go.Proofs.YtmemgpcgjephmaaGreatDoor
open Go.ChangeShapes Go.WideShapes Go.RowKit

theorem own2 : ownKnob Tryz.prog.godebug = none := by kernel_rfl
theorem et2 : Tryz.prog.globalNamed "errors.errorType" = some 0 := by kernel_rfl
theorem rtt2 : (Tryz.prog.cutTypes.find? (·.1 == "internal/reflectlite.rtype")).map (·.2) = some 131 := by kernel_rfl
theorem oneRow2 : ((List.range 207).filter fun t => Tryz.prog.rowNamed t [101, 114, 114, 111, 114]) = [28] := by kernel_rfl
theorem nTypes2 : Tryz.prog.types.size = 207 := by kernel_rfl

theorem laid_of2 {W : World} (h : laidMetH Tryz.prog Rows.catalogNilRow.laid W) : LaidV W := by
  have h' : laidMet Tryz.prog (Rows.catalogNilRow.laid.filter fun x => x.2.handleName?.isNone) W ∧ handlesMet Tryz.prog [("errors.errorType", Rows.laid_errors_errorType)] W := h
  obtain ⟨name, u, ty, e1, e2, e3, e4, e5⟩ := h'.2 _ (List.mem_singleton.2 rfl)
  have en : name = [101, 114, 114, 111, 114] := (Option.some.inj e1).symm
  subst en
  obtain rfl := Option.some.inj (rtt2.symm.trans e2)
  have hm : ty ∈ (List.range 207).filter fun t => Tryz.prog.rowNamed t [101, 114, 114, 111, 114] := List.mem_filter.2 ⟨List.mem_range.2 (by rw [← nTypes2]; exact e3), e4⟩
  rw [oneRow2] at hm
  obtain rfl := List.mem_singleton.1 hm
  have hh : typeHandle Tryz.prog 28 = .pointer (some ⟨4, 28, none⟩) := by kernel_rfl
  rw [hh] at e5
  unfold LaidV
  simpa using World.var?_cell et2 e5 0

theorem laid_of3 {W : World} (h : laidMetH Tryz.prog Rows.catalogAddsRow.laid W) : LaidV W := laid_of2 h
/-- The settled world, the handle laid. -/
noncomputable def handW (os : Os) : World :=
  let w0 := World.holding Tryz.prog os ⟨#[], #[], []⟩
  { w0 with heap := w0.heap.modify 0 fun
      | .cells _ t frozen => .cells #[.iface 131 (.agg #[.pointer (some ⟨4, 28, none⟩)])] t frozen
      | o => o }
noncomputable abbrev plainL : List (String × DataW Unit) := Rows.catalogNilRow.laid.filter fun x => x.2.handleName?.isNone
noncomputable def witW (os : Os) : World := (handW os).layVars Tryz.prog plainL
theorem witW_os (os : Os) : (witW os).os = os := (World.layVars_os _ _ _).trans rfl
theorem witW_plain (os : Os) (args : Array Value) : laidMet Tryz.prog plainL ((witW os).forCall (fun _ _ => 0) ⟨#[], args, []⟩).memory := by
  have e1 : (plainL.filter fun x => (plainL.map (·.1)).contains x.1) = plainL := List.filter_eq_self.2 fun x hx => List.contains_iff_mem.2 (List.mem_map.2 ⟨x, hx, rfl⟩)
  have e2 : (plainL.filter fun x => !(plainL.map (·.1)).contains x.1) = [] := List.filter_eq_nil_iff.2 fun x hx => by rw [List.contains_iff_mem.2 (List.mem_map.2 ⟨x, hx, rfl⟩)]; simp
  have h : laidMet Tryz.prog plainL (witW os) := laidMet_layVars (w0 := handW os) (plainL.map (·.1)) [] (by rw [e1]; rfl) (by rw [e1]; kernel_rfl) (by rw [e1]; kernel_rfl) (by rw [e2]; exact LaidIn.none)
  exact h.of_heap (by simp [World.memory, World.forCall, Input.heap])
theorem witW_met (os : Os) (args : Array Value) : laidMetH Tryz.prog Rows.catalogNilRow.laid ((witW os).forCall (fun _ _ => 0) ⟨#[], args, []⟩).memory :=
  laidMetH_of_parts (witW_plain os args) (by kernel_rfl)
end Go.Proofs.YtmemgpcgjephmaaGreatDoor
