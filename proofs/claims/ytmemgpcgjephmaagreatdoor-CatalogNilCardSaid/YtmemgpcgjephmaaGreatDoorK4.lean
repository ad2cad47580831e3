/- law04: the live question; the document's Encode. -/
import Derived.Test.YtmemgpcgjephmaaGreatDoorK3
set_option linter.unusedVariables false
set_option linter.unusedSimpArgs false
namespace Go.Proofs.YtmemgpcgjephmaaGreatDoor
open Go.RowKit
theorem esc_take {s : List Nat} {i b : Nat} (hb : s[i]? = some b) : esc (s.take (i + 1)) = esc (s.take i) ++ (if b = 0 then [0, 255] else [b]) := by
  rw [List.take_add_one, hb, esc_app]
  simp [esc]
theorem alive4_enc : encR [((2 : Int), (-1 : Int), ([] : List Nat)), ((4 : Int), (0 : Int), [97])] = ([2, 127, 255, 255, 255, 255, 255, 255, 255, 4, 97, 0, 1], 0) := by decide +kernel
attribute [local irreducible] Oper.wp Sem.run Code.wp wpList wpAnyO callFunc execOp Calls
attribute [local irreducible] enc encR rightB toU encV


end Go.Proofs.YtmemgpcgjephmaaGreatDoor
