/- A packed piece of many like pieces: one is taken out, one is put back. Over any program. -/
import Derived.Test.YtdlmcgflgdmjgaaDoorSp
set_option linter.unusedVariables false
set_option linter.unusedSimpArgs false
namespace Go.Proofs.YtdlmcgflgdmjgaaDoor
open Go Go.RowKit
section
variable {w0 w : World} {D : Nat → Prop} {Γ A B : List Ch} {c : Ch}
theorem St.pkTake (h : St w0 D (.pk (A ++ c :: B) :: Γ) w) : St w0 D (c :: .pk (A ++ B) :: Γ) w := by
  have h1 : St w0 D ((A ++ c :: B) ++ Γ) w := h.unpk
  have p : ((A ++ B) ++ (c :: Γ)).Perm ((A ++ c :: B) ++ Γ) := by
    simp only [List.append_assoc, List.cons_append]
    exact List.Perm.append_left A List.perm_middle
  have h2 : St w0 D ((A ++ B) ++ (c :: Γ)) w := h1.perm p.symm
  exact (h2.pk).perm (List.Perm.swap _ _ _)
theorem St.pkPut (h : St w0 D (c :: .pk (A ++ B) :: Γ) w) : St w0 D (.pk (A ++ c :: B) :: Γ) w := by
  have h1 : St w0 D (.pk (A ++ B) :: c :: Γ) w := h.perm (List.Perm.swap _ _ _)
  have h2 : St w0 D ((A ++ B) ++ (c :: Γ)) w := h1.unpk
  have p : ((A ++ c :: B) ++ Γ).Perm ((A ++ B) ++ (c :: Γ)) := by
    simp only [List.append_assoc, List.cons_append]
    exact List.Perm.append_left A List.perm_middle.symm
  exact (h2.perm p.symm).pk
end
end Go.Proofs.YtdlmcgflgdmjgaaDoor
