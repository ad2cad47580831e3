/- Ranges over a function, IV: the caller's invariant. Over any program. -/
import Derived.Test.YtmemgpcgjephmaaGreatDoorSu
set_option linter.unusedVariables false
set_option linter.unusedSimpArgs false
namespace Go.Proofs.YtmemgpcgjephmaaGreatDoor
open Go Go.RowKit
section
variable {w0 : World} {D : Nat → Prop} {g : Gh} {B : Nat}
/-- The pieces abide the loop's book-keeping. -/
theorem own_st {τ α : Type} {φ : τ → List α → Prop} {Γ : τ → List Ch} (hB : w0.heap.size ≤ B) (hg : ∀ k o, g k = some o → k < B) (hc : ∀ x W, St w0 D (Γ x) W → ∀ c ∈ Γ x, c.cel W) :
    OwnFrom B (fun (pre : List α) W => ∃ x, φ x pre ∧ St w0 D (Γ x) W ∧ Gle g (hw W)) :=
  fun s W W' row ⟨x, h1, h2, h3⟩ hgr hr => ⟨x, h1, h2.abide (hc x W h2) hgr (fun r e => ⟨Nat.le_trans hB (hr r e).1, (hr r e).2⟩), h3.grown hg hgr (fun r e => (hr r e).1)⟩
/-- A block of cells abides it. -/
theorem own_cells {β : Type} {P : Nat → Prop} {arr : Array Value} {T : TypeId} : OwnFrom B (fun (_ : β) W => ∃ b, P b ∧ W.heap[b]? = some (.cells arr T)) :=
  fun s W W' row ⟨b, hb, h⟩ hgr hr => ⟨b, hb, (hgr.block b (Array.getElem?_eq_some_iff.1 h).1 fun e => by
    obtain ⟨_, o, ho, hoc⟩ := hr b e.symm
    rw [h] at ho; injection ho with ho; subst ho; cases hoc).trans h⟩
end
end Go.Proofs.YtmemgpcgjephmaaGreatDoor
