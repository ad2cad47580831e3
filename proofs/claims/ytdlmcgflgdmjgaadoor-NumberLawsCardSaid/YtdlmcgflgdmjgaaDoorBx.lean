/- A block of cells that later steps leave alone. -/
import Derived.Test.YtdlmcgflgdmjgaaDoorLib
namespace Go.Proofs.YtdlmcgflgdmjgaaDoor
open Go.RowKit

/-- A block of cells, as the walk reads it. -/
structure Bx (w : World) (b : Nat) (cs : Array Value) : Prop where
  cell : ∀ i, w.cell? ⟨b, i, none⟩ = cs[i]?
  free : ∀ i, w.frozen? ⟨b, i, none⟩ = false
  lt : b < w.heap.size
theorem Bx.of_blk {w : World} {b : Nat} {cs : Array Value} {t : TypeId} (h : w.heap[b]? = some (.cells cs t (0, 0))) : Bx w b cs :=
  ⟨fun i => cell_of_row w b i cs t (0, 0) h, fun i => by simp [World.frozen?, h], (Array.getElem?_eq_some_iff.1 h).1⟩
theorem Bx.new (w : World) (cs : Array Value) (t : TypeId) : Bx (w.alloc (.cells cs t)) w.heap.size cs := .of_blk (heap_alloc_new w _)
theorem Bx.below {w w' : World} {b : Nat} {cs : Array Value} (h : Bx w b cs) (hb : Below w.heap.size w w') : Bx w' b cs :=
  ⟨fun i => (hb.cell (p := ⟨b, i, none⟩) h.lt).trans (h.cell i), fun i => (hb.frozen (p := ⟨b, i, none⟩) h.lt).trans (h.free i), Nat.lt_of_lt_of_le h.lt hb.size⟩
theorem Bx.alloc {w : World} {b : Nat} {cs : Array Value} (h : Bx w b cs) (o : Obj) : Bx (w.alloc o) b cs := h.below (below_box w o)
theorem Bx.drewN {w : World} {b : Nat} {cs : Array Value} (h : Bx w b cs) (n : Nat) : Bx (w.drewN n) b cs := ⟨h.cell, h.free, h.lt⟩
/-- A store into the block itself. -/
theorem Bx.set {w : World} {b : Nat} {cs : Array Value} (h : Bx w b cs) (j : Nat) (hj : j < cs.size) (u : Value) : Bx (w.setCell ⟨b, j, none⟩ u) b (cs.setIfInBounds j u) := by
  refine ⟨fun i => ?_, fun i => by rw [World.frozen?_setCell]; exact h.free i, by rw [World.size_setCell]; exact h.lt⟩
  rw [Array.getElem?_setIfInBounds]
  by_cases e : j = i
  · subst e
    rw [if_pos rfl, if_pos hj]
    exact World.cell?_setCell_same _ _ _ ((h.cell j).trans (Array.getElem?_eq_getElem hj))
  · rw [if_neg e, World.cell?_setCell_other _ _ _ _ (by intro h; injection h; omega)]
    exact h.cell i
/-- A store into another block. -/
theorem Bx.far {w : World} {b : Nat} {cs : Array Value} (h : Bx w b cs) {p : Addr} (hp : p.block ≠ b) (u : Value) : Bx (w.setCell p u) b cs := by
  refine ⟨fun i => ?_, fun i => by rw [World.frozen?_setCell]; exact h.free i, by rw [World.size_setCell]; exact h.lt⟩
  rw [World.cell?_setCell_other _ _ _ _ (by intro h; subst h; exact hp rfl)]
  exact h.cell i
end Go.Proofs.YtdlmcgflgdmjgaaDoor
