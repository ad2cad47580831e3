/- An array of three numbers, or of three bools, by value: opened and shut. -/
import Derived.ChangeShapes
import Derived.WideShapes
import Derived.RowKit
import Derived.Laws.IdiomArrays
namespace Go.Proofs.YtdlmcgflgdmjgaaDoor
open Go.ChangeShapes Go.WideShapes Go.RowKit
variable {H : Type} {enc : TypeId × Value → H} {P : Program} {w : World} {base : Nat} {spare : Nat → Bool} {held : Bool}
theorem okWide_arr3 {r : Reach} {b0 : Nat} {t e : TypeId} {v : Value} (ht : P.underlying t = some (.array 3 e)) (hc : P.cellsOf t = 3) (h : Value.okWide P w r b0 t v) : ∃ c0 c1 c2, v = .agg #[c0, c1, c2] := by
  unfold Value.okWide at h
  rw [ht] at h
  obtain ⟨cs, rfl, hs, _⟩ := h
  rw [hc] at hs
  obtain ⟨l⟩ := cs
  match l, hs with
  | [c0, c1, c2], _ => exact ⟨c0, c1, c2, rfl⟩
theorem open_ints3 {r : Reach} {b0 : Nat} {t e : TypeId} {k : IntKind} {v : Value} {d : DataW H} {ps : List MemPlace} (ht : P.underlying t = some (.array 3 e)) (he : P.underlying e = some (.int k)) (hc : P.cellsOf t = 3) (hce : P.cellsOf e = 1)
    (hval : Value.okWide P w r b0 t v) (hd : DataW.Trod enc P w base spare held t v d ps) :
    ∃ n0 n1 n2, v = .agg #[.int k n0, .int k n1, .int k n2] ∧ d = .agg [.lit (.int k n0), .lit (.int k n1), .lit (.int k n2)] ∧ ps = [] ∧ (Lit.int k n0).wf = true ∧ (Lit.int k n1).wf = true ∧ (Lit.int k n2).wf = true := by
  obtain ⟨c0, c1, c2, rfl⟩ := okWide_arr3 ht hc hval
  obtain ⟨fuel, hf⟩ := hd
  obtain ⟨y0, y1, y2, m, hx, h0, h1, h2⟩ := trod_array3 ht hce (by simpa [Value.cells] using hf)
  obtain ⟨n0, g0, rfl, w0⟩ := DataW.trod_int he h0
  obtain ⟨n1, g1, rfl, w1⟩ := DataW.trod_int he h1
  obtain ⟨n2, g2, rfl, w2⟩ := DataW.trod_int he h2
  simp at g0 g1 g2
  subst g0; subst g1; subst g2
  simp only [Prod.mk.injEq] at hx
  exact ⟨n0, n1, n2, rfl, hx.1, by simpa using hx.2, w0, w1, w2⟩
theorem open_bools3 {r : Reach} {b0 : Nat} {t e : TypeId} {v : Value} {d : DataW H} {ps : List MemPlace} (ht : P.underlying t = some (.array 3 e)) (he : P.underlying e = some .bool) (hc : P.cellsOf t = 3) (hce : P.cellsOf e = 1)
    (hval : Value.okWide P w r b0 t v) (hd : DataW.Trod enc P w base spare held t v d ps) :
    ∃ n0 n1 n2, v = .agg #[.bool n0, .bool n1, .bool n2] ∧ d = .agg [.lit (.bool n0), .lit (.bool n1), .lit (.bool n2)] ∧ ps = [] := by
  obtain ⟨c0, c1, c2, rfl⟩ := okWide_arr3 ht hc hval
  obtain ⟨fuel, hf⟩ := hd
  obtain ⟨y0, y1, y2, m, hx, h0, h1, h2⟩ := trod_array3 ht hce (by simpa [Value.cells] using hf)
  obtain ⟨n0, g0, rfl⟩ := DataW.trod_bool he h0
  obtain ⟨n1, g1, rfl⟩ := DataW.trod_bool he h1
  obtain ⟨n2, g2, rfl⟩ := DataW.trod_bool he h2
  simp at g0 g1 g2
  subst g0; subst g1; subst g2
  simp only [Prod.mk.injEq] at hx
  exact ⟨n0, n1, n2, rfl, hx.1, by simpa using hx.2⟩
theorem shut_ints3 {t e : TypeId} {k : IntKind} {n0 n1 n2 : Int} (ht : P.underlying t = some (.array 3 e)) (he : P.underlying e = some (.int k)) (hc : P.cellsOf t = 3) (hce : P.cellsOf e = 1) (w0 : (Lit.int k n0).wf = true) (w1 : (Lit.int k n1).wf = true) (w2 : (Lit.int k n2).wf = true) :
    DataW.Trod enc P w base spare held t (.agg #[.int k n0, .int k n1, .int k n2]) (.agg [.lit (.int k n0), .lit (.int k n1), .lit (.int k n2)]) [] := by
  refine ⟨2, ?_⟩
  have r3 : List.range 3 = [0, 1, 2] := rfl
  simp [DataW.trod, Value.cells, ht, he, hc, hce, r3, w0, w1, w2]
theorem shut_bools3 {t e : TypeId} {n0 n1 n2 : Bool} (ht : P.underlying t = some (.array 3 e)) (he : P.underlying e = some .bool) (hc : P.cellsOf t = 3) (hce : P.cellsOf e = 1) :
    DataW.Trod enc P w base spare held t (.agg #[.bool n0, .bool n1, .bool n2]) (.agg [.lit (.bool n0), .lit (.bool n1), .lit (.bool n2)]) [] := by
  refine ⟨2, ?_⟩
  have r3 : List.range 3 = [0, 1, 2] := rfl
  simp [DataW.trod, Value.cells, ht, he, hc, hce, r3]
end Go.Proofs.YtdlmcgflgdmjgaaDoor
