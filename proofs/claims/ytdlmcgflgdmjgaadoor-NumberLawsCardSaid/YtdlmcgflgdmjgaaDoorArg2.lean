/- An array of two bools by value: opened and shut. -/
import Derived.ChangeShapes
import Derived.WideShapes
import Derived.RowKit
import Derived.Laws.IdiomArrays
namespace Go.Proofs.YtdlmcgflgdmjgaaDoor
open Go.ChangeShapes Go.WideShapes Go.RowKit
variable {H : Type} {enc : TypeId × Value → H} {P : Program} {w : World} {base : Nat} {spare : Nat → Bool} {held : Bool}
theorem okWide_arr2 {r : Reach} {b0 : Nat} {t e : TypeId} {v : Value} (ht : P.underlying t = some (.array 2 e)) (hc : P.cellsOf t = 2) (h : Value.okWide P w r b0 t v) : ∃ c0 c1, v = .agg #[c0, c1] := by
  unfold Value.okWide at h
  rw [ht] at h
  obtain ⟨cs, rfl, hs, _⟩ := h
  rw [hc] at hs
  obtain ⟨l⟩ := cs
  match l, hs with
  | [c0, c1], _ => exact ⟨c0, c1, rfl⟩
theorem trod_array2 {t e : TypeId} {fuel : Nat} {c0 c1 : Value} {x : DataW H × List MemPlace} (ht : P.underlying t = some (.array 2 e)) (hce : P.cellsOf e = 1)
    (h : DataW.trod enc P w base spare held fuel t [c0, c1] = some x) :
    ∃ y0 y1 n, x = (.agg [y0.1, y1.1], y0.2 ++ y1.2) ∧ DataW.trod enc P w base spare held n e [c0] = some y0 ∧ DataW.trod enc P w base spare held n e [c1] = some y1 := by
  cases fuel with
  | zero => simp [DataW.trod] at h
  | succ n =>
    unfold DataW.trod at h
    rw [ht] at h
    have r2 : List.range 2 = [0, 1] := rfl
    simp [r2, hce] at h
    obtain ⟨_, h⟩ := h
    cases h0 : DataW.trod enc P w base spare held n e [c0] with
    | none => simp [h0] at h
    | some y0 =>
      cases h1 : DataW.trod enc P w base spare held n e [c1] with
      | none => simp [h0, h1] at h
      | some y1 =>
        simp [h0, h1] at h
        exact ⟨y0, y1, n, h.symm, h0, h1⟩
theorem open_bools2 {r : Reach} {b0 : Nat} {t e : TypeId} {v : Value} {d : DataW H} {ps : List MemPlace} (ht : P.underlying t = some (.array 2 e)) (he : P.underlying e = some .bool) (hc : P.cellsOf t = 2) (hce : P.cellsOf e = 1)
    (hval : Value.okWide P w r b0 t v) (hd : DataW.Trod enc P w base spare held t v d ps) :
    ∃ n0 n1, v = .agg #[.bool n0, .bool n1] ∧ d = .agg [.lit (.bool n0), .lit (.bool n1)] ∧ ps = [] := by
  obtain ⟨c0, c1, rfl⟩ := okWide_arr2 ht hc hval
  obtain ⟨fuel, hf⟩ := hd
  obtain ⟨y0, y1, m, hx, h0, h1⟩ := trod_array2 ht hce (by simpa [Value.cells] using hf)
  obtain ⟨n0, g0, rfl⟩ := DataW.trod_bool he h0
  obtain ⟨n1, g1, rfl⟩ := DataW.trod_bool he h1
  simp at g0 g1
  subst g0; subst g1
  simp only [Prod.mk.injEq] at hx
  exact ⟨n0, n1, rfl, hx.1, by simpa using hx.2⟩
theorem shut_bools2 {t e : TypeId} {n0 n1 : Bool} (ht : P.underlying t = some (.array 2 e)) (he : P.underlying e = some .bool) (hc : P.cellsOf t = 2) (hce : P.cellsOf e = 1) :
    DataW.Trod enc P w base spare held t (.agg #[.bool n0, .bool n1]) (.agg [.lit (.bool n0), .lit (.bool n1)]) [] := by
  refine ⟨2, ?_⟩
  have r2 : List.range 2 = [0, 1] := rfl
  simp [DataW.trod, Value.cells, ht, he, hc, hce, r2]
end Go.Proofs.YtdlmcgflgdmjgaaDoor
