/- NumberCompares: its arguments, opened. -/
import Derived.Test.YtdlmcgflgdmjgaaDoorQ1
import Derived.Test.YtdlmcgflgdmjgaaDoorSo
import Derived.SizedLaws
set_option linter.unusedVariables false
set_option linter.unusedSimpArgs false
namespace Go.Proofs.YtdlmcgflgdmjgaaDoor
open Go.RowKit Go.ChangeShapes Go.WideShapes
theorem laidOutK : laidOutB Tryd.prog = true := by kernel_rfl
theorem bs_of (s : ByteArray) : ∃ l, s = bs l ∧ Bytes l := by
  refine ⟨s.data.toList.map (·.toNat), ?_, fun x hx => ?_⟩
  · apply ByteArray.ext
    apply Array.ext'
    rw [bs_data, List.map_map]
    have : (UInt8.ofNat ∘ fun x : UInt8 => x.toNat) = id := by funext x; simp
    rw [this, List.map_id]
  · obtain ⟨y, _, rfl⟩ := List.mem_map.1 hx
    exact y.toNat_lt
section
variable {H : Type} {enc : TypeId × Value → H} {W : World} {base : Nat} {spare : Nat → Bool} {held : Bool}
theorem opn_vl {n : Nat} {c : List Value} {y : DataW H × List MemPlace} (h : DataW.trod enc Tryd.prog W base spare held n 51 c = some y) : ∃ a, c = vl a ∧ VOk a := by
  obtain ⟨hl, n', hf⟩ := opn_fields (fs := _) Tryd.underlying51 (by kernel_rfl) (by kernel_rfl) h
  match c, hl with
  | [v0, v1, v2], _ =>
    obtain ⟨z0, t0⟩ := hf 0 _ _ rfl rfl
    obtain ⟨z1, t1⟩ := hf 1 _ _ rfl rfl
    obtain ⟨z2, t2⟩ := hf 2 _ _ rfl rfl
    obtain ⟨k0, e0, _, w0⟩ := DataW.trod_int Tryd.underlying49 t0
    obtain ⟨k1, e1, _, w1⟩ := DataW.trod_int Tryd.underlying2 t1
    obtain ⟨s, e2, _, _⟩ := DataW.trod_string Tryd.underlying9 t2
    injection e0 with e0 _; injection e1 with e1 _; injection e2 with e2 _
    obtain ⟨l, rfl, hB⟩ := bs_of s
    subst e0 e1 e2
    exact ⟨(k0, k1, l), rfl, hB, bnd_i64 w0, bnd_i64 w1⟩
set_option maxRecDepth 100000 in
/-- A value by value. -/
theorem opn_val {r : Reach} {b0 : Nat} {v : Value} {d : DataW H} {p : List MemPlace} (hv : Value.okWide Tryd.prog W r b0 51 v) (h : DataW.Trod enc Tryd.prog W base spare held 51 v d p) : ∃ a, v = .agg (vl a).toArray ∧ VOk a := by
  obtain ⟨cs, rfl, _⟩ := okWide_struct (fs := _) Tryd.underlying51 hv
  obtain ⟨fu, h⟩ := h
  obtain ⟨a, ha, hok⟩ := opn_vl h
  refine ⟨a, ?_, hok⟩
  rw [← ha]; rfl
end
end Go.Proofs.YtdlmcgflgdmjgaaDoor
