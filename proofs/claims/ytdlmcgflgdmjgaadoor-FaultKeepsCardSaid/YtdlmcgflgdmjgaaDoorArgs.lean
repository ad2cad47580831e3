/- A script that is handed in: its acts' cells. -/
import Derived.Test.YtdlmcgflgdmjgaaDoorF8a
import Derived.Deep.Slices
import Derived.Deep.Fields
import Derived.ChangeSame
import Derived.OpenShut
set_option linter.unusedVariables false
set_option linter.unusedSimpArgs false
namespace Go.Proofs.YtdlmcgflgdmjgaaDoor
open Go.RowKit Go.ChangeShapes Go.WideShapes Go.Deep
section
variable {H : Type} {enc : TypeId × Value → H} {P : Program} {w : World} {base : Nat} {spare : Nat → Bool} {held : Bool}
theorem open_slice_fields {t e : TypeId} {fs : Array Field} {fuel : Nat} {cs : List Value} {x : DataW H × List MemPlace} (ht : P.underlying t = some (.slice e)) (he : P.underlying e = some (.struct fs))
    (hone : oneCellFields P fs = true) (hC : P.cellsOf e = fs.size) (h : DataW.trod enc P w base spare held fuel t cs = some x) :
    (cs = [.slice none 0 0] ∧ x = (.nil, [])) ∨
    ∃ (a : Addr) (len cap m : Nat) (D : Nat → DataW H) (Pl : Nat → List MemPlace), cs = [.slice (some a) len cap] ∧ base ≤ a.block ∧ len ≤ cap ∧ cap ≤ maxLen ∧ m = (if spare a.block then cap else len) ∧
      x = (.slice ((List.range len).map D) ((List.range (m - len)).map fun j => D (len + j)), MemPlace.row a (m * fs.size) ++ (List.range m).flatMap Pl) ∧
      ∀ i, i < m → ∃ (ys : List (DataW H × List MemPlace)) (n : Nat), D i = .agg (ys.map (·.1)) ∧ Pl i = ys.flatMap (·.2) ∧ ys.length = fs.size ∧
        ∀ (j : Nat) (f : Field), fs[j]? = some f → ∃ (v : Value) (y : DataW H × List MemPlace), w.cell? (a.add (i * fs.size + j)) = some v ∧ ys[j]? = some y ∧ DataW.trod enc P w base spare held n f.type [v] = some y := by
  rcases open_slice ht h with h0 | ⟨a, len, cap, m, n, D, Pl, hcs, hb, hl, hm, hmm, hx, hi⟩
  · exact .inl h0
  · refine .inr ⟨a, len, cap, m, D, Pl, hcs, hb, hl, hm, hmm, by rw [hC] at hx; exact hx, fun i him => ?_⟩
    obtain ⟨cs', hc, ht'⟩ := hi i him
    rw [hC] at hc
    obtain ⟨ys, n', hn', hy, hlen, hyl, hf⟩ := DataW.trod_struct he ht'
    obtain ⟨_, hcl, hat⟩ := World.cells?_some hc
    simp only [Prod.mk.injEq] at hy
    refine ⟨ys, n', hy.1, hy.2, hyl, fun j f hj => ?_⟩
    obtain ⟨ho, hk⟩ := hone_of hone j f hj
    have hjl : j < fs.size := (Array.getElem?_eq_some_iff.1 hj).1
    have hcell := hat j hjl
    have hv : cs'[j]? = some (cs'[j]'(by omega)) := List.getElem?_eq_getElem (by omega)
    have h1 := hf j f hj
    rw [ho, hk] at h1
    have hone' : (cs'.drop j).take 1 = [cs'[j]'(by omega)] := by
      rw [List.drop_eq_getElem_cons (by omega)]
      rfl
    rw [hone'] at h1
    have hys : ys[j]? = some (ys[j]'(by omega)) := List.getElem?_eq_getElem (by omega)
    refine ⟨_, _, ?_, hys, h1.trans hys⟩
    rw [← Go.Deep.add_add, hcell, hv]
end
theorem acts_of {H : Type} {enc : TypeId × Value → H} {W : World} {sa : Option Addr} {sl sc : Nat} {d : DataW H} {p : List MemPlace} (h : DataW.Trod enc Tryd.prog W 0 (fun _ => true) true 22 (.slice sa sl sc) d p) : ActsR W sa sl := by
  obtain ⟨fuel, h⟩ := h
  have h' := open_slice_fields (fs := _) Tryd.underlying22 Tryd.underlying80 (by kernel_rfl) (by kernel_rfl) h
  rcases h' with ⟨h1, _⟩ | ⟨a, len, cap, m, D, Pl, h1, _, hl, _, hm, _, hi⟩
  · have : (Value.slice sa sl sc).cells.toList = [.slice sa sl sc] := rfl
    rw [this] at h1
    injection h1 with h1 _
    injection h1 with h1 h2 h3
    intro i hlt; omega
  · have : (Value.slice sa sl sc).cells.toList = [.slice sa sl sc] := rfl
    rw [this] at h1
    injection h1 with h1 _
    injection h1 with h1 h2 h3
    subst h1 h2 h3
    simp only [if_true] at hm
    subst hm
    intro i hlt
    obtain ⟨ys, n, _, _, _, hf⟩ := hi i (by omega)
    obtain ⟨v0, y0, c0, _, t0⟩ := hf 0 _ rfl
    obtain ⟨v1, y1, c1, _, t1⟩ := hf 1 _ rfl
    obtain ⟨v2, y2, c2, _, t2⟩ := hf 2 _ rfl
    obtain ⟨v3, y3, c3, _, t3⟩ := hf 3 _ rfl
    obtain ⟨v4, y4, c4, _, t4⟩ := hf 4 _ rfl
    obtain ⟨k0, e0, _, w0⟩ := DataW.trod_int Tryd.underlying3 t0
    obtain ⟨k1, e1, _, w1⟩ := DataW.trod_int Tryd.underlying3 t1
    obtain ⟨k2, e2, _, w2⟩ := DataW.trod_int Tryd.underlying3 t2
    obtain ⟨k3, e3, _, w3⟩ := DataW.trod_int Tryd.underlying23 t3
    obtain ⟨k4, e4, _, w4⟩ := DataW.trod_int Tryd.underlying3 t4
    injection e0 with e0 _; injection e1 with e1 _; injection e2 with e2 _; injection e3 with e3 _; injection e4 with e4 _
    subst e0 e1 e2 e3 e4
    obtain ⟨ab, ao, asp⟩ := a
    have hsp : asp = none := by
      obtain ⟨ys', n', _, _, _, hf'⟩ := hi 0 (by omega)
      obtain ⟨u0, z0, c00, _, _⟩ := hf' 0 _ rfl
      cases asp with
      | none => rfl
      | some q => simp [World.cell?, Addr.add] at c00; split at c00 <;> simp at c00
    subst hsp
    have hadd : ∀ q, Addr.add ⟨ab, ao, none⟩ q = ⟨ab, ao + q, none⟩ := fun q => by unfold Addr.add; split <;> simp_all
    have hlt' : ab < W.heap.size := by
      rcases Nat.lt_or_ge ab W.heap.size with h | h
      · exact h
      · rw [hadd] at c0; simp [World.cell?, Array.getElem?_eq_none h] at c0
    have b1 := bounds_i64 w1
    have b2 := bounds_i64 w2
    refine ⟨ab, ao, k0, k1, k2, k3, k4, rfl, ⟨hlt', id⟩, b1.1, b2.1, fun j u hu => ?_⟩
    rw [Int.toNat_natCast]
    have hfs : ∀ q : Nat, ao + i * 5 + q = ao + (i * 5 + q) := fun q => by omega
    rw [hfs, ← hadd]
    match j, hu with
    | 0, hu => simp at hu; subst hu; exact c0
    | 1, hu => simp at hu; subst hu; exact c1
    | 2, hu => simp at hu; subst hu; exact c2
    | 3, hu => simp at hu; subst hu; exact c3
    | 4, hu => simp at hu; subst hu; exact c4
    | j + 5, hu => simp at hu
end Go.Proofs.YtdlmcgflgdmjgaaDoor
