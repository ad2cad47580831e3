/- Results of a value and a cell, of two cells. Over any program. -/
import Derived.Test.YtmemgpcgjephmaaDoorSq
set_option linter.unusedVariables false
set_option linter.unusedSimpArgs false
namespace Go.Proofs.YtmemgpcgjephmaaDoor
open Go.RowKit
section
variable {P : Program} {n : Nat} {f : Nat → Value} {w : World}
theorem c_retTC {fn : Func} {R : Ending → World → Prop} {t u : Tmp} {T : TypeId} {m b : Nat} {arr : Array Value} {v : Value} {T2 : TypeId} {fz : Nat × Nat} (hr : fn.results = #[.tmp u, .cell t T]) (ht : aggB P T = true) (hz : szB P T = some m) (hv : ev n f (.tmp t) = .pointer (some ⟨b, 0, none⟩)) (hb : w.heap[b]? = some (.cells arr T2 fz)) (hm : Nat.beq arr.size m = true) (hu : ev n f (.tmp u) = v)
    (h : R (.returned (.tuple #[v, .agg arr])) w) : bodyPost P fn R .ret (E n f) w := by
  have hm' : arr.size = m := Nat.eq_of_beq_eq_true hm
  refine ⟨rfl, .tuple #[v, .agg arr], ?_, h⟩
  have h1 : (E n f).tmps.getD t undef = .pointer (some ⟨b, 0, none⟩) := by rw [E_get]; exact hv
  have h4 : (E n f).tmps.getD u undef = v := by rw [E_get]; exact hu
  have h2 := run_loadCellsFrom (P := P) hb 0 m 0 #[] (by omega)
  have h3 : #[] ++ arr.extract (0 + 0) (0 + 0 + m) = arr := by subst hm'; simp
  rw [h3] at h2
  simp only [Array.getD_eq_getD_getElem?] at h1 h4
  simp [results, hr, h1, h4, asAddr, loadVar, run_isAggT ht, Go.Proofs.YtmemgpcgjephmaaDoor.run_sizeOf hz, loadCells, h2, Sem.run]
theorem c_retCC {fn : Func} {R : Ending → World → Prop} {t t' : Tmp} {T T' : TypeId} {m m2 b b' : Nat} {arr arr' : Array Value} {T2 T3 : TypeId} {fz fz' : Nat × Nat} (hr : fn.results = #[.cell t T, .cell t' T']) (ht : aggB P T = true) (hz : szB P T = some m) (ht' : aggB P T' = true) (hz' : szB P T' = some m2) (hv : ev n f (.tmp t) = .pointer (some ⟨b, 0, none⟩)) (hv' : ev n f (.tmp t') = .pointer (some ⟨b', 0, none⟩)) (hb : w.heap[b]? = some (.cells arr T2 fz)) (hb' : w.heap[b']? = some (.cells arr' T3 fz')) (hm : Nat.beq arr.size m = true) (hm2 : Nat.beq arr'.size m2 = true)
    (h : R (.returned (.tuple #[.agg arr, .agg arr'])) w) : bodyPost P fn R .ret (E n f) w := by
  have e1 : arr.size = m := Nat.eq_of_beq_eq_true hm
  have e2 : arr'.size = m2 := Nat.eq_of_beq_eq_true hm2
  refine ⟨rfl, .tuple #[.agg arr, .agg arr'], ?_, h⟩
  have h1 : (E n f).tmps.getD t undef = .pointer (some ⟨b, 0, none⟩) := by rw [E_get]; exact hv
  have h4 : (E n f).tmps.getD t' undef = .pointer (some ⟨b', 0, none⟩) := by rw [E_get]; exact hv'
  have h2 := run_loadCellsFrom (P := P) hb 0 m 0 #[] (by omega)
  have h5 := run_loadCellsFrom (P := P) hb' 0 m2 0 #[] (by omega)
  have h3 : #[] ++ arr.extract (0 + 0) (0 + 0 + m) = arr := by subst e1; simp
  have h6 : #[] ++ arr'.extract (0 + 0) (0 + 0 + m2) = arr' := by subst e2; simp
  rw [h3] at h2; rw [h6] at h5
  simp only [Array.getD_eq_getD_getElem?] at h1 h4
  simp [results, hr, h1, h4, asAddr, loadVar, run_isAggT ht, run_isAggT ht', Go.Proofs.YtmemgpcgjephmaaDoor.run_sizeOf hz, Go.Proofs.YtmemgpcgjephmaaDoor.run_sizeOf hz', loadCells, h2, h5, Sem.run]
end
end Go.Proofs.YtmemgpcgjephmaaDoor
