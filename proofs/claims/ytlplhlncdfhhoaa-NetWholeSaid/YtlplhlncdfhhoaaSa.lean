/- More rules, IV: or of numbers; three results, the first a cell. Over any program. -/
import Derived.Test.YtlplhlncdfhhoaaSd
import Derived.Test.YtlplhlncdfhhoaaSy
import Derived.Test.YtlplhlncdfhhoaaSg
set_option linter.unusedVariables false
set_option linter.unusedSimpArgs false
namespace Go.Proofs.Ytlplhlncdfhhoaa
open Go Go.RowKit
section
variable {P : Program} {n : Nat} {f : Nat → Value} {w : World}
section
variable {d : Option Tmp} {x y : Operand} {ty T T' : TypeId} {pos : String} {aft : Array Edge} {g : Option (Nat × Bool)}
theorem q_or {k : IntKind} {a b : Int} (hx : ev n f x = .int k a) (hy : ev n f y = .int k b) :
    Run P n f ⟨d, .binOp .or T x y T', ty, pos, aft, g⟩ w (.int k (k.wrap ((BitVec.ofInt k.bits a ||| BitVec.ofInt k.bits b).toNat : Int))) := by
  simp [Run, execOp, hx, hy, binOp, eqGuard, Op.intBits, Sem.run]
theorem bv_or {m a b : Nat} (ha : a < 2 ^ m) (hb : b < 2 ^ m) : (BitVec.ofInt m (a : Int) ||| BitVec.ofInt m (b : Int)).toNat = a ||| b := by
  rw [BitVec.toNat_or]
  simp [Nat.mod_eq_of_lt ha, Nat.mod_eq_of_lt hb]
/-- Small numbers without a sign, as naturals. -/
theorem q_orN {k : IntKind} {a b : Nat} (hk : k.signed = false) (hx : ev n f x = .int k (a : Int)) (hy : ev n f y = .int k (b : Int)) (ha : a < 2 ^ k.bits) (hb : b < 2 ^ k.bits) :
    Run P n f ⟨d, .binOp .or T x y T', ty, pos, aft, g⟩ w (.int k ((a ||| b : Nat) : Int)) := by
  have h := q_or (P := P) (w := w) (d := d) (T := T) (T' := T') (ty := ty) (pos := pos) (aft := aft) (g := g) hx hy
  rw [bv_or ha hb, wrap_u hk, Nat.mod_eq_of_lt (Nat.or_lt_two_pow ha hb)] at h
  exact h
end
theorem c_retCTT {fn : Func} {R : Ending → World → Prop} {t u x : Tmp} {T : TypeId} {m b : Nat} {arr : Array Value} {v v' : Value} {T2 : TypeId} {fz : Nat × Nat} (hr : fn.results = #[.cell t T, .tmp u, .tmp x]) (ht : aggB P T = true) (hz : szB P T = some m) (hv : ev n f (.tmp t) = .pointer (some ⟨b, 0, none⟩)) (hb : w.heap[b]? = some (.cells arr T2 fz)) (hm : Nat.beq arr.size m = true) (hu : ev n f (.tmp u) = v) (hx : ev n f (.tmp x) = v')
    (h : R (.returned (.tuple #[.agg arr, v, v'])) w) : bodyPost P fn R .ret (E n f) w := by
  have hm' : arr.size = m := Nat.eq_of_beq_eq_true hm
  refine ⟨rfl, .tuple #[.agg arr, v, v'], ?_, h⟩
  have h1 : (E n f).tmps.getD t undef = .pointer (some ⟨b, 0, none⟩) := by rw [E_get]; exact hv
  have h4 : (E n f).tmps.getD u undef = v := by rw [E_get]; exact hu
  have h5 : (E n f).tmps.getD x undef = v' := by rw [E_get]; exact hx
  have h2 := run_loadCellsFrom (P := P) hb 0 m 0 #[] (by omega)
  have h3 : #[] ++ arr.extract (0 + 0) (0 + 0 + m) = arr := by subst hm'; simp
  rw [h3] at h2
  simp only [Array.getD_eq_getD_getElem?] at h1 h4 h5
  simp [results, hr, h1, h4, h5, asAddr, loadVar, run_isAggT ht, run_sizeOf hz, loadCells, h2, Sem.run]
end
end Go.Proofs.Ytlplhlncdfhhoaa
