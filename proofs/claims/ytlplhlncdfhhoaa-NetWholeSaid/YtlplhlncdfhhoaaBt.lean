/- Bits: and, and not, or, xor of numbers, the sign's shift. Over any program. -/
import Derived.Test.YtlplhlncdfhhoaaSa
import Derived.Test.YtlplhlncdfhhoaaSc
import Derived.Deep.AppendSrc
set_option linter.unusedVariables false
set_option linter.unusedSimpArgs false
namespace Go.Proofs.Ytlplhlncdfhhoaa
open Go Go.RowKit
section
variable {P : Program} {n : Nat} {f : Nat → Value} {w : World}
variable {d : Option Tmp} {x y : Operand} {ty T T' : TypeId} {pos : String} {aft : Array Edge} {g : Option (Nat × Bool)}
theorem q_and {k : IntKind} {a b : Int} (hx : ev n f x = .int k a) (hy : ev n f y = .int k b) :
    Run P n f ⟨d, .binOp .and T x y T', ty, pos, aft, g⟩ w (.int k (k.wrap ((BitVec.ofInt k.bits a &&& BitVec.ofInt k.bits b).toNat : Int))) := by
  simp [Run, execOp, hx, hy, binOp, eqGuard, Op.intBits, Sem.run]
theorem q_andNot {k : IntKind} {a b : Int} (hx : ev n f x = .int k a) (hy : ev n f y = .int k b) :
    Run P n f ⟨d, .binOp .andNot T x y T', ty, pos, aft, g⟩ w (.int k (k.wrap ((BitVec.ofInt k.bits a &&& ~~~BitVec.ofInt k.bits b).toNat : Int))) := by
  simp [Run, execOp, hx, hy, binOp, eqGuard, Op.intBits, Sem.run]
/-- A number that its kind can hold, as a natural number. -/
theorem wrap_small {k : IntKind} {a m : Nat} (h : a < 2 ^ m) (hm : (k.signed = false ∧ m = k.bits) ∨ m ≤ k.bits - 1) : k.wrap (a : Int) = (a : Int) := by
  rcases hm with ⟨h1, h2⟩ | hm
  · subst h2; rw [wrap_u h1, Nat.mod_eq_of_lt h]
  · exact wrap_nat k (Nat.lt_of_lt_of_le h (Nat.pow_le_pow_right (by omega) hm))
theorem bits_le {k : IntKind} {m : Nat} (hm : (k.signed = false ∧ m = k.bits) ∨ m ≤ k.bits - 1) : m ≤ k.bits := by rcases hm with ⟨_, h⟩ | h <;> omega
theorem q_andN {k : IntKind} {a b : Nat} (m : Nat) (hx : ev n f x = .int k (a : Int)) (hy : ev n f y = .int k (b : Int)) (ha : a < 2 ^ m) (hb : b < 2 ^ m) (hm : (k.signed = false ∧ m = k.bits) ∨ m ≤ k.bits - 1) :
    Run P n f ⟨d, .binOp .and T x y T', ty, pos, aft, g⟩ w (.int k ((a &&& b : Nat) : Int)) := by
  have h := q_and (P := P) (w := w) (d := d) (T := T) (T' := T') (ty := ty) (pos := pos) (aft := aft) (g := g) hx hy
  have hl := Nat.pow_le_pow_right (n := 2) (by omega) (bits_le hm)
  have e : (BitVec.ofInt k.bits (a : Int) &&& BitVec.ofInt k.bits (b : Int)).toNat = a &&& b := by
    rw [BitVec.toNat_and]
    simp [Nat.mod_eq_of_lt (Nat.lt_of_lt_of_le ha hl), Nat.mod_eq_of_lt (Nat.lt_of_lt_of_le hb hl)]
  rw [e, wrap_small (Nat.lt_of_le_of_lt Nat.and_le_left ha) hm] at h
  exact h
/-- and with 2^j - 1. -/
theorem q_andP {k : IntKind} {a j M : Nat} (m : Nat) {c : Int} (hx : ev n f x = .int k (a : Int)) (hy : ev n f y = .int k c) (hc : c = ((M - 1 : Nat) : Int)) (hM : 2 ^ j = M) (hj : M - 1 < 2 ^ m) (ha : a < 2 ^ m) (hm : (k.signed = false ∧ m = k.bits) ∨ m ≤ k.bits - 1) :
    Run P n f ⟨d, .binOp .and T x y T', ty, pos, aft, g⟩ w (.int k ((a % M : Nat) : Int)) := by
  subst hc hM
  have h := q_andN (P := P) (w := w) (d := d) (T := T) (T' := T') (ty := ty) (pos := pos) (aft := aft) (g := g) m hx hy ha hj hm
  rwa [Nat.and_two_pow_sub_one_eq_mod] at h
theorem q_orS {k : IntKind} {a b : Nat} (m : Nat) (hx : ev n f x = .int k (a : Int)) (hy : ev n f y = .int k (b : Int)) (ha : a < 2 ^ m) (hb : b < 2 ^ m) (hm : (k.signed = false ∧ m = k.bits) ∨ m ≤ k.bits - 1) :
    Run P n f ⟨d, .binOp .or T x y T', ty, pos, aft, g⟩ w (.int k ((a ||| b : Nat) : Int)) := by
  have h := q_or (P := P) (w := w) (d := d) (T := T) (T' := T') (ty := ty) (pos := pos) (aft := aft) (g := g) hx hy
  have hl := Nat.pow_le_pow_right (n := 2) (by omega) (bits_le hm)
  rw [bv_or (Nat.lt_of_lt_of_le ha hl) (Nat.lt_of_lt_of_le hb hl), wrap_small (Nat.or_lt_two_pow ha hb) hm] at h
  exact h
theorem q_andNotN {k : IntKind} {a b : Nat} (m : Nat) (hx : ev n f x = .int k (a : Int)) (hy : ev n f y = .int k (b : Int)) (ha : a < 2 ^ m) (hb : b < 2 ^ m) (hm : (k.signed = false ∧ m = k.bits) ∨ m ≤ k.bits - 1) :
    Run P n f ⟨d, .binOp .andNot T x y T', ty, pos, aft, g⟩ w (.int k ((a ^^^ (a &&& b) : Nat) : Int)) := by
  have h := q_andNot (P := P) (w := w) (d := d) (T := T) (T' := T') (ty := ty) (pos := pos) (aft := aft) (g := g) hx hy
  have hl := Nat.pow_le_pow_right (n := 2) (by omega) (bits_le hm)
  have e1 : ∀ (A B : BitVec k.bits), A &&& ~~~B = A ^^^ (A &&& B) := by
    intro A B
    apply BitVec.eq_of_getElem_eq
    intro i hi
    simp only [BitVec.getElem_and, BitVec.getElem_not, BitVec.getElem_xor]
    cases A[i] <;> cases B[i] <;> rfl
  have e : (BitVec.ofInt k.bits (a : Int) &&& ~~~BitVec.ofInt k.bits (b : Int)).toNat = a ^^^ (a &&& b) := by
    rw [e1, BitVec.toNat_xor, BitVec.toNat_and]
    simp [Nat.mod_eq_of_lt (Nat.lt_of_lt_of_le ha hl), Nat.mod_eq_of_lt (Nat.lt_of_lt_of_le hb hl)]
  rw [e, wrap_small (Nat.xor_lt_two_pow ha (Nat.lt_of_le_of_lt Nat.and_le_left ha)) hm] at h
  exact h
theorem u_sub {k : IntKind} {a b : Nat} (hk : k.signed = false) (hx : ev n f x = .int k (a : Int)) (hy : ev n f y = .int k (b : Int)) (h : b ≤ a) (ha : a < 2 ^ k.bits) : Run P n f ⟨d, .binOp .sub T x y T', ty, pos, aft, g⟩ w (.int k ((a - b : Nat) : Int)) := by
  have := q_sub (P := P) (w := w) (d := d) (T := T) (T' := T') (ty := ty) (pos := pos) (aft := aft) (g := g) hx hy
  rwa [show (a : Int) - (b : Int) = ((a - b : Nat) : Int) from by omega, wrap_u hk, Nat.mod_eq_of_lt (by omega)] at this
/-- The sign, of 64 bits. -/
theorem q_sar63 {a : Int} (hx : ev n f x = .int .i64 a) (h1 : -9223372036854775808 ≤ a) (h2 : a ≤ 9223372036854775807) {yk : IntKind} (hy : ev n f y = .int yk 63) :
    Run P n f ⟨d, .binOp .shr T x y T', ty, pos, aft, g⟩ w (.int .i64 (if a < 0 then -1 else 0)) := by
  have h := q_shr (P := P) (w := w) (d := d) (T := T) (T' := T') (ty := ty) (pos := pos) (aft := aft) (g := g) hx hy (by decide)
  have e : a.fdiv (2 ^ min (63 : Int).toNat IntKind.i64.bits) = if a < 0 then -1 else 0 := by
    have : (2 : Int) ^ min (63 : Int).toNat IntKind.i64.bits = 9223372036854775808 := by decide
    rw [this, Int.fdiv_eq_ediv_of_nonneg _ (by decide)]
    split <;> omega
  rwa [e] at h
theorem xor_ones {a : Nat} (h : a < 2 ^ 64) : a ^^^ (2 ^ 64 - 1) = 2 ^ 64 - 1 - a := by
  apply Nat.eq_of_testBit_eq
  intro i
  rw [Nat.testBit_xor, Nat.testBit_two_pow_sub_one, show 2 ^ 64 - 1 - a = 2 ^ 64 - (a + 1) from by omega, Nat.testBit_two_pow_sub_succ h]
  by_cases hi : i < 64
  · simp [hi]
  · have : a.testBit i = false := Nat.testBit_lt_two_pow (Nat.lt_of_lt_of_le h (Nat.pow_le_pow_right (by omega) (by omega)))
    simp [hi, this]
theorem toU_sign (z : Int) : toU (if z < 0 then -1 else 0) = if z < 0 then 2 ^ 64 - 1 else 0 := by unfold toU; split <;> rfl
/-- The xor of a number below 2^63 with 0 or all bits. -/
theorem q_xorSign {a b : Nat} (hx : ev n f x = .int .i64 (a : Int)) {z : Int} (hy : ev n f y = .int .i64 z) (hz : z = if b = 1 then -1 else 0) (ha : a < 9223372036854775808) :
    Run P n f ⟨d, .binOp .xor T x y T', ty, pos, aft, g⟩ w (.int .i64 (if b = 1 then -(a : Int) - 1 else (a : Int))) := by
  have h := q_xor (P := P) (w := w) (d := d) (T := T) (T' := T') (ty := ty) (pos := pos) (aft := aft) (g := g) hx hy
  have hb : IntKind.i64.bits = 64 := rfl
  have ea : (BitVec.ofInt 64 (a : Int)).toNat = a := by simp; omega
  subst hz
  by_cases h1 : b = 1
  · rw [if_pos h1] at h ⊢
    have e1 : (BitVec.ofInt 64 (-1)).toNat = 2 ^ 64 - 1 := by decide
    have e : (BitVec.ofInt 64 (a : Int) ^^^ BitVec.ofInt 64 (-1)).toNat = 2 ^ 64 - 1 - a := by
      rw [BitVec.toNat_xor, ea, e1, xor_ones (by omega)]
    have e2 : IntKind.i64.wrap ((2 ^ 64 - 1 - a : Nat) : Int) = -(a : Int) - 1 := by
      rw [IntKind.wrap_i64]
      try unfold wrap64
      omega
    have h' : Run P n f ⟨d, .binOp .xor T x y T', ty, pos, aft, g⟩ w (.int .i64 (IntKind.i64.wrap ((BitVec.ofInt 64 (a : Int) ^^^ BitVec.ofInt 64 (-1)).toNat : Int))) := h
    rwa [e, e2] at h'
  · rw [if_neg h1] at h ⊢
    have e : (BitVec.ofInt 64 (a : Int) ^^^ BitVec.ofInt 64 0).toNat = a := by
      rw [BitVec.toNat_xor, ea]; simp
    have h' : Run P n f ⟨d, .binOp .xor T x y T', ty, pos, aft, g⟩ w (.int .i64 (IntKind.i64.wrap ((BitVec.ofInt 64 (a : Int) ^^^ BitVec.ofInt 64 0).toNat : Int))) := h
    rwa [e, wrap_in (by omega) (by omega)] at h'
end
theorem bytes_cells {l : List Nat} (h : Bytes l) : Go.byteCells (bs l) = bv l := by
  unfold Go.byteCells
  rw [bs_data, List.map_map]
  unfold bv
  refine List.map_congr_left fun x hx => ?_
  have := h x hx
  show Value.int .u8 (((UInt8.ofNat x).toNat : Nat) : Int) = _
  rw [UInt8.toNat_ofNat', Nat.mod_eq_of_lt (by omega)]
/-- A string's bytes, as what is appended. -/
theorem src_str {P : Program} {Tx : TypeId} {w : World} {l : List Nat} (ht : stB P Tx = true) (h : Bytes l) : Src P 1 Tx (.string (bs l)) l.length (bv l) w := by
  have := Src.ofString (P := P) w (stB_und ht) (bs l)
  rwa [bytes_cells h, bs_size] at this
end Go.Proofs.Ytlplhlncdfhhoaa
