/- Rules of the small logic for bits: shifts, exclusive or, small kinds. Over any program. -/
import Derived.Test.YtdlmcgflgdmjgaaDoorSf
set_option linter.unusedVariables false
set_option linter.unusedSimpArgs false
namespace Go.Proofs.YtdlmcgflgdmjgaaDoor
open Go.RowKit
section
variable {P : Program} {n : Nat} {f : Nat → Value} {w : World}
variable {d : Option Tmp} {x y : Operand} {ty T T' : TypeId} {pos : String} {aft : Array Edge} {g : Option (Nat × Bool)}
theorem wrap_nat (k : IntKind) {a : Nat} (h : a < 2 ^ (k.bits - 1)) : k.wrap (a : Int) = (a : Int) := by
  have h2 : a < 2 ^ k.bits := Nat.lt_of_lt_of_le h (Nat.pow_le_pow_right (by omega) (by omega))
  unfold IntKind.wrap
  have e : (a : Int) % (2 ^ k.bits : Int) = (a : Int) := Int.emod_eq_of_lt (by omega) (by exact_mod_cast h2)
  simp only [e]
  rw [if_neg]
  simp only [Bool.and_eq_true, decide_eq_true_eq, not_and]
  intro _ h3
  have : (2 ^ (k.bits - 1) : Int) = ((2 ^ (k.bits - 1) : Nat) : Int) := by simp
  omega
theorem wrap_u {k : IntKind} (hk : k.signed = false) (a : Nat) : k.wrap (a : Int) = ((a % 2 ^ k.bits : Nat) : Int) := by
  unfold IntKind.wrap
  simp [hk]
theorem wrap_u16 (a : Nat) : IntKind.u16.wrap (a : Int) = ((a % 65536 : Nat) : Int) := wrap_u (k := .u16) rfl a
theorem wrap_u8 (a : Nat) : IntKind.u8.wrap (a : Int) = ((a % 256 : Nat) : Int) := wrap_u (k := .u8) rfl a
theorem q_shl {k yk : IntKind} {a b : Int} (hx : ev n f x = .int k a) (hy : ev n f y = .int yk b) (h0 : 0 ≤ b) :
    Run P n f ⟨d, .binOp .shl T x y T', ty, pos, aft, g⟩ w (.int k (k.wrap (a * 2 ^ min b.toNat k.bits))) := by
  simp [Run, execOp, hx, hy, binOp, eqGuard, Op.shift, Int.not_lt.2 h0, Sem.run]
theorem q_shr {k yk : IntKind} {a b : Int} (hx : ev n f x = .int k a) (hy : ev n f y = .int yk b) (h0 : 0 ≤ b) :
    Run P n f ⟨d, .binOp .shr T x y T', ty, pos, aft, g⟩ w (.int k (a.fdiv (2 ^ min b.toNat k.bits))) := by
  simp [Run, execOp, hx, hy, binOp, eqGuard, Op.shift, Int.not_lt.2 h0, Sem.run]
theorem q_xor {k : IntKind} {a b : Int} (hx : ev n f x = .int k a) (hy : ev n f y = .int k b) :
    Run P n f ⟨d, .binOp .xor T x y T', ty, pos, aft, g⟩ w (.int k (k.wrap ((BitVec.ofInt k.bits a ^^^ BitVec.ofInt k.bits b).toNat : Int))) := by
  simp [Run, execOp, hx, hy, binOp, eqGuard, Op.intBits, Sem.run]
theorem bv_xor {m a b : Nat} (ha : a < 2 ^ m) (hb : b < 2 ^ m) : (BitVec.ofInt m (a : Int) ^^^ BitVec.ofInt m (b : Int)).toNat = a ^^^ b := by
  rw [BitVec.toNat_xor]
  simp [Nat.mod_eq_of_lt ha, Nat.mod_eq_of_lt hb]
/-- Small numbers without a sign, as naturals. -/
theorem q_xorN {k : IntKind} {a b : Nat} (m : Nat) (hx : ev n f x = .int k (a : Int)) (hy : ev n f y = .int k (b : Int)) (ha : a < 2 ^ m) (hb : b < 2 ^ m) (hm : (k.signed = false ∧ m = k.bits) ∨ m ≤ k.bits - 1) :
    Run P n f ⟨d, .binOp .xor T x y T', ty, pos, aft, g⟩ w (.int k ((a ^^^ b : Nat) : Int)) := by
  have h := q_xor (P := P) (w := w) (d := d) (T := T) (T' := T') (ty := ty) (pos := pos) (aft := aft) (g := g) hx hy
  have hmb : m ≤ k.bits := by rcases hm with ⟨_, h⟩ | h <;> omega
  have ha' : a < 2 ^ k.bits := Nat.lt_of_lt_of_le ha (Nat.pow_le_pow_right (by omega) hmb)
  have hb' : b < 2 ^ k.bits := Nat.lt_of_lt_of_le hb (Nat.pow_le_pow_right (by omega) hmb)
  rw [bv_xor ha' hb'] at h
  have hlt : a ^^^ b < 2 ^ m := Nat.xor_lt_two_pow ha hb
  have e : k.wrap ((a ^^^ b : Nat) : Int) = ((a ^^^ b : Nat) : Int) := by
    rcases hm with ⟨h1, h2⟩ | h1
    · rw [wrap_u h1, Nat.mod_eq_of_lt (by rw [← h2]; exact hlt)]
    · exact wrap_nat k (Nat.lt_of_lt_of_le hlt (Nat.pow_le_pow_right (by omega) h1))
  rwa [e] at h
theorem q_shrN {k yk : IntKind} {a b : Nat} (hx : ev n f x = .int k (a : Int)) (hy : ev n f y = .int yk (b : Int)) (hb : b ≤ k.bits) :
    Run P n f ⟨d, .binOp .shr T x y T', ty, pos, aft, g⟩ w (.int k ((a / 2 ^ b : Nat) : Int)) := by
  have h := q_shr (P := P) (w := w) (d := d) (T := T) (T' := T') (ty := ty) (pos := pos) (aft := aft) (g := g) hx hy (by omega)
  have e : ((a : Int)).fdiv (2 ^ min ((b : Int)).toNat k.bits) = ((a / 2 ^ b : Nat) : Int) := by
    rw [Int.toNat_natCast, Nat.min_eq_left hb, Int.fdiv_eq_ediv_of_nonneg _ (by exact_mod_cast Nat.zero_le _)]
    push_cast
    rfl
  rwa [e] at h
theorem q_shlU {k yk : IntKind} {a b : Nat} (hk : k.signed = false) (hx : ev n f x = .int k (a : Int)) (hy : ev n f y = .int yk (b : Int)) (hb : b ≤ k.bits) :
    Run P n f ⟨d, .binOp .shl T x y T', ty, pos, aft, g⟩ w (.int k ((a * 2 ^ b % 2 ^ k.bits : Nat) : Int)) := by
  have h := q_shl (P := P) (w := w) (d := d) (T := T) (T' := T') (ty := ty) (pos := pos) (aft := aft) (g := g) hx hy (by omega)
  have e : k.wrap ((a : Int) * 2 ^ min ((b : Int)).toNat k.bits) = ((a * 2 ^ b % 2 ^ k.bits : Nat) : Int) := by
    rw [Int.toNat_natCast, Nat.min_eq_left hb, ← wrap_u hk]
    push_cast
    rfl
  rwa [e] at h
theorem q_mulU {k : IntKind} {a b : Nat} (hk : k.signed = false) (hx : ev n f x = .int k (a : Int)) (hy : ev n f y = .int k (b : Int)) :
    Run P n f ⟨d, .binOp .mul T x y T', ty, pos, aft, g⟩ w (.int k ((a * b % 2 ^ k.bits : Nat) : Int)) := by
  have h := q_mul (P := P) (w := w) (d := d) (T := T) (T' := T') (ty := ty) (pos := pos) (aft := aft) (g := g) hx hy
  have e : k.wrap ((a : Int) * (b : Int)) = ((a * b % 2 ^ k.bits : Nat) : Int) := by rw [← wrap_u hk]; push_cast; rfl
  rwa [e] at h
theorem q_convN {k k' : IntKind} {a : Nat} (hx : ev n f x = .int k (a : Int)) (h : P.underlying T' = some (.int k')) (h2 : (P.underlying T).isSome = true) (hw : k'.wrap (a : Int) = (a : Int)) : Run P n f ⟨d, .convert T T' x, ty, pos, aft, g⟩ w (.int k' (a : Int)) := by
  have := q_conv (w := w) (d := d) (ty := ty) (pos := pos) (aft := aft) (g := g) hx h h2
  rwa [hw] at this
theorem q_remN {k : IntKind} {a b : Nat} (hx : ev n f x = .int k (a : Int)) (hy : ev n f y = .int k (b : Int)) (hb : b ≠ 0) :
    Run P n f ⟨d, .binOp .rem T x y T', ty, pos, aft, g⟩ w (.int k ((a % b : Nat) : Int)) := by
  have h := q_rem (P := P) (w := w) (d := d) (T := T) (T' := T') (ty := ty) (pos := pos) (aft := aft) (g := g) hx hy (by omega)
  have e : ((a : Int)).tmod (b : Int) = ((a % b : Nat) : Int) := by rw [Int.tmod_eq_emod_of_nonneg (by omega)]; rfl
  rwa [e] at h
end
end Go.Proofs.YtdlmcgflgdmjgaaDoor
