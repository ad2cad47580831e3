/- Contracts of the leaves of package number and value: plain numbers. -/
import Derived.Test.YtdlmcgflgdmjgaaDoorLib
import Derived.Outline
import Derived.BigQuiet
import Derived.Deep.QuietTactic
import Derived.Test.YtdlmcgflgdmjgaaDoorShelf
set_option linter.unusedVariables false
set_option linter.unusedSimpArgs false
namespace Go.Proofs.YtdlmcgflgdmjgaaDoor
open Go.RowKit

def sumR (a b : Int) : Int × Bool := (wrap64 (a + b), decide (b ≥ 0) && decide (wrap64 (a + b) ≥ a) || decide (b < 0) && decide (wrap64 (a + b) < a))
theorem sum_any (a b : Int) (w : World) : Calls Tryd.prog 49 #[.int .i64 a, .int .i64 b] w fun e w' => e = .returned (.tuple #[.int .i64 (sumR a b).1, .bool (sumR a b).2]) ∧ w = w' := by
  go_enter Tryd.func49, Tryd.ntmps49
  go_wp2
  all_goals (go_ret2; refine ⟨?_, rfl⟩; simp [sumR, *])
  all_goals (intros; omega)

def rightB (k n : Int) (s : ByteArray) : Bool :=
  if k = 1 then (if n = 1 then s.toList.isEmpty else n == 0 && s.toList.isEmpty) else if k = 0 then n == 0 && s.toList.isEmpty else if k = 2 ∨ k = 3 then s.toList.isEmpty else if k = 4 ∨ k = 5 then n == 0 && decide ((s.size : Int) ≤ 200) else false
theorem right_any (k n : Int) (s : ByteArray) (w : World) : Calls Tryd.prog 51 #[.agg #[.int .i64 k, .int .i64 n, .string s]] w fun e w' => e = .returned (.bool (rightB k n s)) ∧ Below w.heap.size w w' := by
  go_enter Tryd.func51, Tryd.ntmps51
  go_wp2
  all_goals (go_ret; refine ⟨?_, below_box _ _⟩)
  all_goals (simp_all [rightB]; done)
theorem numeric_any (k n : Int) (s : ByteArray) (w : World) : Calls Tryd.prog 52 #[.agg #[.int .i64 k, .int .i64 n, .string s]] w fun e w' => e = .returned (.bool (k == 2 || k == 3)) ∧ Below w.heap.size w w' := by
  go_enter Tryd.func52, Tryd.ntmps52
  go_wp2
  all_goals (go_ret; refine ⟨?_, below_box _ _⟩)
  all_goals (simp_all; done)
theorem size_any (n : Int) (h0 : -9223372036854775808 ≤ n) (h1 : n ≤ 9223372036854775807) (w : World) : Calls Tryd.prog 65 #[.int .i64 n] w fun e w' => e = .returned (.tuple #[.int .u64 (n.natAbs : Int), .bool (decide (n < 0))]) ∧ w = w' := by
  go_enter Tryd.func65, Tryd.ntmps65
  go_wp2
  all_goals (go_ret2; refine ⟨?_, rfl⟩; simp [*])
  all_goals (try simp only [IntKind.wrap_u64])
  all_goals omega
def fits (x : Int) : Bool := decide (-9223372036854775808 ≤ x) && decide (x ≤ 9223372036854775807)
theorem fits_iff {x : Int} : fits x = true ↔ -9223372036854775808 ≤ x ∧ x ≤ 9223372036854775807 := by simp [fits]
theorem fits_not {x : Int} : fits x = false ↔ x < -9223372036854775808 ∨ 9223372036854775807 < x := by simp [fits]; omega
/-- A number of a sign and a size: does it fit, and as what. -/
def IsFit (v : Int) (x : Int) (ok : Bool) : Prop := ok = fits v ∧ (ok = true → x = v)
theorem fit_any (n : Int) (h0 : 0 ≤ n) (h1 : n ≤ 18446744073709551615) (b : Bool) (w : World) : Calls Tryd.prog 67 #[.int .u64 n, .bool b] w fun e w' => ∃ x ok, e = .returned (.tuple #[.int .i64 x, .bool ok]) ∧ IsFit (if b then -n else n) x ok ∧ w = w' := by
  cases b
  all_goals
    refine calls_hide ?_; intro R hR; go_enter Tryd.func67, Tryd.ntmps67
    go_wp2
    refine hR.out _ _ ⟨_, _, rfl, ?_, rfl⟩
  · refine ⟨by rw [Bool.eq_iff_iff, fits_iff]; simp; omega, fun h => ?_⟩
    simp at h ⊢
    simp only [wrap64]; omega
  · refine ⟨by rw [Bool.eq_iff_iff, fits_iff]; simp; omega, fun h => ?_⟩
    simp at h ⊢
    simp only [wrap64, IntKind.wrap_u64]; omega
theorem cmp64_any (a b : Int) (w : World) : Calls Tryd.prog 69 #[.int .i64 a, .int .i64 b] w fun e w' => e = .returned (.int .i64 (if a < b then -1 else if b < a then 1 else 0)) ∧ w = w' := by
  go_enter Tryd.func69, Tryd.ntmps69
  go_wp2
  all_goals (go_ret; refine ⟨?_, rfl⟩)
  all_goals (simp_all; done)

/-! ### faults that are made -/
/-- A fault of a code at a place, with nothing under it, in block b. -/
def FaultAt (w : World) (b : Nat) (c at_ : Int) : Prop := w.heap[b]? = some (.cells #[.int .i64 c, .int .i64 at_, .nilIface] 87 (0, 0))
theorem FaultAt.lt {w : World} {b : Nat} {c a : Int} (h : FaultAt w b c a) : b < w.heap.size := (Array.getElem?_eq_some_iff.1 h).1
theorem FaultAt.below {w w' : World} {b : Nat} {c a : Int} (h : FaultAt w b c a) (hb : Below w.heap.size w w') : FaultAt w' b c a := (hb.block b h.lt).trans h
abbrev errV (b : Nat) : Value := .iface 85 (.pointer (some ⟨b, 0, none⟩))
theorem new_any (c a : Int) (hc : (c == 0) = false) (w : World) : Calls Tryd.prog 23 #[.int .i64 c, .int .i64 a] w fun e w' => ∃ b, e = .returned (errV b) ∧ w.heap.size ≤ b ∧ FaultAt w' b c a ∧ Below w.heap.size w w' := by
  go_enter Tryd.func23, Tryd.ntmps23
  go_wp2
  go_ret
  refine ⟨w.heap.size, rfl, Nat.le_refl _, ?_, below_box _ _⟩
  exact heap_alloc_new w _
theorem reckons_any (k n : Int) (s : ByteArray) (w : World) : Calls Tryd.prog 47 #[.agg #[.int .i64 k, .int .i64 n, .string s]] w fun e w' => e = .returned (.bool (rightB k n s && (k == 0 || (k == 2 || k == 3)))) ∧ Below w.heap.size w w' := by
  go_enter Tryd.func47, Tryd.ntmps47
  go_wp2_with (first | (go_at_call 51; refine (right_any _ _ _ _).mono ?_; rintro e w1 ⟨rfl, hw1⟩; obtain ⟨hcw1, hfw1⟩ := bcell hw1) | (go_at_call 52; refine (numeric_any _ _ _ _).mono ?_; rintro e w2 ⟨rfl, hw2⟩; obtain ⟨hcw2, hfw2⟩ := bcell hw2))
  all_goals (go_ret; refine ⟨?_, by (repeat' (first | exact Below.refl _ _ | (with_reducible assumption) | refine bl_alloc ?_ _ | refine bl_drewN ?_ _ | refine bl_drew ?_ | refine blw ?_ (by with_reducible assumption)))⟩)
  all_goals (clear hcw1 hfw1; simp_all; done)
/-! ### the numbers that are meant -/
def prom (k n : Int) : Option Int := if k = 3 then some n else if fits (n * 10000) then some (n * 10000) else none

theorem isFit_low {n x : Int} {ok : Bool} (hx : IsFit (if decide (n < 0) = true then -(n.natAbs * 10000 % 18446744073709551616 : Int) else (n.natAbs * 10000 % 18446744073709551616 : Int)) x ok)
    (hz : (n.natAbs : Int) * 10000 / 18446744073709551616 = 0) : IsFit (n * 10000) x ok := by
  have e : (if decide (n < 0) = true then -(n.natAbs * 10000 % 18446744073709551616 : Int) else (n.natAbs * 10000 % 18446744073709551616 : Int)) = n * 10000 := by
    split <;> rename_i h <;> simp at h <;> omega
  rwa [e] at hx
theorem prom_ok {k n x : Int} {ok : Bool} (hk : (k == 3) = false) (ho : ok = true) (hx : IsFit (n * 10000) x ok) : prom k n = some x := by
  subst ho
  have hk' : ¬ k = 3 := by simpa using hk
  unfold prom; rw [if_neg hk', if_pos hx.1.symm, hx.2 rfl]
theorem prom_bad {k n x : Int} {ok : Bool} (hk : (k == 3) = false) (ho : ok = false) (hx : IsFit (n * 10000) x ok) : prom k n = none := by
  subst ho
  have hk' : ¬ k = 3 := by simpa using hk
  unfold prom; rw [if_neg hk', if_neg (by rw [← hx.1]; simp)]
theorem prom_high {k n : Int} (hk : (k == 3) = false) (hz : ¬ (n.natAbs : Int) * 10000 / 18446744073709551616 = 0) : prom k n = none := by
  have hk' : ¬ k = 3 := by simpa using hk
  unfold prom; rw [if_neg hk', if_neg (by rw [Bool.not_eq_true, fits_not]; omega)]
theorem promoted_any (k n a : Int) (s : ByteArray) (h0 : -9223372036854775808 ≤ n) (h1 : n ≤ 9223372036854775807) (w : World) :
    Calls Tryd.prog 48 #[.agg #[.int .i64 k, .int .i64 n, .string s], .int .i64 a] w fun e w' =>
      ((∃ x, prom k n = some x ∧ e = .returned (.tuple #[.int .i64 x, .nilIface])) ∨ (prom k n = none ∧ ∃ b, e = .returned (.tuple #[.int .i64 0, errV b]) ∧ w.heap.size ≤ b ∧ FaultAt w' b 31 a)) ∧ Below w.heap.size w w' := by
  have hm := Tryd.bits_Mul64 n.natAbs 10000 (by omega) (by omega)
  refine calls_hide ?_; intro R hR; go_enter Tryd.func48, Tryd.ntmps48
  go_wp2_with (first | (go_at_call 65; refine (size_any _ (by omega) (by omega) _).mono ?_; rintro e w' ⟨rfl, rfl⟩) | (go_at_call 66; refine (hm _).mono ?_; rintro e w' ⟨rfl, rfl⟩) | (go_at_call 67; refine (fit_any _ (by omega) (by omega) _ _).mono ?_; rintro e w' ⟨x, ok, rfl, hx, rfl⟩) | (go_at_call 23; refine (new_any _ _ (by rfl) _).mono ?_; rintro e w1 ⟨b, rfl, hge, hfa, hb1⟩; simp only [World.size_alloc] at hge))
  all_goals (apply hR.out; clear hR; go_tidy)
  · refine ⟨.inl ⟨_, ?_, rfl⟩, by (repeat' (first | exact Below.refl _ _ | (with_reducible assumption) | refine bl_alloc ?_ _ | refine bl_drewN ?_ _ | refine bl_drew ?_ | refine blw ?_ (by with_reducible assumption)))⟩
    simp_all [prom]
  · exact ⟨.inl ⟨_, prom_ok ‹_› ‹_› (isFit_low hx ‹_›), rfl⟩, by (repeat' (first | exact Below.refl _ _ | (with_reducible assumption) | refine bl_alloc ?_ _ | refine bl_drewN ?_ _ | refine bl_drew ?_ | refine blw ?_ (by with_reducible assumption)))⟩
  · exact ⟨.inr ⟨prom_bad ‹_› ‹_› (isFit_low hx ‹_›), b, rfl, by omega, hfa⟩, by (repeat' (first | exact Below.refl _ _ | (with_reducible assumption) | refine bl_alloc ?_ _ | refine bl_drewN ?_ _ | refine bl_drew ?_ | refine blw ?_ (by with_reducible assumption)))⟩
  · exact ⟨.inr ⟨prom_high ‹_› ‹_›, b, rfl, by omega, hfa⟩, by (repeat' (first | exact Below.refl _ _ | (with_reducible assumption) | refine bl_alloc ?_ _ | refine bl_drewN ?_ _ | refine bl_drew ?_ | refine blw ?_ (by with_reducible assumption)))⟩
/-! ### products and quotients of two words -/
theorem mul64_any (x y : Nat) (hx : x < 18446744073709551616) (hy : y < 18446744073709551616) (w : World) :
    Calls Tryd.prog 66 #[.int .u64 x, .int .u64 y] w fun e w' => ∃ hi lo : Nat, e = .returned (.tuple #[.int .u64 hi, .int .u64 lo]) ∧ Hid (hi * 18446744073709551616 + lo = x * y) ∧ hi < 18446744073709551616 ∧ lo < 18446744073709551616 ∧ w = w' :=
  (Tryd.bits_Mul64 x y hx hy w).mono fun _ _ ⟨he, hw⟩ => ⟨_, _, he, Lib.hid (by omega), by
    have : x * y < 18446744073709551616 * 18446744073709551616 := Nat.mul_lt_mul'' hx hy
    omega, by omega, hw.symm⟩
theorem prom_range {k n x : Int} (h0 : -9223372036854775808 ≤ n) (h1 : n ≤ 9223372036854775807) (h : prom k n = some x) : -9223372036854775808 ≤ x ∧ x ≤ 9223372036854775807 := by
  unfold prom at h
  split at h
  · injection h with h; omega
  · split at h
    · rename_i hf; rw [fits_iff] at hf; injection h with h; omega
    · cases h
/-- The same, what it comes to behind a word. -/
theorem promoted_hid (k n a : Int) (s : ByteArray) (h0 : -9223372036854775808 ≤ n) (h1 : n ≤ 9223372036854775807) (w : World) :
    Calls Tryd.prog 48 #[.agg #[.int .i64 k, .int .i64 n, .string s], .int .i64 a] w fun e w' =>
      ((∃ x, Hid (prom k n = some x) ∧ -9223372036854775808 ≤ x ∧ x ≤ 9223372036854775807 ∧ e = .returned (.tuple #[.int .i64 x, .nilIface])) ∨ (Hid (prom k n = none) ∧ ∃ b, e = .returned (.tuple #[.int .i64 0, errV b]) ∧ w.heap.size ≤ b ∧ FaultAt w' b 31 a)) ∧ Below w.heap.size w w' :=
  (promoted_any k n a s h0 h1 w).mono fun _ _ ⟨h, hb⟩ => ⟨h.elim (fun ⟨x, hx, he⟩ => .inl ⟨x, Lib.hid hx, (prom_range h0 h1 hx).1, (prom_range h0 h1 hx).2, he⟩) (fun ⟨hx, hr⟩ => .inr ⟨Lib.hid hx, hr⟩), hb⟩
end Go.Proofs.YtdlmcgflgdmjgaaDoor
