/- number.Reckon's answer in one form, whether a fault comes or not. -/
import Derived.Test.YtdlmcgflgdmjgaaDoorN8
import Derived.Test.YtdlmcgflgdmjgaaDoorBx
import Derived.Test.YtdlmcgflgdmjgaaDoorEq
import Derived.Test.YtdlmcgflgdmjgaaDoorL2a
set_option linter.unusedVariables false
set_option linter.unusedSimpArgs false
namespace Go.Proofs.YtdlmcgflgdmjgaaDoor
open Go.RowKit
def rK : RM → Int | .ok k _ => k | .bad _ _ => 0
def rN : RM → Int | .ok _ n => n | .bad _ _ => 0
def rOk : RM → Bool | .ok _ _ => true | .bad _ _ => false
/-- An error that is nil just when ok says so; the walk's rules for it. -/
structure IsNil (er : Value) (ok : Bool) : Prop where
  eql : ∀ w, (binOp .eql 29 er .nilIface).run Tryd.prog w = .ok (.bool ok) w
  neq : ∀ w, (binOp .neq 29 er .nilIface).run Tryd.prog w = .ok (.bool (!ok)) w
  guard : ∀ op x v w, (eqGuard op 29 x (.const v) er .nilIface).run Tryd.prog w = .ok () w
theorem isNil_nil : IsNil .nilIface true := ⟨fun w => by simp [go_sem], fun w => by simp [go_sem], fun op x v w => by cases op <;> simp [eqGuard]⟩
theorem isNil_err (b : Nat) : IsNil (errV b) false := ⟨fun w => by simp [go_sem, errV], fun w => by simp [go_sem, errV], fun op x v w => by cases op <;> simp [eqGuard, errV]⟩
theorem reckon_any (op k n l m : Int) (ha : Num k n) (hb : Num l m) (w : World) : Calls Tryd.prog 29 #[.int .i64 op, valV k n, valV l m] w fun e w' =>
    (∃ K N o er, e = .returned (.tuple #[valV K N, er]) ∧ IsNil er o ∧ Hid (rK (reckM op k n l m) = K ∧ rN (reckM op k n l m) = N ∧ rOk (reckM op k n l m) = o)) ∧ Below w.heap.size w w' := by
  refine (reckon_num op k n l m ha hb w).mono fun e w' ⟨h, hw⟩ => ⟨?_, hw⟩
  cases hr : reckM op k n l m with
  | ok K X => rw [hr] at h; exact ⟨_, _, _, .nilIface, h, isNil_nil, Lib.hid ⟨rfl, rfl, rfl⟩⟩
  | bad c a => rw [hr] at h; obtain ⟨b, h, _⟩ := h; exact ⟨_, _, _, errV b, h, isNil_err b, Lib.hid ⟨rfl, rfl, rfl⟩⟩
theorem neg_any (k n : Int) (ha : Num k n) (w : World) : Calls Tryd.prog 32 #[valV k n] w fun e w' =>
    (∃ K N o er, e = .returned (.tuple #[valV K N, er]) ∧ IsNil er o ∧ Hid (rK (negM k n) = K ∧ rN (negM k n) = N ∧ rOk (negM k n) = o)) ∧ Below w.heap.size w w' := by
  refine (neg_num k n ha w).mono fun e w' ⟨h, hw⟩ => ⟨?_, hw⟩
  cases hr : negM k n with
  | ok K X => rw [hr] at h; exact ⟨_, _, _, .nilIface, h, isNil_nil, Lib.hid ⟨rfl, rfl, rfl⟩⟩
  | bad c a => rw [hr] at h; obtain ⟨b, h, _⟩ := h; exact ⟨_, _, _, errV b, h, isNil_err b, Lib.hid ⟨rfl, rfl, rfl⟩⟩
theorem neg_ok {k n K X : Int} (hr : negM k n = .ok K X) (ha : Num k n) (w : World) : Calls Tryd.prog 32 #[valV k n] w fun e w' => e = .returned (.tuple #[valV K X, .nilIface]) ∧ Below w.heap.size w w' :=
  (neg_num k n ha w).mono fun e w' ⟨h, hw⟩ => ⟨by rw [hr] at h; exact h, hw⟩
theorem fin_rOk {k x : Int} (h : rOk (finR k x) = true) : fits x = true := by
  unfold finR at h
  split at h
  · assumption
  · simp [rOk] at h
theorem fin_rK {k x : Int} (h : fits x = true) : rK (finR k x) = k ∧ rN (finR k x) = x := by simp [finR, h, rK, rN]
/-- Two numbers of one kind. -/
theorem reck_same {op k n m : Int} (h0 : 3 ≤ op) (h1 : op ≤ 6) (hk : k = 2 ∨ k = 3) : reckM op k n k m = arithR op k n m (if k = 3 then 10000 else 1) := by
  rcases hk with rfl | rfl
  · rw [reck_int _ _ _ h0 h1]; rfl
  · rw [reck_dec _ _ _ h0 h1]; rfl
theorem arith3 {k x y one : Int} : arithR 3 k x y one = finR k (x + y) := rfl
theorem arith4 {k x y one : Int} : arithR 4 k x y one = finR k (x - y) := rfl
theorem arith5 {k x y one : Int} : arithR 5 k x y one = finR k (Int.tdiv (x * y) one) := rfl
theorem add_ok {k a b : Int} (hk : k = 2 ∨ k = 3) {K N : Int} (h : Hid (rK (reckM 3 k a k b) = K ∧ rN (reckM 3 k a k b) = N ∧ rOk (reckM 3 k a k b) = true)) : K = k ∧ N = a + b ∧ fits (a + b) = true := by
  obtain ⟨h1, h2, h3⟩ := h.out
  rw [reck_same (by omega) (by omega) hk, arith3] at h1 h2 h3
  have hf := fin_rOk h3
  exact ⟨by rw [← h1, (fin_rK hf).1], by rw [← h2, (fin_rK hf).2], hf⟩
theorem sub_ok {k a b : Int} (hk : k = 2 ∨ k = 3) {K N : Int} (h : Hid (rK (reckM 4 k a k b) = K ∧ rN (reckM 4 k a k b) = N ∧ rOk (reckM 4 k a k b) = true)) : K = k ∧ N = a - b ∧ fits (a - b) = true := by
  obtain ⟨h1, h2, h3⟩ := h.out
  rw [reck_same (by omega) (by omega) hk, arith4] at h1 h2 h3
  have hf := fin_rOk h3
  exact ⟨by rw [← h1, (fin_rK hf).1], by rw [← h2, (fin_rK hf).2], hf⟩
theorem mul_ok {a b : Int} {K N : Int} (h : Hid (rK (reckM 5 2 a 2 b) = K ∧ rN (reckM 5 2 a 2 b) = N ∧ rOk (reckM 5 2 a 2 b) = true)) : K = 2 ∧ N = a * b ∧ fits (a * b) = true := by
  obtain ⟨h1, h2, h3⟩ := h.out
  rw [reck_int _ _ _ (by omega) (by omega), arith5, Int.tdiv_one] at h1 h2 h3
  have hf := fin_rOk h3
  exact ⟨by rw [← h1, (fin_rK hf).1], by rw [← h2, (fin_rK hf).2], hf⟩
theorem add_back {k a b : Int} (hk : k = 2 ∨ k = 3) (h : fits a = true) : reckM 4 k (a + b) k b = .ok k a := by
  rw [reck_same (by omega) (by omega) hk, arith4, show a + b - b = a by omega]; simp [finR, h]
theorem sub_back {k a b : Int} (hk : k = 2 ∨ k = 3) (h : fits a = true) : reckM 3 k (a - b) k b = .ok k a := by
  rw [reck_same (by omega) (by omega) hk, arith3, show a - b + b = a by omega]; simp [finR, h]
theorem mul_back {a b : Int} (hb : b ≠ 0) (h : fits a = true) : reckM 6 2 (a * b) 2 b = .ok 2 a := by
  rw [reck_int _ _ _ (by omega) (by omega)]
  have e : Int.tdiv (a * b * 1) b = a := by rw [Int.mul_one, Int.mul_tdiv_cancel _ hb]
  rw [arith_div hb (by rw [e]; exact h), e]
theorem neg_rOk {k a : Int} : rOk (negM k a) = !decide (a = -9223372036854775808) := by
  unfold negM; split <;> simp [rOk, *]
theorem neg_okm {k a : Int} {K N : Int} {o : Bool} (h : Hid (rK (negM k a) = K ∧ rN (negM k a) = N ∧ rOk (negM k a) = o)) : o = (!decide (a = -9223372036854775808)) ∧ (o = true → K = k ∧ N = -a) := by
  obtain ⟨h1, h2, h3⟩ := h.out
  refine ⟨by rw [← h3, neg_rOk], fun ho => ?_⟩
  rw [ho, neg_rOk] at h3
  have hne : a ≠ -9223372036854775808 := by simpa using h3
  unfold negM at h1 h2
  rw [if_neg hne] at h1 h2
  exact ⟨h1.symm, h2.symm⟩
theorem neg_back {k a : Int} (h : fits a = true) (hne : a ≠ -9223372036854775808) : negM k (-a) = .ok k a := by
  have := fits_iff.1 h
  unfold negM; rw [if_neg (by omega), Int.neg_neg]
theorem size_drew (W : World) : W.drew.heap.size = W.heap.size := rfl
theorem bx_drew {w : World} {b : Nat} {cs : Array Value} (h : Bx w b cs) : Bx w.drew b cs := ⟨h.cell, h.free, h.lt⟩
theorem num_of {k n : Int} (hk : k = 2 ∨ k = 3) (h : fits n = true) : Num k n := .inr ⟨hk, fits_iff.1 h⟩
theorem num_neg {k n : Int} (hk : k = 2 ∨ k = 3) (h : fits n = true) (hne : n ≠ -9223372036854775808) : Num k (-n) := by
  have := fits_iff.1 h
  exact num_of hk (fits_of (by omega) (by omega))
end Go.Proofs.YtdlmcgflgdmjgaaDoor
