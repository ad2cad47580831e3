/- number.Reckon: what it comes to. -/
import Derived.Test.YtdlmcgflgdmjgaaDoorN3
set_option linter.unusedVariables false
set_option linter.unusedSimpArgs false
namespace Go.Proofs.YtdlmcgflgdmjgaaDoor
open Go.RowKit

/-- What is reckoned: a number of a kind, or a fault of a code at a place. -/
inductive RM where
  | ok (k n : Int)
  | bad (c a : Int)
abbrev valV (k n : Int) : Value := .agg #[.int .i64 k, .int .i64 n, .string ⟨#[]⟩]
def RPost (r : RM) (e : Ending) (w' : World) : Prop := match r with
  | .ok k n => e = .returned (.tuple #[valV k n, .nilIface])
  | .bad c a => ∃ b, e = .returned (.tuple #[valV 0 0, errV b]) ∧ FaultAt w' b c a
theorem FaultAt.set {w : World} {b : Nat} {c a : Int} (h : FaultAt w b c a) {p : Addr} (hp : p.block ≠ b) (u : Value) : FaultAt (w.setCell p u) b c a := (Below.heap_setCell w p u b (Ne.symm hp)).trans h
theorem reckon_arg (op k n l m : Int) (s t : ByteArray) (h : op < 3 ∨ 6 < op) (w : World) : Calls Tryd.prog 29 #[.int .i64 op, .agg #[.int .i64 k, .int .i64 n, .string s], .agg #[.int .i64 l, .int .i64 m, .string t]] w fun e w' => RPost (.bad 1 0) e w' ∧ Below w.heap.size w w' := by
  by_cases h1 : op < 3
  · have h1' : decide (op < 3) = true := decide_eq_true h1
    clear h h1
    refine calls_hide ?_; intro R hR; go_enter Tryd.func29, Tryd.ntmps29
    go_wp2_with (go_at_call 23; refine (new_any _ _ (by rfl) _).mono ?_; rintro e w1 ⟨b, rfl, hge, hfa, hw1⟩; (try simp only [World.size_alloc, World.heap_drewN] at hge); obtain ⟨hcw1, hfw1, hzw1⟩ := bcn (n := w.heap.size + 1 + 1 + 1) (by first | (with_reducible assumption) | (simp only [World.size_alloc, World.size_setCell, World.heap_drewN]; first | exact Nat.le_refl _ | (with_reducible assumption))) hw1)
    (refine bodyPost_ret (v := .tuple #[valV 0 0, errV b]) (by simp [results, Tryd.results29, go_sem, *]) rfl ?_; (apply hR.out; clear hR; go_tidy))
    exact ⟨⟨b, rfl, by (repeat' (first | exact hfa | refine FaultAt.set ?_ (by first | (simp; done) | (simp; omega)) _))⟩, by (repeat' (first | exact Below.refl _ _ | refine bl_set ?_ (by first | (simp; done) | (simp; omega)) _ | (with_reducible assumption) | refine bl_alloc ?_ _ | refine bl_drewN ?_ _ | refine bl_drew ?_ | refine blw ?_ (by with_reducible assumption)))⟩
  · have h1' : decide (op < 3) = false := decide_eq_false h1
    have h2' : decide (6 < op) = true := decide_eq_true (by omega)
    clear h h1
    refine calls_hide ?_; intro R hR; go_enter Tryd.func29, Tryd.ntmps29
    go_wp2_with (go_at_call 23; refine (new_any _ _ (by rfl) _).mono ?_; rintro e w1 ⟨b, rfl, hge, hfa, hw1⟩; (try simp only [World.size_alloc, World.heap_drewN] at hge); obtain ⟨hcw1, hfw1, hzw1⟩ := bcn (n := w.heap.size + 1 + 1 + 1) (by first | (with_reducible assumption) | (simp only [World.size_alloc, World.size_setCell, World.heap_drewN]; first | exact Nat.le_refl _ | (with_reducible assumption))) hw1)
    (refine bodyPost_ret (v := .tuple #[valV 0 0, errV b]) (by simp [results, Tryd.results29, go_sem, *]) rfl ?_; (apply hR.out; clear hR; go_tidy))
    exact ⟨⟨b, rfl, by (repeat' (first | exact hfa | refine FaultAt.set ?_ (by first | (simp; done) | (simp; omega)) _))⟩, by (repeat' (first | exact Below.refl _ _ | refine bl_set ?_ (by first | (simp; done) | (simp; omega)) _ | (with_reducible assumption) | refine bl_alloc ?_ _ | refine bl_drewN ?_ _ | refine bl_drew ?_ | refine blw ?_ (by with_reducible assumption)))⟩
/-- A value that may be reckoned with: nothing, or a number. -/
def Num (k n : Int) : Prop := (k = 0 ∧ n = 0) ∨ ((k = 2 ∨ k = 3) ∧ -9223372036854775808 ≤ n ∧ n ≤ 9223372036854775807)
theorem Num.reckons {k n : Int} (h : Num k n) : (rightB k n ⟨#[]⟩ && (k == 0 || (k == 2 || k == 3))) = true := by
  rcases h with ⟨rfl, rfl⟩ | ⟨rfl | rfl, _, _⟩ <;> simp [rightB, ByteArray.toList_eq] <;> rfl
theorem reckons_num (k n : Int) (h : Num k n) (w : World) : Calls Tryd.prog 47 #[valV k n] w fun e w' => e = .returned (.bool true) ∧ Below w.heap.size w w' :=
  (reckons_any k n ⟨#[]⟩ w).mono fun _ _ ⟨he, hb⟩ => ⟨by rw [he, h.reckons], hb⟩
theorem reckon_null (op k n l m : Int) (h0 : 3 ≤ op) (h1 : op ≤ 6) (ha : Num k n) (hb : Num l m) (hz : k = 0 ∨ l = 0) (w : World) : Calls Tryd.prog 29 #[.int .i64 op, valV k n, valV l m] w fun e w' => RPost (.ok 0 0) e w' ∧ Below w.heap.size w w' := by
  have HA := Lib.hid ha
  have HB := Lib.hid hb
  by_cases hk : k = 0
  · subst hk
    clear ha hb hz
    refine calls_hide ?_; intro R hR; go_enter Tryd.func29, Tryd.ntmps29
    go_wp2_with (go_at_call 47; refine (reckons_num _ _ (by first | exact HA.out | exact HB.out) _).mono ?_; rintro e w1 ⟨rfl, hw1⟩; obtain ⟨hcw1, hfw1, hzw1⟩ := bcn (n := w.heap.size + 1 + 1 + 1) (by first | (with_reducible assumption) | (simp only [World.size_alloc, World.size_setCell, World.heap_drewN]; first | exact Nat.le_refl _ | (with_reducible assumption))) hw1)
    (refine bodyPost_ret (v := .tuple #[valV 0 0, .nilIface]) (by simp [results, Tryd.results29, go_sem, *]) rfl ?_; (apply hR.out; clear hR; go_tidy))
    exact ⟨rfl, by (repeat' (first | exact Below.refl _ _ | refine bl_set ?_ (by first | (simp; done) | (simp; omega)) _ | (with_reducible assumption) | refine bl_alloc ?_ _ | refine bl_drewN ?_ _ | refine bl_drew ?_ | refine blw ?_ (by with_reducible assumption)))⟩
  · have hk' : (k == 0) = false := by simpa using hk
    obtain rfl : l = 0 := by omega
    clear ha hb hz hk
    refine calls_hide ?_; intro R hR; go_enter Tryd.func29, Tryd.ntmps29
    go_wp2_with (go_at_call 47; refine (reckons_num _ _ (by first | exact HA.out | exact HB.out) _).mono ?_; rintro e w1 ⟨rfl, hw1⟩; obtain ⟨hcw1, hfw1, hzw1⟩ := bcn (n := w.heap.size + 1 + 1 + 1) (by first | (with_reducible assumption) | (simp only [World.size_alloc, World.size_setCell, World.heap_drewN]; first | exact Nat.le_refl _ | (with_reducible assumption))) hw1)
    (refine bodyPost_ret (v := .tuple #[valV 0 0, .nilIface]) (by simp [results, Tryd.results29, go_sem, *]) rfl ?_; (apply hR.out; clear hR; go_tidy))
    exact ⟨rfl, by (repeat' (first | exact Below.refl _ _ | refine bl_set ?_ (by first | (simp; done) | (simp; omega)) _ | (with_reducible assumption) | refine bl_alloc ?_ _ | refine bl_drewN ?_ _ | refine bl_drew ?_ | refine blw ?_ (by with_reducible assumption)))⟩
/-- What it comes to, behind the last step: does it fit. -/
def finR (k x : Int) : RM := if fits x then .ok k x else .bad 31 2
theorem finR_ok {k v x : Int} {ok : Bool} (h : IsFit v x ok) (ho : (!ok) = false) : finR k v = .ok k x := by
  obtain rfl : ok = true := by simpa using ho
  unfold finR; rw [if_pos h.1.symm, h.2 rfl]
theorem finR_bad {k v x : Int} {ok : Bool} (h : IsFit v x ok) (ho : (!ok) = true) : finR k v = .bad 31 2 := by
  obtain rfl : ok = false := by simpa using ho
  unfold finR; rw [if_neg (by rw [← h.1]; simp)]
def arithR (op k x y one : Int) : RM :=
  if op = 3 then finR k (x + y) else if op = 4 then finR k (x - y) else if op = 5 then finR k (Int.tdiv (x * y) one) else if y = 0 then .bad 32 1 else finR k (Int.tdiv (x * one) y)
theorem sub_min {x : Int} (h0 : -9223372036854775808 ≤ x) (h1 : x ≤ 9223372036854775807) : IsFit (x - -9223372036854775808) (wrap64 (x + 9223372036854775808)) (decide (x < 0)) := by
  refine ⟨by rw [Bool.eq_iff_iff, fits_iff]; simp; omega, fun h => ?_⟩
  simp at h; simp only [wrap64]; omega
set_option maxHeartbeats 800000 in
theorem reckon_int_add (n m : Int) (n0 : -9223372036854775808 ≤ n) (n1 : n ≤ 9223372036854775807) (m0 : -9223372036854775808 ≤ m) (m1 : m ≤ 9223372036854775807) (w : World) :
    Calls Tryd.prog 29 #[.int .i64 3, valV 2 n, valV 2 m] w fun e w' => RPost (arithR 3 2 n m 1) e w' ∧ Below w.heap.size w w' := by
  have HA : Hid (Num 2 n) := Lib.hid (.inr ⟨.inl rfl, n0, n1⟩)
  have HB : Hid (Num 2 m) := Lib.hid (.inr ⟨.inl rfl, m0, m1⟩)
  refine calls_hide ?_; intro R hR; go_enter Tryd.func29, Tryd.ntmps29
  go_wp2_with (go_at_call 47; refine (reckons_num _ _ (by first | exact HA.out | exact HB.out) _).mono ?_; rintro e w1 ⟨rfl, hw1⟩; obtain ⟨hcw1, hfw1, hzw1⟩ := bcn (n := w.heap.size + 1 + 1 + 1) (by first | (with_reducible assumption) | (simp only [World.size_alloc, World.size_setCell, World.heap_drewN]; first | exact Nat.le_refl _ | (with_reducible assumption))) hw1)
  go_quiet (fail)
  go_wp2_with (first | (go_at_call 49; refine (sum_fit _ _ (by omega) (by omega) (by omega) (by omega) _).mono ?_; rintro e w' ⟨x, ok, rfl, hfit, rfl⟩) | (go_at_call 23; refine (new_any _ _ (by rfl) _).mono ?_; rintro e w3 ⟨b, rfl, hge, hfa, hw3⟩; (try simp only [World.size_alloc, World.heap_drewN] at hge); obtain ⟨hcw3, hfw3, hzw3⟩ := bcn (n := w.heap.size + 1 + 1 + 1) (by first | (with_reducible assumption) | (simp only [World.size_alloc, World.size_setCell, World.heap_drewN]; first | exact Nat.le_refl _ | (with_reducible assumption))) hw3))
  · (refine bodyPost_ret (v := .tuple #[valV 0 0, errV b]) (by simp [results, Tryd.results29, go_sem, *]) rfl ?_; (apply hR.out; clear hR; go_tidy))
    exact ⟨by rw [show arithR 3 2 n m 1 = _ from finR_bad hfit ‹_›]; exact ⟨b, rfl, by (repeat' (first | exact hfa | refine FaultAt.set ?_ (by first | (simp; done) | (simp; omega)) _))⟩, by (repeat' (first | exact Below.refl _ _ | refine bl_set ?_ (by first | (simp; done) | (simp; omega)) _ | (with_reducible assumption) | refine bl_alloc ?_ _ | refine bl_drewN ?_ _ | refine bl_drew ?_ | refine blw ?_ (by with_reducible assumption)))⟩
  · (refine bodyPost_ret (v := .tuple #[valV 2 x, .nilIface]) (by simp [results, Tryd.results29, go_sem, *]) rfl ?_; (apply hR.out; clear hR; go_tidy))
    exact ⟨by rw [show arithR 3 2 n m 1 = _ from finR_ok hfit ‹_›]; rfl, by (repeat' (first | exact Below.refl _ _ | refine bl_set ?_ (by first | (simp; done) | (simp; omega)) _ | (with_reducible assumption) | refine bl_alloc ?_ _ | refine bl_drewN ?_ _ | refine bl_drew ?_ | refine blw ?_ (by with_reducible assumption)))⟩
set_option maxHeartbeats 800000 in
theorem reckon_int_sub (n m : Int) (n0 : -9223372036854775808 ≤ n) (n1 : n ≤ 9223372036854775807) (m0 : -9223372036854775808 ≤ m) (m1 : m ≤ 9223372036854775807) (w : World) :
    Calls Tryd.prog 29 #[.int .i64 4, valV 2 n, valV 2 m] w fun e w' => RPost (arithR 4 2 n m 1) e w' ∧ Below w.heap.size w w' := by
  have HA : Hid (Num 2 n) := Lib.hid (.inr ⟨.inl rfl, n0, n1⟩)
  have HB : Hid (Num 2 m) := Lib.hid (.inr ⟨.inl rfl, m0, m1⟩)
  by_cases hy : m = -9223372036854775808
  · subst hy
    have hsm := sub_min n0 n1
    obtain ⟨x, ok, hx1, hx2, hfit⟩ : ∃ x ok, wrap64 (n + 9223372036854775808) = x ∧ decide (n < 0) = ok ∧ Hid (IsFit (n - -9223372036854775808) x ok) := ⟨_, _, rfl, rfl, Lib.hid hsm⟩
    clear hsm
    refine calls_hide ?_; intro R hR; go_enter Tryd.func29, Tryd.ntmps29
    go_wp2_with (go_at_call 47; refine (reckons_num _ _ (by first | exact HA.out | exact HB.out) _).mono ?_; rintro e w1 ⟨rfl, hw1⟩; obtain ⟨hcw1, hfw1, hzw1⟩ := bcn (n := w.heap.size + 1 + 1 + 1) (by first | (with_reducible assumption) | (simp only [World.size_alloc, World.size_setCell, World.heap_drewN]; first | exact Nat.le_refl _ | (with_reducible assumption))) hw1)
    go_quiet (fail)
    go_wp2_with (first | (go_at_call 49; refine (sum_fit _ _ (by omega) (by omega) (by omega) (by omega) _).mono ?_; rintro e w' ⟨x, ok, rfl, hfit, rfl⟩) | (go_at_call 23; refine (new_any _ _ (by rfl) _).mono ?_; rintro e w3 ⟨b, rfl, hge, hfa, hw3⟩; (try simp only [World.size_alloc, World.heap_drewN] at hge); obtain ⟨hcw3, hfw3, hzw3⟩ := bcn (n := w.heap.size + 1 + 1 + 1) (by first | (with_reducible assumption) | (simp only [World.size_alloc, World.size_setCell, World.heap_drewN]; first | exact Nat.le_refl _ | (with_reducible assumption))) hw3))
    · (refine bodyPost_ret (v := .tuple #[valV 0 0, errV b]) (by simp [results, Tryd.results29, go_sem, *]) rfl ?_; (apply hR.out; clear hR; go_tidy))
      exact ⟨by rw [show arithR 4 2 n _ 1 = _ from finR_bad hfit.out ‹_›]; exact ⟨b, rfl, by (repeat' (first | exact hfa | refine FaultAt.set ?_ (by first | (simp; done) | (simp; omega)) _))⟩, by (repeat' (first | exact Below.refl _ _ | refine bl_set ?_ (by first | (simp; done) | (simp; omega)) _ | (with_reducible assumption) | refine bl_alloc ?_ _ | refine bl_drewN ?_ _ | refine bl_drew ?_ | refine blw ?_ (by with_reducible assumption)))⟩
    · (refine bodyPost_ret (v := .tuple #[valV 2 x, .nilIface]) (by simp [results, Tryd.results29, go_sem, *]) rfl ?_; (apply hR.out; clear hR; go_tidy))
      exact ⟨by rw [show arithR 4 2 n _ 1 = _ from finR_ok hfit.out ‹_›]; rfl, by (repeat' (first | exact Below.refl _ _ | refine bl_set ?_ (by first | (simp; done) | (simp; omega)) _ | (with_reducible assumption) | refine bl_alloc ?_ _ | refine bl_drewN ?_ _ | refine bl_drew ?_ | refine blw ?_ (by with_reducible assumption)))⟩
  · have hyb : (m == -9223372036854775808) = false := by simpa using hy
    have m0' : -9223372036854775807 ≤ m := by omega
    clear hy m0
    refine calls_hide ?_; intro R hR; go_enter Tryd.func29, Tryd.ntmps29
    go_wp2_with (go_at_call 47; refine (reckons_num _ _ (by first | exact HA.out | exact HB.out) _).mono ?_; rintro e w1 ⟨rfl, hw1⟩; obtain ⟨hcw1, hfw1, hzw1⟩ := bcn (n := w.heap.size + 1 + 1 + 1) (by first | (with_reducible assumption) | (simp only [World.size_alloc, World.size_setCell, World.heap_drewN]; first | exact Nat.le_refl _ | (with_reducible assumption))) hw1)
    go_quiet (fail)
    go_wp2_with (first | (go_at_call 49; refine (sum_fit _ _ (by omega) (by omega) (by omega) (by omega) _).mono ?_; rintro e w' ⟨x, ok, rfl, hfit, rfl⟩) | (go_at_call 23; refine (new_any _ _ (by rfl) _).mono ?_; rintro e w3 ⟨b, rfl, hge, hfa, hw3⟩; (try simp only [World.size_alloc, World.heap_drewN] at hge); obtain ⟨hcw3, hfw3, hzw3⟩ := bcn (n := w.heap.size + 1 + 1 + 1) (by first | (with_reducible assumption) | (simp only [World.size_alloc, World.size_setCell, World.heap_drewN]; first | exact Nat.le_refl _ | (with_reducible assumption))) hw3))
    · (refine bodyPost_ret (v := .tuple #[valV 0 0, errV b]) (by simp [results, Tryd.results29, go_sem, *]) rfl ?_; (apply hR.out; clear hR; go_tidy))
      exact ⟨by rw [show arithR 4 2 n m 1 = _ from (show finR 2 (n - m) = _ from finR_bad (by simpa only [Int.sub_eq_add_neg] using hfit) ‹_›)]; exact ⟨b, rfl, by (repeat' (first | exact hfa | refine FaultAt.set ?_ (by first | (simp; done) | (simp; omega)) _))⟩, by (repeat' (first | exact Below.refl _ _ | refine bl_set ?_ (by first | (simp; done) | (simp; omega)) _ | (with_reducible assumption) | refine bl_alloc ?_ _ | refine bl_drewN ?_ _ | refine bl_drew ?_ | refine blw ?_ (by with_reducible assumption)))⟩
    · (refine bodyPost_ret (v := .tuple #[valV 2 x, .nilIface]) (by simp [results, Tryd.results29, go_sem, *]) rfl ?_; (apply hR.out; clear hR; go_tidy))
      exact ⟨by rw [show arithR 4 2 n m 1 = _ from (show finR 2 (n - m) = _ from finR_ok (by simpa only [Int.sub_eq_add_neg] using hfit) ‹_›)]; rfl, by (repeat' (first | exact Below.refl _ _ | refine bl_set ?_ (by first | (simp; done) | (simp; omega)) _ | (with_reducible assumption) | refine bl_alloc ?_ _ | refine bl_drewN ?_ _ | refine bl_drew ?_ | refine blw ?_ (by with_reducible assumption)))⟩
set_option maxHeartbeats 800000 in
theorem reckon_int_mul (n m : Int) (n0 : -9223372036854775808 ≤ n) (n1 : n ≤ 9223372036854775807) (m0 : -9223372036854775808 ≤ m) (m1 : m ≤ 9223372036854775807) (w : World) :
    Calls Tryd.prog 29 #[.int .i64 5, valV 2 n, valV 2 m] w fun e w' => RPost (arithR 5 2 n m 1) e w' ∧ Below w.heap.size w w' := by
  have HA : Hid (Num 2 n) := Lib.hid (.inr ⟨.inl rfl, n0, n1⟩)
  have HB : Hid (Num 2 m) := Lib.hid (.inr ⟨.inl rfl, m0, m1⟩)
  refine calls_hide ?_; intro R hR; go_enter Tryd.func29, Tryd.ntmps29
  go_wp2_with (go_at_call 47; refine (reckons_num _ _ (by first | exact HA.out | exact HB.out) _).mono ?_; rintro e w1 ⟨rfl, hw1⟩; obtain ⟨hcw1, hfw1, hzw1⟩ := bcn (n := w.heap.size + 1 + 1 + 1) (by first | (with_reducible assumption) | (simp only [World.size_alloc, World.size_setCell, World.heap_drewN]; first | exact Nat.le_refl _ | (with_reducible assumption))) hw1)
  go_quiet (fail)
  go_wp2_with (first | (go_at_call 50; refine (over_any _ _ _ (by omega) (by omega) (by omega) (by omega) (by omega) (by omega) (by omega) _).mono ?_; rintro e w2 ⟨x, ok, rfl, hfit, hw2⟩; obtain ⟨hcw2, hfw2, hzw2⟩ := bcn (n := w.heap.size + 1 + 1 + 1) (by first | (with_reducible assumption) | (simp only [World.size_alloc, World.size_setCell, World.heap_drewN]; first | exact Nat.le_refl _ | (with_reducible assumption))) hw2) | (go_at_call 23; refine (new_any _ _ (by rfl) _).mono ?_; rintro e w3 ⟨b, rfl, hge, hfa, hw3⟩; (try simp only [World.size_alloc, World.heap_drewN] at hge); obtain ⟨hcw3, hfw3, hzw3⟩ := bcn (n := w.heap.size + 1 + 1 + 1) (by first | (with_reducible assumption) | (simp only [World.size_alloc, World.size_setCell, World.heap_drewN]; first | exact Nat.le_refl _ | (with_reducible assumption))) hw3))
  · (refine bodyPost_ret (v := .tuple #[valV 0 0, errV b]) (by simp [results, Tryd.results29, go_sem, *]) rfl ?_; (apply hR.out; clear hR; go_tidy))
    exact ⟨by rw [show arithR 5 2 n m 1 = _ from finR_bad hfit ‹_›]; exact ⟨b, rfl, by (repeat' (first | exact hfa | refine FaultAt.set ?_ (by first | (simp; done) | (simp; omega)) _))⟩, by (repeat' (first | exact Below.refl _ _ | refine bl_set ?_ (by first | (simp; done) | (simp; omega)) _ | (with_reducible assumption) | refine bl_alloc ?_ _ | refine bl_drewN ?_ _ | refine bl_drew ?_ | refine blw ?_ (by with_reducible assumption)))⟩
  · (refine bodyPost_ret (v := .tuple #[valV 2 x, .nilIface]) (by simp [results, Tryd.results29, go_sem, *]) rfl ?_; (apply hR.out; clear hR; go_tidy))
    exact ⟨by rw [show arithR 5 2 n m 1 = _ from finR_ok hfit ‹_›]; rfl, by (repeat' (first | exact Below.refl _ _ | refine bl_set ?_ (by first | (simp; done) | (simp; omega)) _ | (with_reducible assumption) | refine bl_alloc ?_ _ | refine bl_drewN ?_ _ | refine bl_drew ?_ | refine blw ?_ (by with_reducible assumption)))⟩
set_option maxHeartbeats 800000 in
theorem reckon_int_div (n m : Int) (n0 : -9223372036854775808 ≤ n) (n1 : n ≤ 9223372036854775807) (m0 : -9223372036854775808 ≤ m) (m1 : m ≤ 9223372036854775807) (w : World) :
    Calls Tryd.prog 29 #[.int .i64 6, valV 2 n, valV 2 m] w fun e w' => RPost (arithR 6 2 n m 1) e w' ∧ Below w.heap.size w w' := by
  have HA : Hid (Num 2 n) := Lib.hid (.inr ⟨.inl rfl, n0, n1⟩)
  have HB : Hid (Num 2 m) := Lib.hid (.inr ⟨.inl rfl, m0, m1⟩)
  by_cases hy : m = 0
  · subst hy
    refine calls_hide ?_; intro R hR; go_enter Tryd.func29, Tryd.ntmps29
    go_wp2_with (go_at_call 47; refine (reckons_num _ _ (by first | exact HA.out | exact HB.out) _).mono ?_; rintro e w1 ⟨rfl, hw1⟩; obtain ⟨hcw1, hfw1, hzw1⟩ := bcn (n := w.heap.size + 1 + 1 + 1) (by first | (with_reducible assumption) | (simp only [World.size_alloc, World.size_setCell, World.heap_drewN]; first | exact Nat.le_refl _ | (with_reducible assumption))) hw1)
    go_quiet (fail)
    go_wp2_with (go_at_call 23; refine (new_any _ _ (by rfl) _).mono ?_; rintro e w3 ⟨b, rfl, hge, hfa, hw3⟩; (try simp only [World.size_alloc, World.heap_drewN] at hge); obtain ⟨hcw3, hfw3, hzw3⟩ := bcn (n := w.heap.size + 1 + 1 + 1) (by first | (with_reducible assumption) | (simp only [World.size_alloc, World.size_setCell, World.heap_drewN]; first | exact Nat.le_refl _ | (with_reducible assumption))) hw3)
    (refine bodyPost_ret (v := .tuple #[valV 0 0, errV b]) (by simp [results, Tryd.results29, go_sem, *]) rfl ?_; (apply hR.out; clear hR; go_tidy))
    exact ⟨⟨b, rfl, by (repeat' (first | exact hfa | refine FaultAt.set ?_ (by first | (simp; done) | (simp; omega)) _))⟩, by (repeat' (first | exact Below.refl _ _ | refine bl_set ?_ (by first | (simp; done) | (simp; omega)) _ | (with_reducible assumption) | refine bl_alloc ?_ _ | refine bl_drewN ?_ _ | refine bl_drew ?_ | refine blw ?_ (by with_reducible assumption)))⟩
  · have hyb : (m == 0) = false := by simpa using hy
    have HY := Lib.hid hy
    clear hy
    refine calls_hide ?_; intro R hR; go_enter Tryd.func29, Tryd.ntmps29
    go_wp2_with (go_at_call 47; refine (reckons_num _ _ (by first | exact HA.out | exact HB.out) _).mono ?_; rintro e w1 ⟨rfl, hw1⟩; obtain ⟨hcw1, hfw1, hzw1⟩ := bcn (n := w.heap.size + 1 + 1 + 1) (by first | (with_reducible assumption) | (simp only [World.size_alloc, World.size_setCell, World.heap_drewN]; first | exact Nat.le_refl _ | (with_reducible assumption))) hw1)
    go_quiet (fail)
    go_wp2_with (first | (go_at_call 50; refine (over_any _ _ _ (by omega) (by omega) (by omega) (by omega) (by omega) (by omega) HY.out _).mono ?_; rintro e w2 ⟨x, ok, rfl, hfit, hw2⟩; obtain ⟨hcw2, hfw2, hzw2⟩ := bcn (n := w.heap.size + 1 + 1 + 1) (by first | (with_reducible assumption) | (simp only [World.size_alloc, World.size_setCell, World.heap_drewN]; first | exact Nat.le_refl _ | (with_reducible assumption))) hw2) | (go_at_call 23; refine (new_any _ _ (by rfl) _).mono ?_; rintro e w3 ⟨b, rfl, hge, hfa, hw3⟩; (try simp only [World.size_alloc, World.heap_drewN] at hge); obtain ⟨hcw3, hfw3, hzw3⟩ := bcn (n := w.heap.size + 1 + 1 + 1) (by first | (with_reducible assumption) | (simp only [World.size_alloc, World.size_setCell, World.heap_drewN]; first | exact Nat.le_refl _ | (with_reducible assumption))) hw3))
    · (refine bodyPost_ret (v := .tuple #[valV 0 0, errV b]) (by simp [results, Tryd.results29, go_sem, *]) rfl ?_; (apply hR.out; clear hR; go_tidy))
      exact ⟨by rw [show arithR 6 2 n m 1 = _ from ((if_neg HY.out : (if m = 0 then RM.bad 32 1 else finR 2 (Int.tdiv (n * 1) m)) = _).trans (finR_bad hfit ‹_›))]; exact ⟨b, rfl, by (repeat' (first | exact hfa | refine FaultAt.set ?_ (by first | (simp; done) | (simp; omega)) _))⟩, by (repeat' (first | exact Below.refl _ _ | refine bl_set ?_ (by first | (simp; done) | (simp; omega)) _ | (with_reducible assumption) | refine bl_alloc ?_ _ | refine bl_drewN ?_ _ | refine bl_drew ?_ | refine blw ?_ (by with_reducible assumption)))⟩
    · (refine bodyPost_ret (v := .tuple #[valV 2 x, .nilIface]) (by simp [results, Tryd.results29, go_sem, *]) rfl ?_; (apply hR.out; clear hR; go_tidy))
      exact ⟨by rw [show arithR 6 2 n m 1 = _ from ((if_neg HY.out : (if m = 0 then RM.bad 32 1 else finR 2 (Int.tdiv (n * 1) m)) = _).trans (finR_ok hfit ‹_›))]; rfl, by (repeat' (first | exact Below.refl _ _ | refine bl_set ?_ (by first | (simp; done) | (simp; omega)) _ | (with_reducible assumption) | refine bl_alloc ?_ _ | refine bl_drewN ?_ _ | refine bl_drew ?_ | refine blw ?_ (by with_reducible assumption)))⟩
theorem reckon_int (op n m : Int) (h0 : 3 ≤ op) (h1 : op ≤ 6) (n0 : -9223372036854775808 ≤ n) (n1 : n ≤ 9223372036854775807) (m0 : -9223372036854775808 ≤ m) (m1 : m ≤ 9223372036854775807) (w : World) :
    Calls Tryd.prog 29 #[.int .i64 op, valV 2 n, valV 2 m] w fun e w' => RPost (arithR op 2 n m 1) e w' ∧ Below w.heap.size w w' := by
  have hop : op = 3 ∨ op = 4 ∨ op = 5 ∨ op = 6 := by omega
  rcases hop with rfl | rfl | rfl | rfl
  · exact reckon_int_add n m n0 n1 m0 m1 w
  · exact reckon_int_sub n m n0 n1 m0 m1 w
  · exact reckon_int_mul n m n0 n1 m0 m1 w
  · exact reckon_int_div n m n0 n1 m0 m1 w
end Go.Proofs.YtdlmcgflgdmjgaaDoor
