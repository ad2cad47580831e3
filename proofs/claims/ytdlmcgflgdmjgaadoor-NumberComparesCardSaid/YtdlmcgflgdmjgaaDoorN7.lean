/- number.Sign at numbers, number.Compare at numbers and nothing. -/
import Derived.Test.YtdlmcgflgdmjgaaDoorN6
set_option linter.unusedVariables false
set_option linter.unusedSimpArgs false
namespace Go.Proofs.YtdlmcgflgdmjgaaDoor
open Go.RowKit

theorem right_num (k n : Int) (h : Num k n) (w : World) : Calls Tryd.prog 51 #[valV k n] w fun e w' => e = .returned (.bool true) ∧ Below w.heap.size w w' :=
  (right_any k n ⟨#[]⟩ w).mono fun _ _ ⟨he, hb⟩ => ⟨by rw [he]; have := h.reckons; rw [Bool.and_eq_true] at this; rw [this.1], hb⟩
theorem numeric_num (k n : Int) (h : k = 2 ∨ k = 3) (w : World) : Calls Tryd.prog 52 #[valV k n] w fun e w' => e = .returned (.bool true) ∧ Below w.heap.size w w' :=
  (numeric_any k n ⟨#[]⟩ w).mono fun _ _ ⟨he, hb⟩ => ⟨by rw [he]; congr 2; rcases h with rfl | rfl <;> rfl, hb⟩
set_option maxRecDepth 100000 in
theorem sign_num (k n l m : Int) (hk : k = 2 ∨ k = 3) (hl : l = 2 ∨ l = 3) (n0 : -9223372036854775808 ≤ n) (n1 : n ≤ 9223372036854775807) (m0 : -9223372036854775808 ≤ m) (m1 : m ≤ 9223372036854775807) (w : World) :
    Calls Tryd.prog 33 #[valV k n, valV l m] w fun e w' => ∃ c, e = .returned (.tuple #[.int .i64 c, .nilIface]) ∧ Hid (c = cmp3 (scl k n) (scl l m)) ∧ -1 ≤ c ∧ c ≤ 1 ∧ Below w.heap.size w w' := by
  have HA : Hid (Num k n) := Lib.hid (.inr ⟨hk, n0, n1⟩)
  have HB : Hid (Num l m) := Lib.hid (.inr ⟨hl, m0, m1⟩)
  have HK := Lib.hid hk
  have HL := Lib.hid hl
  rcases hk with rfl | rfl <;> rcases hl with rfl | rfl
  all_goals
    refine calls_hide ?_; intro R hR; go_enter Tryd.func33, Tryd.ntmps33
    go_wp2_with (first | (go_at_call 51; refine (right_num _ _ (by first | exact HA.out | exact HB.out) _).mono ?_; rintro e w1 ⟨rfl, hw1⟩; obtain ⟨hcw1, hfw1, hzw1⟩ := bcn (n := w.heap.size + 1 + 1) (by first | (with_reducible assumption) | (simp only [World.size_alloc, World.size_setCell, World.heap_drewN]; first | exact Nat.le_refl _ | (with_reducible assumption))) hw1) | (go_at_call 52; refine (numeric_num _ _ (by decide) _).mono ?_; rintro e w2 ⟨rfl, hw2⟩; obtain ⟨hcw2, hfw2, hzw2⟩ := bcn (n := w.heap.size + 1 + 1) (by first | (with_reducible assumption) | (simp only [World.size_alloc, World.size_setCell, World.heap_drewN]; first | exact Nat.le_refl _ | (with_reducible assumption))) hw2) | (go_at_call 53; refine (order_any _ _ _ _ (by decide) (by decide) (by omega) (by omega) (by omega) (by omega) _).mono ?_; rintro e w3 ⟨c, rfl, hc, hcl, hch, hw3⟩; obtain ⟨hcw3, hfw3, hzw3⟩ := bcn (n := w.heap.size + 1 + 1) (by first | (with_reducible assumption) | (simp only [World.size_alloc, World.size_setCell, World.heap_drewN]; first | exact Nat.le_refl _ | (with_reducible assumption))) hw3))
    (apply hR.out; clear hR; go_tidy)
    exact ⟨c, rfl, hc, hcl, hch, by (repeat' (first | exact Below.refl _ _ | refine bl_set ?_ (by first | (simp; done) | (simp; omega)) _ | (with_reducible assumption) | refine bl_alloc ?_ _ | refine bl_drewN ?_ _ | refine bl_drew ?_ | refine blw ?_ (by with_reducible assumption)))⟩
/-- What a comparison of an op says of how two numbers stand. -/
def opB (op c : Int) : Bool := if op = 9 then c != 0 else if op = 10 then decide (c < 0) else if op = 11 then decide (c ≤ 0) else if op = 12 then decide (c > 0) else if op = 13 then decide (c ≥ 0) else c == 0
def cmpM (op k n l m : Int) : RM := if op < 8 ∨ 13 < op then .bad 1 0 else if k = 0 ∨ l = 0 then .ok 0 0 else .ok 1 (if opB op (cmp3 (scl k n) (scl l m)) then 1 else 0)
theorem compare_arg (op k n l m : Int) (s t : ByteArray) (h : op < 8 ∨ 13 < op) (w : World) : Calls Tryd.prog 34 #[.int .i64 op, .agg #[.int .i64 k, .int .i64 n, .string s], .agg #[.int .i64 l, .int .i64 m, .string t]] w fun e w' => RPost (.bad 1 0) e w' ∧ Below w.heap.size w w' := by
  by_cases h1 : op < 8
  · have h1' : decide (op < 8) = true := decide_eq_true h1
    clear h h1
    refine calls_hide ?_; intro R hR; go_enter Tryd.func34, Tryd.ntmps34
    go_wp2_with (go_at_call 23; refine (new_any _ _ (by rfl) _).mono ?_; rintro e w1 ⟨b, rfl, hge, hfa, hw1⟩; (try simp only [World.size_alloc, World.heap_drewN] at hge); obtain ⟨hcw1, hfw1, hzw1⟩ := bcn (n := w.heap.size + 1 + 1 + 1) (by first | (with_reducible assumption) | (simp only [World.size_alloc, World.size_setCell, World.heap_drewN]; first | exact Nat.le_refl _ | (with_reducible assumption))) hw1)
    (refine bodyPost_ret (v := .tuple #[valV 0 0, errV b]) (by simp [results, Tryd.results34, go_sem, *]) rfl ?_; (apply hR.out; clear hR; go_tidy))
    exact ⟨⟨b, rfl, by (repeat' (first | exact hfa | refine FaultAt.set ?_ (by first | (simp; done) | (simp; omega)) _))⟩, by (repeat' (first | exact Below.refl _ _ | refine bl_set ?_ (by first | (simp; done) | (simp; omega)) _ | (with_reducible assumption) | refine bl_alloc ?_ _ | refine bl_drewN ?_ _ | refine bl_drew ?_ | refine blw ?_ (by with_reducible assumption)))⟩
  · have h1' : decide (op < 8) = false := decide_eq_false h1
    have h2' : decide (13 < op) = true := decide_eq_true (by omega)
    clear h h1
    refine calls_hide ?_; intro R hR; go_enter Tryd.func34, Tryd.ntmps34
    go_wp2_with (go_at_call 23; refine (new_any _ _ (by rfl) _).mono ?_; rintro e w1 ⟨b, rfl, hge, hfa, hw1⟩; (try simp only [World.size_alloc, World.heap_drewN] at hge); obtain ⟨hcw1, hfw1, hzw1⟩ := bcn (n := w.heap.size + 1 + 1 + 1) (by first | (with_reducible assumption) | (simp only [World.size_alloc, World.size_setCell, World.heap_drewN]; first | exact Nat.le_refl _ | (with_reducible assumption))) hw1)
    (refine bodyPost_ret (v := .tuple #[valV 0 0, errV b]) (by simp [results, Tryd.results34, go_sem, *]) rfl ?_; (apply hR.out; clear hR; go_tidy))
    exact ⟨⟨b, rfl, by (repeat' (first | exact hfa | refine FaultAt.set ?_ (by first | (simp; done) | (simp; omega)) _))⟩, by (repeat' (first | exact Below.refl _ _ | refine bl_set ?_ (by first | (simp; done) | (simp; omega)) _ | (with_reducible assumption) | refine bl_alloc ?_ _ | refine bl_drewN ?_ _ | refine bl_drew ?_ | refine blw ?_ (by with_reducible assumption)))⟩
theorem compare_null (op k n l m : Int) (h0 : 8 ≤ op) (h1 : op ≤ 13) (ha : Num k n) (hb : Num l m) (hz : k = 0 ∨ l = 0) (w : World) : Calls Tryd.prog 34 #[.int .i64 op, valV k n, valV l m] w fun e w' => RPost (.ok 0 0) e w' ∧ Below w.heap.size w w' := by
  have HA := Lib.hid ha
  have HB := Lib.hid hb
  by_cases hk : k = 0
  · subst hk
    clear ha hb hz
    refine calls_hide ?_; intro R hR; go_enter Tryd.func34, Tryd.ntmps34
    go_wp2_with (go_at_call 51; refine (right_num _ _ (by first | exact HA.out | exact HB.out) _).mono ?_; rintro e w1 ⟨rfl, hw1⟩; obtain ⟨hcw1, hfw1, hzw1⟩ := bcn (n := w.heap.size + 1 + 1 + 1) (by first | (with_reducible assumption) | (simp only [World.size_alloc, World.size_setCell, World.heap_drewN]; first | exact Nat.le_refl _ | (with_reducible assumption))) hw1)
    (refine bodyPost_ret (v := .tuple #[valV 0 0, .nilIface]) (by simp [results, Tryd.results34, go_sem, *]) rfl ?_; (apply hR.out; clear hR; go_tidy))
    exact ⟨rfl, by (repeat' (first | exact Below.refl _ _ | refine bl_set ?_ (by first | (simp; done) | (simp; omega)) _ | (with_reducible assumption) | refine bl_alloc ?_ _ | refine bl_drewN ?_ _ | refine bl_drew ?_ | refine blw ?_ (by with_reducible assumption)))⟩
  · have hk' : (k == 0) = false := by simpa using hk
    obtain rfl : l = 0 := by omega
    clear ha hb hz hk
    refine calls_hide ?_; intro R hR; go_enter Tryd.func34, Tryd.ntmps34
    go_wp2_with (go_at_call 51; refine (right_num _ _ (by first | exact HA.out | exact HB.out) _).mono ?_; rintro e w1 ⟨rfl, hw1⟩; obtain ⟨hcw1, hfw1, hzw1⟩ := bcn (n := w.heap.size + 1 + 1 + 1) (by first | (with_reducible assumption) | (simp only [World.size_alloc, World.size_setCell, World.heap_drewN]; first | exact Nat.le_refl _ | (with_reducible assumption))) hw1)
    (refine bodyPost_ret (v := .tuple #[valV 0 0, .nilIface]) (by simp [results, Tryd.results34, go_sem, *]) rfl ?_; (apply hR.out; clear hR; go_tidy))
    exact ⟨rfl, by (repeat' (first | exact Below.refl _ _ | refine bl_set ?_ (by first | (simp; done) | (simp; omega)) _ | (with_reducible assumption) | refine bl_alloc ?_ _ | refine bl_drewN ?_ _ | refine bl_drew ?_ | refine blw ?_ (by with_reducible assumption)))⟩
set_option maxHeartbeats 4000000 in
set_option maxRecDepth 100000 in
theorem compare_one (op k n l m : Int) (hop : op = 8 ∨ op = 9 ∨ op = 10 ∨ op = 11 ∨ op = 12 ∨ op = 13) (hk : k = 2 ∨ k = 3) (hl : l = 2 ∨ l = 3) (n0 : -9223372036854775808 ≤ n) (n1 : n ≤ 9223372036854775807) (m0 : -9223372036854775808 ≤ m) (m1 : m ≤ 9223372036854775807) (w : World) :
    Calls Tryd.prog 34 #[.int .i64 op, valV k n, valV l m] w fun e w' => RPost (.ok 1 (if opB op (cmp3 (scl k n) (scl l m)) then 1 else 0)) e w' ∧ Below w.heap.size w w' := by
  have HA : Hid (Num k n) := Lib.hid (.inr ⟨hk, n0, n1⟩)
  have HB : Hid (Num l m) := Lib.hid (.inr ⟨hl, m0, m1⟩)
  have HK := Lib.hid hk
  have HL := Lib.hid hl
  have hk0 : (k == 0) = false := by simp; omega
  have hl0 : (l == 0) = false := by simp; omega
  clear hk hl
  rcases hop with rfl | rfl | rfl | rfl | rfl | rfl
  all_goals
    refine calls_hide ?_; intro R hR; go_enter Tryd.func34, Tryd.ntmps34
    go_wp2_with (first | (go_at_call 51; refine (right_num _ _ (by first | exact HA.out | exact HB.out) _).mono ?_; rintro e w1 ⟨rfl, hw1⟩; obtain ⟨hcw1, hfw1, hzw1⟩ := bcn (n := w.heap.size + 1 + 1 + 1) (by first | (with_reducible assumption) | (simp only [World.size_alloc, World.size_setCell, World.heap_drewN]; first | exact Nat.le_refl _ | (with_reducible assumption))) hw1) | (go_at_call 33; refine (sign_num _ _ _ _ HK.out HL.out (by omega) (by omega) (by omega) (by omega) _).mono ?_; rintro e w3 ⟨c, rfl, hc, hcl, hch, hw3⟩; obtain ⟨hcw3, hfw3, hzw3⟩ := bcn (n := w.heap.size + 1 + 1 + 1) (by first | (with_reducible assumption) | (simp only [World.size_alloc, World.size_setCell, World.heap_drewN]; first | exact Nat.le_refl _ | (with_reducible assumption))) hw3; have hq3 : w.heap.size + 1 + 1 < w3.heap.size := hzw3; obtain rfl | rfl | rfl : c = -1 ∨ c = 0 ∨ c = 1 := by omega))
  · (refine bodyPost_ret (v := .tuple #[valV 1 0, .nilIface]) (by simp [results, Tryd.results34, go_sem, *]) rfl ?_; (apply hR.out; clear hR; go_tidy)); exact ⟨by rw [← hc.out]; rfl, by (repeat' (first | exact Below.refl _ _ | refine bl_set ?_ (by first | (simp; done) | (simp; omega)) _ | (with_reducible assumption) | refine bl_alloc ?_ _ | refine bl_drewN ?_ _ | refine bl_drew ?_ | refine blw ?_ (by with_reducible assumption)))⟩
  · (refine bodyPost_ret (v := .tuple #[valV 1 1, .nilIface]) (by simp [results, Tryd.results34, go_sem, *]) rfl ?_; (apply hR.out; clear hR; go_tidy)); exact ⟨by rw [← hc.out]; rfl, by (repeat' (first | exact Below.refl _ _ | refine bl_set ?_ (by first | (simp; done) | (simp; omega)) _ | (with_reducible assumption) | refine bl_alloc ?_ _ | refine bl_drewN ?_ _ | refine bl_drew ?_ | refine blw ?_ (by with_reducible assumption)))⟩
  · (refine bodyPost_ret (v := .tuple #[valV 1 0, .nilIface]) (by simp [results, Tryd.results34, go_sem, *]) rfl ?_; (apply hR.out; clear hR; go_tidy)); exact ⟨by rw [← hc.out]; rfl, by (repeat' (first | exact Below.refl _ _ | refine bl_set ?_ (by first | (simp; done) | (simp; omega)) _ | (with_reducible assumption) | refine bl_alloc ?_ _ | refine bl_drewN ?_ _ | refine bl_drew ?_ | refine blw ?_ (by with_reducible assumption)))⟩
  · (refine bodyPost_ret (v := .tuple #[valV 1 1, .nilIface]) (by simp [results, Tryd.results34, go_sem, *]) rfl ?_; (apply hR.out; clear hR; go_tidy)); exact ⟨by rw [← hc.out]; rfl, by (repeat' (first | exact Below.refl _ _ | refine bl_set ?_ (by first | (simp; done) | (simp; omega)) _ | (with_reducible assumption) | refine bl_alloc ?_ _ | refine bl_drewN ?_ _ | refine bl_drew ?_ | refine blw ?_ (by with_reducible assumption)))⟩
  · (refine bodyPost_ret (v := .tuple #[valV 1 0, .nilIface]) (by simp [results, Tryd.results34, go_sem, *]) rfl ?_; (apply hR.out; clear hR; go_tidy)); exact ⟨by rw [← hc.out]; rfl, by (repeat' (first | exact Below.refl _ _ | refine bl_set ?_ (by first | (simp; done) | (simp; omega)) _ | (with_reducible assumption) | refine bl_alloc ?_ _ | refine bl_drewN ?_ _ | refine bl_drew ?_ | refine blw ?_ (by with_reducible assumption)))⟩
  · (refine bodyPost_ret (v := .tuple #[valV 1 1, .nilIface]) (by simp [results, Tryd.results34, go_sem, *]) rfl ?_; (apply hR.out; clear hR; go_tidy)); exact ⟨by rw [← hc.out]; rfl, by (repeat' (first | exact Below.refl _ _ | refine bl_set ?_ (by first | (simp; done) | (simp; omega)) _ | (with_reducible assumption) | refine bl_alloc ?_ _ | refine bl_drewN ?_ _ | refine bl_drew ?_ | refine blw ?_ (by with_reducible assumption)))⟩
  · (refine bodyPost_ret (v := .tuple #[valV 1 1, .nilIface]) (by simp [results, Tryd.results34, go_sem, *]) rfl ?_; (apply hR.out; clear hR; go_tidy)); exact ⟨by rw [← hc.out]; rfl, by (repeat' (first | exact Below.refl _ _ | refine bl_set ?_ (by first | (simp; done) | (simp; omega)) _ | (with_reducible assumption) | refine bl_alloc ?_ _ | refine bl_drewN ?_ _ | refine bl_drew ?_ | refine blw ?_ (by with_reducible assumption)))⟩
  · (refine bodyPost_ret (v := .tuple #[valV 1 0, .nilIface]) (by simp [results, Tryd.results34, go_sem, *]) rfl ?_; (apply hR.out; clear hR; go_tidy)); exact ⟨by rw [← hc.out]; rfl, by (repeat' (first | exact Below.refl _ _ | refine bl_set ?_ (by first | (simp; done) | (simp; omega)) _ | (with_reducible assumption) | refine bl_alloc ?_ _ | refine bl_drewN ?_ _ | refine bl_drew ?_ | refine blw ?_ (by with_reducible assumption)))⟩
  · (refine bodyPost_ret (v := .tuple #[valV 1 0, .nilIface]) (by simp [results, Tryd.results34, go_sem, *]) rfl ?_; (apply hR.out; clear hR; go_tidy)); exact ⟨by rw [← hc.out]; rfl, by (repeat' (first | exact Below.refl _ _ | refine bl_set ?_ (by first | (simp; done) | (simp; omega)) _ | (with_reducible assumption) | refine bl_alloc ?_ _ | refine bl_drewN ?_ _ | refine bl_drew ?_ | refine blw ?_ (by with_reducible assumption)))⟩
  · (refine bodyPost_ret (v := .tuple #[valV 1 1, .nilIface]) (by simp [results, Tryd.results34, go_sem, *]) rfl ?_; (apply hR.out; clear hR; go_tidy)); exact ⟨by rw [← hc.out]; rfl, by (repeat' (first | exact Below.refl _ _ | refine bl_set ?_ (by first | (simp; done) | (simp; omega)) _ | (with_reducible assumption) | refine bl_alloc ?_ _ | refine bl_drewN ?_ _ | refine bl_drew ?_ | refine blw ?_ (by with_reducible assumption)))⟩
  · (refine bodyPost_ret (v := .tuple #[valV 1 1, .nilIface]) (by simp [results, Tryd.results34, go_sem, *]) rfl ?_; (apply hR.out; clear hR; go_tidy)); exact ⟨by rw [← hc.out]; rfl, by (repeat' (first | exact Below.refl _ _ | refine bl_set ?_ (by first | (simp; done) | (simp; omega)) _ | (with_reducible assumption) | refine bl_alloc ?_ _ | refine bl_drewN ?_ _ | refine bl_drew ?_ | refine blw ?_ (by with_reducible assumption)))⟩
  · (refine bodyPost_ret (v := .tuple #[valV 1 0, .nilIface]) (by simp [results, Tryd.results34, go_sem, *]) rfl ?_; (apply hR.out; clear hR; go_tidy)); exact ⟨by rw [← hc.out]; rfl, by (repeat' (first | exact Below.refl _ _ | refine bl_set ?_ (by first | (simp; done) | (simp; omega)) _ | (with_reducible assumption) | refine bl_alloc ?_ _ | refine bl_drewN ?_ _ | refine bl_drew ?_ | refine blw ?_ (by with_reducible assumption)))⟩
  · (refine bodyPost_ret (v := .tuple #[valV 1 0, .nilIface]) (by simp [results, Tryd.results34, go_sem, *]) rfl ?_; (apply hR.out; clear hR; go_tidy)); exact ⟨by rw [← hc.out]; rfl, by (repeat' (first | exact Below.refl _ _ | refine bl_set ?_ (by first | (simp; done) | (simp; omega)) _ | (with_reducible assumption) | refine bl_alloc ?_ _ | refine bl_drewN ?_ _ | refine bl_drew ?_ | refine blw ?_ (by with_reducible assumption)))⟩
  · (refine bodyPost_ret (v := .tuple #[valV 1 0, .nilIface]) (by simp [results, Tryd.results34, go_sem, *]) rfl ?_; (apply hR.out; clear hR; go_tidy)); exact ⟨by rw [← hc.out]; rfl, by (repeat' (first | exact Below.refl _ _ | refine bl_set ?_ (by first | (simp; done) | (simp; omega)) _ | (with_reducible assumption) | refine bl_alloc ?_ _ | refine bl_drewN ?_ _ | refine bl_drew ?_ | refine blw ?_ (by with_reducible assumption)))⟩
  · (refine bodyPost_ret (v := .tuple #[valV 1 1, .nilIface]) (by simp [results, Tryd.results34, go_sem, *]) rfl ?_; (apply hR.out; clear hR; go_tidy)); exact ⟨by rw [← hc.out]; rfl, by (repeat' (first | exact Below.refl _ _ | refine bl_set ?_ (by first | (simp; done) | (simp; omega)) _ | (with_reducible assumption) | refine bl_alloc ?_ _ | refine bl_drewN ?_ _ | refine bl_drew ?_ | refine blw ?_ (by with_reducible assumption)))⟩
  · (refine bodyPost_ret (v := .tuple #[valV 1 0, .nilIface]) (by simp [results, Tryd.results34, go_sem, *]) rfl ?_; (apply hR.out; clear hR; go_tidy)); exact ⟨by rw [← hc.out]; rfl, by (repeat' (first | exact Below.refl _ _ | refine bl_set ?_ (by first | (simp; done) | (simp; omega)) _ | (with_reducible assumption) | refine bl_alloc ?_ _ | refine bl_drewN ?_ _ | refine bl_drew ?_ | refine blw ?_ (by with_reducible assumption)))⟩
  · (refine bodyPost_ret (v := .tuple #[valV 1 1, .nilIface]) (by simp [results, Tryd.results34, go_sem, *]) rfl ?_; (apply hR.out; clear hR; go_tidy)); exact ⟨by rw [← hc.out]; rfl, by (repeat' (first | exact Below.refl _ _ | refine bl_set ?_ (by first | (simp; done) | (simp; omega)) _ | (with_reducible assumption) | refine bl_alloc ?_ _ | refine bl_drewN ?_ _ | refine bl_drew ?_ | refine blw ?_ (by with_reducible assumption)))⟩
  · (refine bodyPost_ret (v := .tuple #[valV 1 1, .nilIface]) (by simp [results, Tryd.results34, go_sem, *]) rfl ?_; (apply hR.out; clear hR; go_tidy)); exact ⟨by rw [← hc.out]; rfl, by (repeat' (first | exact Below.refl _ _ | refine bl_set ?_ (by first | (simp; done) | (simp; omega)) _ | (with_reducible assumption) | refine bl_alloc ?_ _ | refine bl_drewN ?_ _ | refine bl_drew ?_ | refine blw ?_ (by with_reducible assumption)))⟩
theorem compare_num (op k n l m : Int) (ha : Num k n) (hb : Num l m) (w : World) :
    Calls Tryd.prog 34 #[.int .i64 op, valV k n, valV l m] w fun e w' => RPost (cmpM op k n l m) e w' ∧ Below w.heap.size w w' := by
  unfold cmpM
  by_cases h : op < 8 ∨ 13 < op
  · rw [if_pos h]; exact compare_arg op k n l m _ _ h w
  rw [if_neg h]
  by_cases hz : k = 0 ∨ l = 0
  · rw [if_pos hz]; exact compare_null op k n l m (by omega) (by omega) ha hb hz w
  rw [if_neg hz]
  obtain ⟨hk, n0, n1⟩ : (k = 2 ∨ k = 3) ∧ -9223372036854775808 ≤ n ∧ n ≤ 9223372036854775807 := ha.resolve_left (by omega)
  obtain ⟨hl, m0, m1⟩ : (l = 2 ∨ l = 3) ∧ -9223372036854775808 ≤ m ∧ m ≤ 9223372036854775807 := hb.resolve_left (by omega)
  exact compare_one op k n l m (by omega) hk hl n0 n1 m0 m1 w
end Go.Proofs.YtdlmcgflgdmjgaaDoor
