/- number.Neg, order, Sign, Compare at numbers and nothing. -/
import Derived.Test.YtdlmcgflgdmjgaaDoorN4
set_option linter.unusedVariables false
set_option linter.unusedSimpArgs false
namespace Go.Proofs.YtdlmcgflgdmjgaaDoor
open Go.RowKit

def negM (k n : Int) : RM := if n = -9223372036854775808 then .bad 31 2 else .ok k (-n)
theorem neg_num (k n : Int) (ha : Num k n) (w : World) : Calls Tryd.prog 32 #[valV k n] w fun e w' => RPost (negM k n) e w' ∧ Below w.heap.size w w' := by
  have hn : -9223372036854775808 ≤ n ∧ n ≤ 9223372036854775807 := by rcases ha with ⟨_, rfl⟩ | ⟨_, h⟩ <;> omega
  obtain ⟨n0, n1⟩ := hn
  have HA := Lib.hid ha
  have HB := HA
  by_cases hm : n = -9223372036854775808
  · subst hm
    clear ha
    refine calls_hide ?_; intro R hR; go_enter Tryd.func32, Tryd.ntmps32
    go_wp2_with (first | (go_at_call 47; refine (reckons_num _ _ HA.out _).mono ?_; rintro e w1 ⟨rfl, hw1⟩; obtain ⟨hcw1, hfw1, hzw1⟩ := bcn (n := w.heap.size + 1 + 1) (by first | (with_reducible assumption) | (simp only [World.size_alloc, World.size_setCell, World.heap_drewN]; first | exact Nat.le_refl _ | (with_reducible assumption))) hw1) | (go_at_call 23; refine (new_any _ _ (by rfl) _).mono ?_; rintro e w3 ⟨b, rfl, hge, hfa, hw3⟩; (try simp only [World.size_alloc, World.heap_drewN] at hge); obtain ⟨hcw3, hfw3, hzw3⟩ := bcn (n := w.heap.size + 1 + 1) (by first | (with_reducible assumption) | (simp only [World.size_alloc, World.size_setCell, World.heap_drewN]; first | exact Nat.le_refl _ | (with_reducible assumption))) hw3))
    (refine bodyPost_ret (v := .tuple #[valV 0 0, errV b]) (by simp [results, Tryd.results32, go_sem, *]) rfl ?_; (apply hR.out; clear hR; go_tidy))
    exact ⟨⟨b, rfl, by (repeat' (first | exact hfa | refine FaultAt.set ?_ (by first | (simp; done) | (simp; omega)) _))⟩, by (repeat' (first | exact Below.refl _ _ | refine bl_set ?_ (by first | (simp; done) | (simp; omega)) _ | (with_reducible assumption) | refine bl_alloc ?_ _ | refine bl_drewN ?_ _ | refine bl_drew ?_ | refine blw ?_ (by with_reducible assumption)))⟩
  · have hmb : (n == -9223372036854775808) = false := by simpa using hm
    have n0' : -9223372036854775807 ≤ n := by omega
    have HM := Lib.hid hm
    clear ha hm n0
    refine calls_hide ?_; intro R hR; go_enter Tryd.func32, Tryd.ntmps32
    go_wp2_with (first | ((go_at_call 47; refine (reckons_num _ _ HA.out _).mono ?_; rintro e w1 ⟨rfl, hw1⟩; obtain ⟨hcw1, hfw1, hzw1⟩ := bcn (n := w.heap.size + 1 + 1) (by first | (with_reducible assumption) | (simp only [World.size_alloc, World.size_setCell, World.heap_drewN]; first | exact Nat.le_refl _ | (with_reducible assumption))) hw1); have hv1 : w1.cell? ⟨w.heap.size, 1, none⟩ = some (.int .i64 n) := (hw1.cell (p := ⟨w.heap.size, 1, none⟩) (by simp; omega)).trans (by simp); have hv2 : ∀ u, (w1.setCell ⟨w.heap.size, 1, none⟩ u).cell? ⟨w.heap.size, 1, none⟩ = some u := fun u => World.cell?_setCell_same _ _ _ hv1) | (go_at_call 23; refine (new_any _ _ (by rfl) _).mono ?_; rintro e w3 ⟨b, rfl, hge, hfa, hw3⟩; (try simp only [World.size_alloc, World.heap_drewN] at hge); obtain ⟨hcw3, hfw3, hzw3⟩ := bcn (n := w.heap.size + 1 + 1) (by first | (with_reducible assumption) | (simp only [World.size_alloc, World.size_setCell, World.heap_drewN]; first | exact Nat.le_refl _ | (with_reducible assumption))) hw3))
    (refine bodyPost_ret (v := .tuple #[valV k (-n), .nilIface]) (by simp [results, Tryd.results32, go_sem, *]) rfl ?_; (apply hR.out; clear hR; go_tidy))
    exact ⟨by rw [negM, if_neg HM.out]; rfl, by (repeat' (first | exact Below.refl _ _ | refine bl_set ?_ (by first | (simp; done) | (simp; omega)) _ | (with_reducible assumption) | refine bl_alloc ?_ _ | refine bl_drewN ?_ _ | refine bl_drew ?_ | refine blw ?_ (by with_reducible assumption)))⟩
def cmp3 (a b : Int) : Int := if a < b then -1 else if b < a then 1 else 0
/-- What a number stands for, times 10000. -/
def scl (k n : Int) : Int := if k = 3 then n else n * 10000
theorem cmp3_any (a b : Int) (w : World) : Calls Tryd.prog 69 #[.int .i64 a, .int .i64 b] w fun e w' => ∃ c, e = .returned (.int .i64 c) ∧ Hid (c = cmp3 a b) ∧ -1 ≤ c ∧ c ≤ 1 ∧ w = w' :=
  (cmp64_any a b w).mono fun _ _ ⟨he, hw⟩ => ⟨_, he, Lib.hid rfl, by split <;> (try split) <;> omega, by split <;> (try split) <;> omega, hw⟩
theorem cmp3_none {n m : Int} (hp : prom 2 n = none) (m0 : -9223372036854775808 ≤ m) (m1 : m ≤ 9223372036854775807) : cmp3 n 0 = cmp3 (scl 2 n) (scl 3 m) := by
  unfold prom at hp
  simp only [show ¬ (2 : Int) = 3 by omega, if_false] at hp
  split at hp
  · cases hp
  · rename_i hf; rw [Bool.not_eq_true, fits_not] at hf
    unfold cmp3 scl; simp only [show ¬ (2 : Int) = 3 by omega, if_false, if_true]
    rcases hf with hf | hf
    · rw [if_pos (by omega), if_pos (by omega)]
    · rw [if_neg (by omega), if_pos (by omega), if_neg (by omega), if_pos (by omega)]
theorem cmp3_some {n m x : Int} (hp : prom 2 n = some x) : cmp3 x m = cmp3 (scl 2 n) (scl 3 m) := by
  unfold prom at hp
  simp only [show ¬ (2 : Int) = 3 by omega, if_false] at hp
  split at hp
  · injection hp with hp; subst hp; rfl
  · cases hp
theorem order_23 (n m : Int) (n0 : -9223372036854775808 ≤ n) (n1 : n ≤ 9223372036854775807) (m0 : -9223372036854775808 ≤ m) (m1 : m ≤ 9223372036854775807) (w : World) :
    Calls Tryd.prog 53 #[valV 2 n, valV 3 m] w fun e w' => ∃ c, e = .returned (.int .i64 c) ∧ Hid (c = cmp3 (scl 2 n) (scl 3 m)) ∧ -1 ≤ c ∧ c ≤ 1 ∧ Below w.heap.size w w' := by
  refine calls_hide ?_; intro R hR; go_enter Tryd.func53, Tryd.ntmps53
  go_wp2_with (first | (go_at_call 69; refine (cmp3_any _ _ _).mono ?_; rintro e w' ⟨c, rfl, hc, hcl, hch, rfl⟩) | (go_at_call 48; refine (promoted_hid _ _ _ _ (by omega) (by omega) _).mono ?_; rintro e w4 ⟨(⟨x, hx, hxl, hxh, rfl⟩ | ⟨hx, b, rfl, hge, hfa⟩), hw4⟩ <;> obtain ⟨hcw4, hfw4, hzw4⟩ := bcn (n := w.heap.size + 1 + 1) (by first | (with_reducible assumption) | (simp only [World.size_alloc, World.size_setCell, World.heap_drewN]; first | exact Nat.le_refl _ | (with_reducible assumption))) hw4))
  all_goals (apply hR.out; clear hR; go_tidy)
  · exact ⟨c, rfl, Lib.hid (hc.out.trans (cmp3_some hx.out)), hcl, hch, by (repeat' (first | exact Below.refl _ _ | refine bl_set ?_ (by first | (simp; done) | (simp; omega)) _ | (with_reducible assumption) | refine bl_alloc ?_ _ | refine bl_drewN ?_ _ | refine bl_drew ?_ | refine blw ?_ (by with_reducible assumption)))⟩
  · exact ⟨c, rfl, Lib.hid (hc.out.trans (cmp3_none hx.out m0 m1)), hcl, hch, by (repeat' (first | exact Below.refl _ _ | refine bl_set ?_ (by first | (simp; done) | (simp; omega)) _ | (with_reducible assumption) | refine bl_alloc ?_ _ | refine bl_drewN ?_ _ | refine bl_drew ?_ | refine blw ?_ (by with_reducible assumption)))⟩
theorem cmp3_swap (a b : Int) : -cmp3 a b = cmp3 b a := by unfold cmp3; split <;> split <;> (try split) <;> omega
theorem cmp3_scl (k n m : Int) : cmp3 n m = cmp3 (scl k n) (scl k m) := by
  by_cases hk : k = 3
  · simp only [scl, hk, if_true]
  · simp only [scl, hk, if_false, cmp3]
    have h1 : (n < m) = (n * 10000 < m * 10000) := propext ⟨fun _ => by omega, fun _ => by omega⟩
    have h2 : (m < n) = (m * 10000 < n * 10000) := propext ⟨fun _ => by omega, fun _ => by omega⟩
    simp only [h1, h2]
theorem order_any (k n l m : Int) (hk : k = 2 ∨ k = 3) (hl : l = 2 ∨ l = 3) (n0 : -9223372036854775808 ≤ n) (n1 : n ≤ 9223372036854775807) (m0 : -9223372036854775808 ≤ m) (m1 : m ≤ 9223372036854775807) (w : World) :
    Calls Tryd.prog 53 #[valV k n, valV l m] w fun e w' => ∃ c, e = .returned (.int .i64 c) ∧ Hid (c = cmp3 (scl k n) (scl l m)) ∧ -1 ≤ c ∧ c ≤ 1 ∧ Below w.heap.size w w' := by
  by_cases he : k = l
  · subst he
    have hs : cmp3 n m = cmp3 (scl k n) (scl k m) := cmp3_scl k n m
    have HS := Lib.hid hs
    clear hs hk hl
    refine calls_hide ?_; intro R hR; go_enter Tryd.func53, Tryd.ntmps53
    go_wp2_with (go_at_call 69; refine (cmp3_any _ _ _).mono ?_; rintro e w' ⟨c, rfl, hc, hcl, hch, rfl⟩)
    (apply hR.out; clear hR; go_tidy)
    exact ⟨c, rfl, Lib.hid (hc.out.trans HS.out), hcl, hch, by (repeat' (first | exact Below.refl _ _ | refine bl_set ?_ (by first | (simp; done) | (simp; omega)) _ | (with_reducible assumption) | refine bl_alloc ?_ _ | refine bl_drewN ?_ _ | refine bl_drew ?_ | refine blw ?_ (by with_reducible assumption)))⟩
  · rcases hk with rfl | rfl
    · obtain rfl : l = 3 := by omega
      exact order_23 n m n0 n1 m0 m1 w
    · obtain rfl : l = 2 := by omega
      clear hl he
      refine calls_hide ?_; intro R hR; go_enter Tryd.func53, Tryd.ntmps53
      go_wp2_with (go_at_call 53; refine (order_23 _ _ (by omega) (by omega) (by omega) (by omega) _).mono ?_; rintro e w4 ⟨c, rfl, hc, hcl, hch, hw4⟩)
      (apply hR.out; clear hR; go_tidy)
      exact ⟨-c, rfl, Lib.hid (by rw [hc.out, cmp3_swap]), by omega, by omega, by (repeat' (first | exact Below.refl _ _ | refine bl_set ?_ (by first | (simp; done) | (simp; omega)) _ | (with_reducible assumption) | refine bl_alloc ?_ _ | refine bl_drewN ?_ _ | refine bl_drew ?_ | refine blw ?_ (by with_reducible assumption)))⟩
end Go.Proofs.YtdlmcgflgdmjgaaDoor
