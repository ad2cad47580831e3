/- frankpledgelaw03's own small functions, and its live question. -/
import Derived.Test.YtdlmcgflgdmjgaaDoorN5
import Derived.Test.YtdlmcgflgdmjgaaDoorN7
import Derived.Test.YtdlmcgflgdmjgaaDoorFc
import Derived.Deep.RegionHeld3
set_option linter.unusedVariables false
set_option linter.unusedSimpArgs false
namespace Go.Proofs.YtdlmcgflgdmjgaaDoor
open Go.RowKit

theorem whole_any (n : Int) (w : World) : Calls Tryd.prog 30 #[.int .i64 n] w fun e w' => e = .returned (valV 2 n) ∧ Below w.heap.size w w' := by
  refine calls_hide ?_; intro R hR; go_enter Tryd.func30, Tryd.ntmps30
  go_wp2
  refine bodyPost_ret (v := valV 2 n) (by simp [results, Tryd.results30, go_sem, *]) rfl ?_
  (apply hR.out; clear hR; go_tidy)
  exact ⟨rfl, by (repeat' (first | exact Below.refl _ _ | refine bl_set ?_ (by first | (simp; done) | (simp; omega)) _ | (with_reducible assumption) | refine bl_alloc ?_ _ | refine bl_drewN ?_ _ | refine bl_drew ?_ | refine blw ?_ (by with_reducible assumption)))⟩
theorem dec_any (n : Int) (w : World) : Calls Tryd.prog 31 #[.int .i64 n] w fun e w' => e = .returned (valV 3 n) ∧ Below w.heap.size w w' := by
  refine calls_hide ?_; intro R hR; go_enter Tryd.func31, Tryd.ntmps31
  go_wp2
  refine bodyPost_ret (v := valV 3 n) (by simp [results, Tryd.results31, go_sem, *]) rfl ?_
  (apply hR.out; clear hR; go_tidy)
  exact ⟨rfl, by (repeat' (first | exact Below.refl _ _ | refine bl_set ?_ (by first | (simp; done) | (simp; omega)) _ | (with_reducible assumption) | refine bl_alloc ?_ _ | refine bl_drewN ?_ _ | refine bl_drew ?_ | refine blw ?_ (by with_reducible assumption)))⟩
theorem num2 {n : Int} (n0 : -9223372036854775808 ≤ n) (n1 : n ≤ 9223372036854775807) : Num 2 n := .inr ⟨.inl rfl, n0, n1⟩
theorem num3 {n : Int} (n0 : -9223372036854775808 ≤ n) (n1 : n ≤ 9223372036854775807) : Num 3 n := .inr ⟨.inr rfl, n0, n1⟩
theorem al_div : reckM 6 3 (-10000) 2 3 = .ok 3 (-3333) := rfl
theorem al_add : reckM 3 2 9223372036854775807 2 1 = .bad 31 2 := rfl
theorem reckon_div (w : World) : Calls Tryd.prog 29 #[.int .i64 6, valV 3 (-10000), valV 2 3] w fun e w' => e = .returned (.tuple #[valV 3 (-3333), .nilIface]) ∧ Below w.heap.size w w' :=
  (reckon_num 6 3 (-10000) 2 3 (num3 (by omega) (by omega)) (num2 (by omega) (by omega)) w).mono fun _ _ ⟨h, hb⟩ => ⟨by rw [al_div] at h; exact h, hb⟩
theorem reckon_add (w : World) : Calls Tryd.prog 29 #[.int .i64 3, valV 2 9223372036854775807, valV 2 1] w fun e w' => (∃ b, e = .returned (.tuple #[valV 0 0, errV b]) ∧ FaultAt w' b 31 2) ∧ Below w.heap.size w w' :=
  (reckon_num 3 2 9223372036854775807 2 1 (num2 (by omega) (by omega)) (num2 (by omega) (by omega)) w).mono fun _ _ ⟨h, hb⟩ => ⟨by rw [al_add] at h; exact h, hb⟩
theorem alive_true (w : World) (hl : Laid w) : Calls Tryd.prog 28 #[] w fun e w' => e = .returned (.bool true) ∧ Below w.heap.size w w' := by
  have HLd := Lib.hid hl
  clear hl
  refine calls_hide ?_; intro R hR; go_enter Tryd.func28, Tryd.ntmps28
  go_upto_region 3 with (first | (go_at_call 30; refine (whole_any _ _).mono ?_; rintro e w1 ⟨rfl, hw1⟩) | (go_at_call 31; refine (dec_any _ _).mono ?_; rintro e w2 ⟨rfl, hw2⟩) | (go_at_call 29; ((with_reducible refine (reckon_div _).mono ?_); rintro e w3 ⟨rfl, hw3⟩)) | (go_at_call 29; ((with_reducible refine (reckon_add _).mono ?_); rintro e w4 ⟨⟨b, rfl, hfa⟩, hw4⟩)))
  have hBX : Below (w3.alloc (.cells #[.int .i64 3, .int .i64 (-3333), .string ⟨#[]⟩] 51)).heap.size (w3.alloc (.cells #[.int .i64 3, .int .i64 (-3333), .string ⟨#[]⟩] 51)) (w4.alloc (.cells #[.int .i64 0, .int .i64 0, .string ⟨#[]⟩] 51)) := by (repeat' (first | exact Below.refl _ _ | refine bl_set ?_ (by first | (simp; done) | (simp; omega)) _ | (with_reducible assumption) | refine bl_alloc ?_ _ | refine bl_drewN ?_ _ | refine bl_drew ?_ | refine blw ?_ (by with_reducible assumption)))
  have hBW : Below w.heap.size w (w4.alloc (.cells #[.int .i64 0, .int .i64 0, .string ⟨#[]⟩] 51)) := by (repeat' (first | exact Below.refl _ _ | refine bl_set ?_ (by first | (simp; done) | (simp; omega)) _ | (with_reducible assumption) | refine bl_alloc ?_ _ | refine bl_drewN ?_ _ | refine bl_drew ?_ | refine blw ?_ (by with_reducible assumption)))
  have hFW : FaultAt (w4.alloc (.cells #[.int .i64 0, .int .i64 0, .string ⟨#[]⟩] 51)) b 31 2 := hfa.below (below_box _ _)
  obtain ⟨W, hW⟩ : ∃ W, W = w4.alloc (.cells #[.int .i64 0, .int .i64 0, .string ⟨#[]⟩] 51) := ⟨_, rfl⟩
  rw [← hW] at hBX hBW hFW ⊢
  have hLW := Lib.hid (HLd.out.below hBW)
  have hFW' := Lib.hid hFW
  obtain ⟨p, hp⟩ : ∃ p, p = w3.heap.size := ⟨_, rfl⟩
  have hc0 : W.cell? ⟨p, 0, none⟩ = some (.int .i64 3) := by subst hp; exact (hBX.cell (p := ⟨w3.heap.size, 0, none⟩) (by simp)).trans (by simp)
  have hc1 : W.cell? ⟨p, 1, none⟩ = some (.int .i64 (-3333)) := by subst hp; exact (hBX.cell (p := ⟨w3.heap.size, 1, none⟩) (by simp)).trans (by simp)
  have hc2 : W.cell? ⟨p, 2, none⟩ = some (.string ⟨#[]⟩) := by subst hp; exact (hBX.cell (p := ⟨w3.heap.size, 2, none⟩) (by simp)).trans (by simp)
  have hpl := Lib.hid (World.block_lt_of_cell? W _ hc0)
  rw [← hp]
  clear hBX hFW hW hp hfa
  have mkS : ∀ w', Below W.heap.size W w' → (w'.cell? ⟨p, 0, none⟩ = some (.int .i64 3) ∧ w'.cell? ⟨p, 1, none⟩ = some (.int .i64 (-3333)) ∧ w'.cell? ⟨p, 2, none⟩ = some (.string ⟨#[]⟩) ∧ Below W.heap.size W w') := fun w' h =>
    ⟨(h.cell (p := ⟨p, 0, none⟩) hpl.out).trans hc0, (h.cell (p := ⟨p, 1, none⟩) hpl.out).trans hc1, (h.cell (p := ⟨p, 2, none⟩) hpl.out).trans hc2, h⟩
  have hmk := Lib.hid mkS
  clear mkS
  go_region_held3 (fun w' => w'.cell? ⟨p, 0, none⟩ = some (.int .i64 3) ∧ w'.cell? ⟨p, 1, none⟩ = some (.int .i64 (-3333)) ∧ w'.cell? ⟨p, 2, none⟩ = some (.string ⟨#[]⟩) ∧ Below W.heap.size W w') ((refine hmk.out _ ?_; exact by (repeat' (first | exact Below.refl _ _ | refine bl_set ?_ (by first | (simp; done) | (simp; omega)) _ | (with_reducible assumption) | refine bl_alloc ?_ _ | refine bl_drewN ?_ _ | refine bl_drew ?_ | refine blw ?_ (by with_reducible assumption)))))
    (first | (go_at_call 31; refine (dec_any _ _).mono ?_; rintro e w2 ⟨rfl, hw2⟩) | (go_at_call 22; refine (code_hit b 31 2 _ ?_ ?_).mono ?_; exact hLW.out.below (by assumption : _ ∧ _ ∧ _ ∧ Below W.heap.size W _).2.2.2; exact hFW'.out.below (by assumption : _ ∧ _ ∧ _ ∧ Below W.heap.size W _).2.2.2; rintro e w2 ⟨rfl, hw2⟩) | (go_at_call 18; refine (at_hit b 31 2 _ ?_ ?_).mono ?_; exact hLW.out.below (by assumption : _ ∧ _ ∧ _ ∧ Below W.heap.size W _).2.2.2; exact hFW'.out.below (by assumption : _ ∧ _ ∧ _ ∧ Below W.heap.size W _).2.2.2; rintro e w2 ⟨rfl, hw2⟩))
  go_wp2
  (apply hR.out; clear hR; go_tidy)
  exact ⟨rfl, by (repeat' (first | exact Below.refl _ _ | refine bl_set ?_ (by first | (simp; done) | (simp; omega)) _ | (with_reducible assumption) | refine bl_alloc ?_ _ | refine bl_drewN ?_ _ | refine bl_drew ?_ | refine blw ?_ (by with_reducible assumption)))⟩
end Go.Proofs.YtdlmcgflgdmjgaaDoor
