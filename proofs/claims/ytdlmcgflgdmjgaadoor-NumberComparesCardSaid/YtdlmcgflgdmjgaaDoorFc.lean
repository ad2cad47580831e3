/- The first code and the first place of a fault that is nothing, or that lies over nothing: package fault's Code, At. -/
import Derived.Test.YtdlmcgflgdmjgaaDoorAs
set_option linter.unusedVariables false
set_option linter.unusedSimpArgs false
namespace Go.Proofs.YtdlmcgflgdmjgaaDoor
open Go.RowKit

/-- The library's one variable on the road: the handle of the type 'error'. -/
def Laid (w : World) : Prop := w.cell? ⟨0, 0, none⟩ = some (.iface 144 (.agg #[.pointer (some ⟨3, 29, none⟩)]))
theorem Laid.pos {w : World} (h : Laid w) : 0 < w.heap.size := by
  unfold Laid at h
  rcases Nat.eq_zero_or_pos w.heap.size with h0 | h1
  · simp [World.cell?, h0] at h
  · exact h1
theorem Laid.below {w w' : World} (h : Laid w) (hb : Below w.heap.size w w') : Laid w' := (hb.cell (p := ⟨0, 0, none⟩) h.pos).trans h

theorem first_nil (w : World) : Calls Tryd.prog 43 #[.nilIface] w fun e w' => e = .returned (.pointer none) ∧ Below w.heap.size w w' := by
  refine calls_hide ?_; intro R hR; go_enter Tryd.func43, Tryd.ntmps43
  go_wp2_with (go_at_call 62; refine (as_nil _ _).mono ?_; rintro e w' ⟨rfl, rfl⟩)
  (apply hR.out; clear hR; go_tidy)
  exact ⟨rfl, by (repeat' (first | exact Below.refl _ _ | (with_reducible assumption) | refine bl_alloc ?_ _ | refine bl_drewN ?_ _ | refine bl_drew ?_ | refine blw ?_ (by with_reducible assumption)))⟩
set_option maxHeartbeats 1000000 in
theorem first_hit (b : Nat) (w : World) (hl : Laid w) : Calls Tryd.prog 43 #[errV b] w fun e w' => e = .returned (.pointer (some ⟨b, 0, none⟩)) ∧ Below w.heap.size w w' := by
  have hl2 : (w.alloc (.cells #[.pointer none] 85)).cell? ⟨0, 0, none⟩ = some (.iface 144 (.agg #[.pointer (some ⟨3, 29, none⟩)])) := hl.below (below_box _ _)
  have ht0 : (w.alloc (.cells #[.pointer none] 85)).cell? ⟨w.heap.size, 0, none⟩ = some (.pointer none) := by simp
  have hf0 : (w.alloc (.cells #[.pointer none] 85)).frozen? ⟨w.heap.size, 0, none⟩ = false := by simp
  refine calls_hide ?_; intro R hR; go_enter Tryd.func43, Tryd.ntmps43
  go_wp2_with (go_at_call 62; refine (as_hit ⟨b, 0, none⟩ ⟨w.heap.size, 0, none⟩ (.pointer none) _ hl2 ht0 hf0).mono ?_; rintro e w' ⟨rfl, rfl⟩)
  (apply hR.out; clear hR; go_tidy)
  exact ⟨rfl, by
    repeat' (first | exact Below.refl _ _ | refine bl_alloc ?_ _ | (refine bl_set ?_ (Nat.le_refl _) _))⟩
theorem code_nil (w : World) : Calls Tryd.prog 22 #[.nilIface] w fun e w' => e = .returned (.int .i64 0) ∧ Below w.heap.size w w' := by
  refine calls_hide ?_; intro R hR; go_enter Tryd.func22, Tryd.ntmps22
  go_wp2_with (go_at_call 43; refine (first_nil _).mono ?_; rintro e w1 ⟨rfl, hb1⟩)
  (apply hR.out; clear hR; go_tidy)
  exact ⟨rfl, by (repeat' (first | exact Below.refl _ _ | (with_reducible assumption) | refine bl_alloc ?_ _ | refine bl_drewN ?_ _ | refine bl_drew ?_ | refine blw ?_ (by with_reducible assumption)))⟩
theorem at_nil (w : World) : Calls Tryd.prog 18 #[.nilIface] w fun e w' => e = .returned (.int .i64 (-1)) ∧ Below w.heap.size w w' := by
  refine calls_hide ?_; intro R hR; go_enter Tryd.func18, Tryd.ntmps18
  go_wp2_with (go_at_call 43; refine (first_nil _).mono ?_; rintro e w1 ⟨rfl, hb1⟩)
  (apply hR.out; clear hR; go_tidy)
  exact ⟨rfl, by (repeat' (first | exact Below.refl _ _ | (with_reducible assumption) | refine bl_alloc ?_ _ | refine bl_drewN ?_ _ | refine bl_drew ?_ | refine blw ?_ (by with_reducible assumption)))⟩
theorem code_hit (b : Nat) (c a : Int) (w : World) (hl : Laid w) (hf : FaultAt w b c a) : Calls Tryd.prog 22 #[errV b] w fun e w' => e = .returned (.int .i64 c) ∧ Below w.heap.size w w' := by
  have HF := Lib.hid hf
  clear hf
  refine calls_hide ?_; intro R hR; go_enter Tryd.func22, Tryd.ntmps22
  go_wp2_with (go_at_call 43; refine (first_hit _ _ hl).mono ?_; rintro e w1 ⟨rfl, hb1⟩; have hc0 : w1.cell? ⟨b, 0, none⟩ = some (.int .i64 c) := (cell_of_row w1 b 0 _ _ _ (HF.out.below hb1)).trans rfl)
  (apply hR.out; clear hR; go_tidy)
  exact ⟨rfl, by (repeat' (first | exact Below.refl _ _ | (with_reducible assumption) | refine bl_alloc ?_ _ | refine bl_drewN ?_ _ | refine bl_drew ?_ | refine blw ?_ (by with_reducible assumption)))⟩
theorem at_hit (b : Nat) (c a : Int) (w : World) (hl : Laid w) (hf : FaultAt w b c a) : Calls Tryd.prog 18 #[errV b] w fun e w' => e = .returned (.int .i64 a) ∧ Below w.heap.size w w' := by
  have HF := Lib.hid hf
  clear hf
  refine calls_hide ?_; intro R hR; go_enter Tryd.func18, Tryd.ntmps18
  go_wp2_with (go_at_call 43; refine (first_hit _ _ hl).mono ?_; rintro e w1 ⟨rfl, hb1⟩; have hc0 : w1.cell? ⟨b, 1, none⟩ = some (.int .i64 a) := (cell_of_row w1 b 1 _ _ _ (HF.out.below hb1)).trans rfl)
  (apply hR.out; clear hR; go_tidy)
  exact ⟨rfl, by (repeat' (first | exact Below.refl _ _ | (with_reducible assumption) | refine bl_alloc ?_ _ | refine bl_drewN ?_ _ | refine bl_drew ?_ | refine blw ?_ (by with_reducible assumption)))⟩
end Go.Proofs.YtdlmcgflgdmjgaaDoor
