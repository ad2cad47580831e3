/- NumberNull: its walk. -/
import Derived.Test.YtdlmcgflgdmjgaaDoorN8
import Derived.Test.YtdlmcgflgdmjgaaDoorBx
set_option linter.unusedVariables false
set_option linter.unusedSimpArgs false
namespace Go.Proofs.YtdlmcgflgdmjgaaDoor
open Go.RowKit

theorem num0 : Num 0 0 := .inl ⟨rfl, rfl⟩
/-- With nothing on a side: nothing; where the op is none: a fault. -/
theorem reckon_zok (op k n l m : Int) (h0 : 3 ≤ op) (h1 : op ≤ 6) (ha : Num k n) (hb : Num l m) (hz : k = 0 ∨ l = 0) (w : World) : Calls Tryd.prog 29 #[.int .i64 op, valV k n, valV l m] w fun e w' => e = .returned (.tuple #[valV 0 0, .nilIface]) ∧ Below w.heap.size w w' := by
  refine (reckon_num op k n l m ha hb w).mono fun e w' ⟨h, hw⟩ => ⟨?_, hw⟩
  unfold reckM at h
  rw [if_neg (by omega), if_pos hz] at h
  exact h
theorem reckon_zbad (op k n l m : Int) (h0 : op < 3 ∨ 6 < op) (ha : Num k n) (hb : Num l m) (w : World) : Calls Tryd.prog 29 #[.int .i64 op, valV k n, valV l m] w fun e w' => (∃ c, e = .returned (.tuple #[valV 0 0, errV c])) ∧ Below w.heap.size w w' := by
  refine (reckon_num op k n l m ha hb w).mono fun e w' ⟨h, hw⟩ => ⟨?_, hw⟩
  unfold reckM at h
  rw [if_pos h0] at h
  obtain ⟨c, he, _⟩ := h
  exact ⟨c, he⟩
theorem compare_zok (op k n l m : Int) (h0 : 8 ≤ op) (h1 : op ≤ 13) (ha : Num k n) (hb : Num l m) (hz : k = 0 ∨ l = 0) (w : World) : Calls Tryd.prog 34 #[.int .i64 op, valV k n, valV l m] w fun e w' => e = .returned (.tuple #[valV 0 0, .nilIface]) ∧ Below w.heap.size w w' := by
  refine (compare_num op k n l m ha hb w).mono fun e w' ⟨h, hw⟩ => ⟨?_, hw⟩
  unfold cmpM at h
  rw [if_neg (by omega), if_pos hz] at h
  exact h
theorem compare_zbad (op k n l m : Int) (h0 : op < 8 ∨ 13 < op) (ha : Num k n) (hb : Num l m) (w : World) : Calls Tryd.prog 34 #[.int .i64 op, valV k n, valV l m] w fun e w' => (∃ c, e = .returned (.tuple #[valV 0 0, errV c])) ∧ Below w.heap.size w w' := by
  refine (compare_num op k n l m ha hb w).mono fun e w' ⟨h, hw⟩ => ⟨?_, hw⟩
  unfold cmpM at h
  rw [if_pos h0] at h
  obtain ⟨c, he, _⟩ := h
  exact ⟨c, he⟩
set_option maxHeartbeats 4000000 in
set_option maxRecDepth 100000 in
theorem null_Aw (n op : Int) (o0 : 3 ≤ op) (o1 : op ≤ 6) (n0 : -9223372036854775808 ≤ n) (n1 : n ≤ 9223372036854775807) (w : World) (hl : Laid w) :
    Calls Tryd.prog 12 #[.int .i64 n, .bool false, .int .i64 op] w fun e w' => e = .returned (.bool true) ∧ Below w.heap.size w w' := by
  have HLd := Lib.hid hl
  clear hl
  refine calls_hide ?_; intro R hR; go_enter Tryd.func12, Tryd.ntmps12
  go_wp2_with fail
  refine (whole_any _ _).mono ?_; rintro e w1 ⟨rfl, hw1⟩
  go_upto_region 4 with (fail)
  have b7 := Bx.new w1 #[.int .i64 2, .int .i64 n, .string ⟨#[]⟩] 51
  have hBW := bl_alloc hw1 (.cells #[.int .i64 2, .int .i64 n, .string ⟨#[]⟩] 51)
  generalize hW : w1.alloc (.cells #[.int .i64 2, .int .i64 n, .string ⟨#[]⟩] 51) = W at b7 hBW ⊢
  clear hW
  generalize w1.heap.size = A at b7 ⊢
  have b7 : Bx W A #[.int .i64 2, .int .i64 n, .string ⟨#[]⟩] := b7
  have HLW := Lib.hid (HLd.out.below hBW)
  have HN : Hid (Num 2 n) := Lib.hid (num2 n0 n1)
  have cb7 := b7.cell; have fb7 := b7.free; have lb7 := b7.lt
  go_wp2_with fail
  refine (reckon_zok _ _ _ _ _ (by omega) (by omega) HN.out num0 (.inr rfl) _).mono ?_; rintro e x2 ⟨rfl, hx2⟩
  have b7 := (b7.alloc _).below hx2
  have b8 := (Bx.new _ _ _).below hx2
  clear cb7 fb7 lb7
  have cb7 := b7.cell; have fb7 := b7.free; have lb7 := b7.lt
  have cb8 := b8.cell; have fb8 := b8.free; have lb8 := b8.lt
  go_wp2_with fail
  refine (reckon_zok _ _ _ _ _ (by omega) (by omega) num0 HN.out (.inl rfl) _).mono ?_; rintro e x3 ⟨rfl, hx3⟩
  have b7 := (b7.alloc _).below hx3
  have b8 := (b8.alloc _).below hx3
  have b9 := (Bx.new _ _ _).below hx3
  clear cb7 fb7 lb7 cb8 fb8 lb8
  have cb7 := b7.cell; have fb7 := b7.free; have lb7 := b7.lt
  have cb8 := b8.cell; have fb8 := b8.free; have lb8 := b8.lt
  have cb9 := b9.cell; have fb9 := b9.free; have lb9 := b9.lt
  go_wp2_with fail
  refine (compare_zbad _ _ _ _ _ (by omega) HN.out num0 _).mono ?_; rintro e x4 ⟨⟨e13, rfl⟩, hx4⟩
  have b7 := (b7.alloc _).below hx4
  have b8 := (b8.alloc _).below hx4
  have b9 := (b9.alloc _).below hx4
  have b11 := (Bx.new _ _ _).below hx4
  clear cb7 fb7 lb7 cb8 fb8 lb8 cb9 fb9 lb9
  have cb7 := b7.cell; have fb7 := b7.free; have lb7 := b7.lt
  have cb8 := b8.cell; have fb8 := b8.free; have lb8 := b8.lt
  have cb9 := b9.cell; have fb9 := b9.free; have lb9 := b9.lt
  have cb11 := b11.cell; have fb11 := b11.free; have lb11 := b11.lt
  go_wp2_with fail
  refine (compare_zbad _ _ _ _ _ (by omega) num0 HN.out _).mono ?_; rintro e x5 ⟨⟨e15, rfl⟩, hx5⟩
  have b7 := (b7.alloc _).below hx5
  have b8 := (b8.alloc _).below hx5
  have b9 := (b9.alloc _).below hx5
  have b11 := (b11.alloc _).below hx5
  have b13 := (Bx.new _ _ _).below hx5
  clear cb7 fb7 lb7 cb8 fb8 lb8 cb9 fb9 lb9 cb11 fb11 lb11
  have cb7 := b7.cell; have fb7 := b7.free; have lb7 := b7.lt
  have cb8 := b8.cell; have fb8 := b8.free; have lb8 := b8.lt
  have cb9 := b9.cell; have fb9 := b9.free; have lb9 := b9.lt
  have cb11 := b11.cell; have fb11 := b11.free; have lb11 := b11.lt
  have cb13 := b13.cell; have fb13 := b13.free; have lb13 := b13.lt
  go_wp2_with fail
  refine (alive_true _ (HLW.out.below (by (repeat' (first | exact Below.refl _ _ | refine bl_set ?_ (by first | (simp; done) | (simp; omega)) _ | (with_reducible assumption) | refine bl_alloc ?_ _ | refine bl_drewN ?_ _ | refine bl_drew ?_ | refine bl ?_ (by with_reducible assumption)))))).mono ?_; rintro e x6 ⟨rfl, hx6⟩
  have b7 := (b7.alloc _).below hx6
  have b8 := (b8.alloc _).below hx6
  have b9 := (b9.alloc _).below hx6
  have b11 := (b11.alloc _).below hx6
  have b13 := (b13.alloc _).below hx6
  have b15 := (Bx.new _ _ _).below hx6
  clear cb7 fb7 lb7 cb8 fb8 lb8 cb9 fb9 lb9 cb11 fb11 lb11 cb13 fb13 lb13
  have cb7 := b7.cell; have lb7 := b7.lt
  have cb8 := b8.cell; have lb8 := b8.lt
  have cb9 := b9.cell; have lb9 := b9.lt
  have cb11 := b11.cell; have lb11 := b11.lt
  have cb13 := b13.cell; have lb13 := b13.lt
  have cb15 := b15.cell; have lb15 := b15.lt
  go_wp2
  (apply hR.out; clear hR; go_tidy)
  exact ⟨by first | rfl | (simp; done) | (simp; omega), bl hBW (by (repeat' (first | exact Below.refl _ _ | refine bl_set ?_ (by first | (simp; done) | (simp; omega)) _ | (with_reducible assumption) | refine bl_alloc ?_ _ | refine bl_drewN ?_ _ | refine bl_drew ?_ | refine bl ?_ (by with_reducible assumption))))⟩
set_option maxHeartbeats 4000000 in
set_option maxRecDepth 100000 in
theorem null_Ad (n op : Int) (o0 : 3 ≤ op) (o1 : op ≤ 6) (n0 : -9223372036854775808 ≤ n) (n1 : n ≤ 9223372036854775807) (w : World) (hl : Laid w) :
    Calls Tryd.prog 12 #[.int .i64 n, .bool true, .int .i64 op] w fun e w' => e = .returned (.bool true) ∧ Below w.heap.size w w' := by
  have HLd := Lib.hid hl
  clear hl
  refine calls_hide ?_; intro R hR; go_enter Tryd.func12, Tryd.ntmps12
  go_wp2_with fail
  refine (whole_any _ _).mono ?_; rintro e w1 ⟨rfl, hw1⟩
  go_wp2_with fail
  refine (dec_any _ _).mono ?_; rintro e w2 ⟨rfl, hw2⟩
  have b7 := (Bx.new _ _ _).below hw2
  have cb7 := b7.cell; have fb7 := b7.free; have lb7 := b7.lt
  go_upto_region 4 with (fail)
  have b7 := ((b7.set 0 (by simp) (.int .i64 3)).set 1 (by simp) (.int .i64 n)).set 2 (by simp) (.string ⟨#[]⟩)
  clear cb7 fb7 lb7
  have hBW := bl_set (bl_set (bl_set (bl (bl_alloc hw1 _) hw2) (p := ⟨w1.heap.size, 0, none⟩) hw1.size (.int .i64 3)) (p := ⟨w1.heap.size, 1, none⟩) hw1.size (.int .i64 n)) (p := ⟨w1.heap.size, 2, none⟩) hw1.size (.string ⟨#[]⟩)
  generalize hW : (((w2.setCell ⟨w1.heap.size, 0, none⟩ (.int .i64 3)).setCell ⟨w1.heap.size, 1, none⟩ (.int .i64 n)).setCell ⟨w1.heap.size, 2, none⟩ (.string ⟨#[]⟩)) = W at b7 hBW ⊢
  clear hW
  generalize w1.heap.size = A at b7 ⊢
  have b7 : Bx W A #[.int .i64 3, .int .i64 n, .string ⟨#[]⟩] := b7
  have HLW := Lib.hid (HLd.out.below hBW)
  have HN : Hid (Num 3 n) := Lib.hid (num3 n0 n1)
  have cb7 := b7.cell; have fb7 := b7.free; have lb7 := b7.lt
  go_wp2_with fail
  refine (reckon_zok _ _ _ _ _ (by omega) (by omega) HN.out num0 (.inr rfl) _).mono ?_; rintro e x2 ⟨rfl, hx2⟩
  have b7 := (b7.alloc _).below hx2
  have b8 := (Bx.new _ _ _).below hx2
  clear cb7 fb7 lb7
  have cb7 := b7.cell; have fb7 := b7.free; have lb7 := b7.lt
  have cb8 := b8.cell; have fb8 := b8.free; have lb8 := b8.lt
  go_wp2_with fail
  refine (reckon_zok _ _ _ _ _ (by omega) (by omega) num0 HN.out (.inl rfl) _).mono ?_; rintro e x3 ⟨rfl, hx3⟩
  have b7 := (b7.alloc _).below hx3
  have b8 := (b8.alloc _).below hx3
  have b9 := (Bx.new _ _ _).below hx3
  clear cb7 fb7 lb7 cb8 fb8 lb8
  have cb7 := b7.cell; have fb7 := b7.free; have lb7 := b7.lt
  have cb8 := b8.cell; have fb8 := b8.free; have lb8 := b8.lt
  have cb9 := b9.cell; have fb9 := b9.free; have lb9 := b9.lt
  go_wp2_with fail
  refine (compare_zbad _ _ _ _ _ (by omega) HN.out num0 _).mono ?_; rintro e x4 ⟨⟨e13, rfl⟩, hx4⟩
  have b7 := (b7.alloc _).below hx4
  have b8 := (b8.alloc _).below hx4
  have b9 := (b9.alloc _).below hx4
  have b11 := (Bx.new _ _ _).below hx4
  clear cb7 fb7 lb7 cb8 fb8 lb8 cb9 fb9 lb9
  have cb7 := b7.cell; have fb7 := b7.free; have lb7 := b7.lt
  have cb8 := b8.cell; have fb8 := b8.free; have lb8 := b8.lt
  have cb9 := b9.cell; have fb9 := b9.free; have lb9 := b9.lt
  have cb11 := b11.cell; have fb11 := b11.free; have lb11 := b11.lt
  go_wp2_with fail
  refine (compare_zbad _ _ _ _ _ (by omega) num0 HN.out _).mono ?_; rintro e x5 ⟨⟨e15, rfl⟩, hx5⟩
  have b7 := (b7.alloc _).below hx5
  have b8 := (b8.alloc _).below hx5
  have b9 := (b9.alloc _).below hx5
  have b11 := (b11.alloc _).below hx5
  have b13 := (Bx.new _ _ _).below hx5
  clear cb7 fb7 lb7 cb8 fb8 lb8 cb9 fb9 lb9 cb11 fb11 lb11
  have cb7 := b7.cell; have fb7 := b7.free; have lb7 := b7.lt
  have cb8 := b8.cell; have fb8 := b8.free; have lb8 := b8.lt
  have cb9 := b9.cell; have fb9 := b9.free; have lb9 := b9.lt
  have cb11 := b11.cell; have fb11 := b11.free; have lb11 := b11.lt
  have cb13 := b13.cell; have fb13 := b13.free; have lb13 := b13.lt
  go_wp2_with fail
  refine (alive_true _ (HLW.out.below (by (repeat' (first | exact Below.refl _ _ | refine bl_set ?_ (by first | (simp; done) | (simp; omega)) _ | (with_reducible assumption) | refine bl_alloc ?_ _ | refine bl_drewN ?_ _ | refine bl_drew ?_ | refine bl ?_ (by with_reducible assumption)))))).mono ?_; rintro e x6 ⟨rfl, hx6⟩
  have b7 := (b7.alloc _).below hx6
  have b8 := (b8.alloc _).below hx6
  have b9 := (b9.alloc _).below hx6
  have b11 := (b11.alloc _).below hx6
  have b13 := (b13.alloc _).below hx6
  have b15 := (Bx.new _ _ _).below hx6
  clear cb7 fb7 lb7 cb8 fb8 lb8 cb9 fb9 lb9 cb11 fb11 lb11 cb13 fb13 lb13
  have cb7 := b7.cell; have lb7 := b7.lt
  have cb8 := b8.cell; have lb8 := b8.lt
  have cb9 := b9.cell; have lb9 := b9.lt
  have cb11 := b11.cell; have lb11 := b11.lt
  have cb13 := b13.cell; have lb13 := b13.lt
  have cb15 := b15.cell; have lb15 := b15.lt
  go_wp2
  (apply hR.out; clear hR; go_tidy)
  exact ⟨by first | rfl | (simp; done) | (simp; omega), bl hBW (by (repeat' (first | exact Below.refl _ _ | refine bl_set ?_ (by first | (simp; done) | (simp; omega)) _ | (with_reducible assumption) | refine bl_alloc ?_ _ | refine bl_drewN ?_ _ | refine bl_drew ?_ | refine bl ?_ (by with_reducible assumption))))⟩
set_option maxHeartbeats 4000000 in
set_option maxRecDepth 100000 in
theorem null_Bw (n op : Int) (o0 : 8 ≤ op) (o1 : op ≤ 13) (n0 : -9223372036854775808 ≤ n) (n1 : n ≤ 9223372036854775807) (w : World) (hl : Laid w) :
    Calls Tryd.prog 12 #[.int .i64 n, .bool false, .int .i64 op] w fun e w' => e = .returned (.bool true) ∧ Below w.heap.size w w' := by
  have HLd := Lib.hid hl
  clear hl
  refine calls_hide ?_; intro R hR; go_enter Tryd.func12, Tryd.ntmps12
  go_wp2_with fail
  refine (whole_any _ _).mono ?_; rintro e w1 ⟨rfl, hw1⟩
  go_upto_region 4 with (fail)
  have b7 := Bx.new w1 #[.int .i64 2, .int .i64 n, .string ⟨#[]⟩] 51
  have hBW := bl_alloc hw1 (.cells #[.int .i64 2, .int .i64 n, .string ⟨#[]⟩] 51)
  generalize hW : w1.alloc (.cells #[.int .i64 2, .int .i64 n, .string ⟨#[]⟩] 51) = W at b7 hBW ⊢
  clear hW
  generalize w1.heap.size = A at b7 ⊢
  have b7 : Bx W A #[.int .i64 2, .int .i64 n, .string ⟨#[]⟩] := b7
  have HLW := Lib.hid (HLd.out.below hBW)
  have HN : Hid (Num 2 n) := Lib.hid (num2 n0 n1)
  have cb7 := b7.cell; have fb7 := b7.free; have lb7 := b7.lt
  go_wp2_with fail
  refine (reckon_zbad _ _ _ _ _ (by omega) HN.out num0 _).mono ?_; rintro e x2 ⟨⟨e9, rfl⟩, hx2⟩
  have b7 := (b7.alloc _).below hx2
  have b8 := (Bx.new _ _ _).below hx2
  clear cb7 fb7 lb7
  have cb7 := b7.cell; have fb7 := b7.free; have lb7 := b7.lt
  have cb8 := b8.cell; have fb8 := b8.free; have lb8 := b8.lt
  go_wp2_with fail
  refine (reckon_zbad _ _ _ _ _ (by omega) num0 HN.out _).mono ?_; rintro e x3 ⟨⟨e11, rfl⟩, hx3⟩
  have b7 := (b7.alloc _).below hx3
  have b8 := (b8.alloc _).below hx3
  have b9 := (Bx.new _ _ _).below hx3
  clear cb7 fb7 lb7 cb8 fb8 lb8
  have cb7 := b7.cell; have fb7 := b7.free; have lb7 := b7.lt
  have cb8 := b8.cell; have fb8 := b8.free; have lb8 := b8.lt
  have cb9 := b9.cell; have fb9 := b9.free; have lb9 := b9.lt
  go_wp2_with fail
  refine (compare_zok _ _ _ _ _ (by omega) (by omega) HN.out num0 (.inr rfl) _).mono ?_; rintro e x4 ⟨rfl, hx4⟩
  have b7 := (b7.alloc _).below hx4
  have b8 := (b8.alloc _).below hx4
  have b9 := (b9.alloc _).below hx4
  have b11 := (Bx.new _ _ _).below hx4
  clear cb7 fb7 lb7 cb8 fb8 lb8 cb9 fb9 lb9
  have cb7 := b7.cell; have fb7 := b7.free; have lb7 := b7.lt
  have cb8 := b8.cell; have fb8 := b8.free; have lb8 := b8.lt
  have cb9 := b9.cell; have fb9 := b9.free; have lb9 := b9.lt
  have cb11 := b11.cell; have fb11 := b11.free; have lb11 := b11.lt
  go_wp2_with fail
  refine (compare_zok _ _ _ _ _ (by omega) (by omega) num0 HN.out (.inl rfl) _).mono ?_; rintro e x5 ⟨rfl, hx5⟩
  have b7 := (b7.alloc _).below hx5
  have b8 := (b8.alloc _).below hx5
  have b9 := (b9.alloc _).below hx5
  have b11 := (b11.alloc _).below hx5
  have b13 := (Bx.new _ _ _).below hx5
  clear cb7 fb7 lb7 cb8 fb8 lb8 cb9 fb9 lb9 cb11 fb11 lb11
  have cb7 := b7.cell; have fb7 := b7.free; have lb7 := b7.lt
  have cb8 := b8.cell; have fb8 := b8.free; have lb8 := b8.lt
  have cb9 := b9.cell; have fb9 := b9.free; have lb9 := b9.lt
  have cb11 := b11.cell; have fb11 := b11.free; have lb11 := b11.lt
  have cb13 := b13.cell; have fb13 := b13.free; have lb13 := b13.lt
  go_wp2_with fail
  refine (alive_true _ (HLW.out.below (by (repeat' (first | exact Below.refl _ _ | refine bl_set ?_ (by first | (simp; done) | (simp; omega)) _ | (with_reducible assumption) | refine bl_alloc ?_ _ | refine bl_drewN ?_ _ | refine bl_drew ?_ | refine bl ?_ (by with_reducible assumption)))))).mono ?_; rintro e x6 ⟨rfl, hx6⟩
  have b7 := (b7.alloc _).below hx6
  have b8 := (b8.alloc _).below hx6
  have b9 := (b9.alloc _).below hx6
  have b11 := (b11.alloc _).below hx6
  have b13 := (b13.alloc _).below hx6
  have b15 := (Bx.new _ _ _).below hx6
  clear cb7 fb7 lb7 cb8 fb8 lb8 cb9 fb9 lb9 cb11 fb11 lb11 cb13 fb13 lb13
  have cb7 := b7.cell; have lb7 := b7.lt
  have cb8 := b8.cell; have lb8 := b8.lt
  have cb9 := b9.cell; have lb9 := b9.lt
  have cb11 := b11.cell; have lb11 := b11.lt
  have cb13 := b13.cell; have lb13 := b13.lt
  have cb15 := b15.cell; have lb15 := b15.lt
  go_wp2
  (apply hR.out; clear hR; go_tidy)
  exact ⟨by first | rfl | (simp; done) | (simp; omega), bl hBW (by (repeat' (first | exact Below.refl _ _ | refine bl_set ?_ (by first | (simp; done) | (simp; omega)) _ | (with_reducible assumption) | refine bl_alloc ?_ _ | refine bl_drewN ?_ _ | refine bl_drew ?_ | refine bl ?_ (by with_reducible assumption))))⟩
set_option maxHeartbeats 4000000 in
set_option maxRecDepth 100000 in
theorem null_Bd (n op : Int) (o0 : 8 ≤ op) (o1 : op ≤ 13) (n0 : -9223372036854775808 ≤ n) (n1 : n ≤ 9223372036854775807) (w : World) (hl : Laid w) :
    Calls Tryd.prog 12 #[.int .i64 n, .bool true, .int .i64 op] w fun e w' => e = .returned (.bool true) ∧ Below w.heap.size w w' := by
  have HLd := Lib.hid hl
  clear hl
  refine calls_hide ?_; intro R hR; go_enter Tryd.func12, Tryd.ntmps12
  go_wp2_with fail
  refine (whole_any _ _).mono ?_; rintro e w1 ⟨rfl, hw1⟩
  go_wp2_with fail
  refine (dec_any _ _).mono ?_; rintro e w2 ⟨rfl, hw2⟩
  have b7 := (Bx.new _ _ _).below hw2
  have cb7 := b7.cell; have fb7 := b7.free; have lb7 := b7.lt
  go_upto_region 4 with (fail)
  have b7 := ((b7.set 0 (by simp) (.int .i64 3)).set 1 (by simp) (.int .i64 n)).set 2 (by simp) (.string ⟨#[]⟩)
  clear cb7 fb7 lb7
  have hBW := bl_set (bl_set (bl_set (bl (bl_alloc hw1 _) hw2) (p := ⟨w1.heap.size, 0, none⟩) hw1.size (.int .i64 3)) (p := ⟨w1.heap.size, 1, none⟩) hw1.size (.int .i64 n)) (p := ⟨w1.heap.size, 2, none⟩) hw1.size (.string ⟨#[]⟩)
  generalize hW : (((w2.setCell ⟨w1.heap.size, 0, none⟩ (.int .i64 3)).setCell ⟨w1.heap.size, 1, none⟩ (.int .i64 n)).setCell ⟨w1.heap.size, 2, none⟩ (.string ⟨#[]⟩)) = W at b7 hBW ⊢
  clear hW
  generalize w1.heap.size = A at b7 ⊢
  have b7 : Bx W A #[.int .i64 3, .int .i64 n, .string ⟨#[]⟩] := b7
  have HLW := Lib.hid (HLd.out.below hBW)
  have HN : Hid (Num 3 n) := Lib.hid (num3 n0 n1)
  have cb7 := b7.cell; have fb7 := b7.free; have lb7 := b7.lt
  go_wp2_with fail
  refine (reckon_zbad _ _ _ _ _ (by omega) HN.out num0 _).mono ?_; rintro e x2 ⟨⟨e9, rfl⟩, hx2⟩
  have b7 := (b7.alloc _).below hx2
  have b8 := (Bx.new _ _ _).below hx2
  clear cb7 fb7 lb7
  have cb7 := b7.cell; have fb7 := b7.free; have lb7 := b7.lt
  have cb8 := b8.cell; have fb8 := b8.free; have lb8 := b8.lt
  go_wp2_with fail
  refine (reckon_zbad _ _ _ _ _ (by omega) num0 HN.out _).mono ?_; rintro e x3 ⟨⟨e11, rfl⟩, hx3⟩
  have b7 := (b7.alloc _).below hx3
  have b8 := (b8.alloc _).below hx3
  have b9 := (Bx.new _ _ _).below hx3
  clear cb7 fb7 lb7 cb8 fb8 lb8
  have cb7 := b7.cell; have fb7 := b7.free; have lb7 := b7.lt
  have cb8 := b8.cell; have fb8 := b8.free; have lb8 := b8.lt
  have cb9 := b9.cell; have fb9 := b9.free; have lb9 := b9.lt
  go_wp2_with fail
  refine (compare_zok _ _ _ _ _ (by omega) (by omega) HN.out num0 (.inr rfl) _).mono ?_; rintro e x4 ⟨rfl, hx4⟩
  have b7 := (b7.alloc _).below hx4
  have b8 := (b8.alloc _).below hx4
  have b9 := (b9.alloc _).below hx4
  have b11 := (Bx.new _ _ _).below hx4
  clear cb7 fb7 lb7 cb8 fb8 lb8 cb9 fb9 lb9
  have cb7 := b7.cell; have fb7 := b7.free; have lb7 := b7.lt
  have cb8 := b8.cell; have fb8 := b8.free; have lb8 := b8.lt
  have cb9 := b9.cell; have fb9 := b9.free; have lb9 := b9.lt
  have cb11 := b11.cell; have fb11 := b11.free; have lb11 := b11.lt
  go_wp2_with fail
  refine (compare_zok _ _ _ _ _ (by omega) (by omega) num0 HN.out (.inl rfl) _).mono ?_; rintro e x5 ⟨rfl, hx5⟩
  have b7 := (b7.alloc _).below hx5
  have b8 := (b8.alloc _).below hx5
  have b9 := (b9.alloc _).below hx5
  have b11 := (b11.alloc _).below hx5
  have b13 := (Bx.new _ _ _).below hx5
  clear cb7 fb7 lb7 cb8 fb8 lb8 cb9 fb9 lb9 cb11 fb11 lb11
  have cb7 := b7.cell; have fb7 := b7.free; have lb7 := b7.lt
  have cb8 := b8.cell; have fb8 := b8.free; have lb8 := b8.lt
  have cb9 := b9.cell; have fb9 := b9.free; have lb9 := b9.lt
  have cb11 := b11.cell; have fb11 := b11.free; have lb11 := b11.lt
  have cb13 := b13.cell; have fb13 := b13.free; have lb13 := b13.lt
  go_wp2_with fail
  refine (alive_true _ (HLW.out.below (by (repeat' (first | exact Below.refl _ _ | refine bl_set ?_ (by first | (simp; done) | (simp; omega)) _ | (with_reducible assumption) | refine bl_alloc ?_ _ | refine bl_drewN ?_ _ | refine bl_drew ?_ | refine bl ?_ (by with_reducible assumption)))))).mono ?_; rintro e x6 ⟨rfl, hx6⟩
  have b7 := (b7.alloc _).below hx6
  have b8 := (b8.alloc _).below hx6
  have b9 := (b9.alloc _).below hx6
  have b11 := (b11.alloc _).below hx6
  have b13 := (b13.alloc _).below hx6
  have b15 := (Bx.new _ _ _).below hx6
  clear cb7 fb7 lb7 cb8 fb8 lb8 cb9 fb9 lb9 cb11 fb11 lb11 cb13 fb13 lb13
  have cb7 := b7.cell; have lb7 := b7.lt
  have cb8 := b8.cell; have lb8 := b8.lt
  have cb9 := b9.cell; have lb9 := b9.lt
  have cb11 := b11.cell; have lb11 := b11.lt
  have cb13 := b13.cell; have lb13 := b13.lt
  have cb15 := b15.cell; have lb15 := b15.lt
  go_wp2
  (apply hR.out; clear hR; go_tidy)
  exact ⟨by first | rfl | (simp; done) | (simp; omega), bl hBW (by (repeat' (first | exact Below.refl _ _ | refine bl_set ?_ (by first | (simp; done) | (simp; omega)) _ | (with_reducible assumption) | refine bl_alloc ?_ _ | refine bl_drewN ?_ _ | refine bl_drew ?_ | refine bl ?_ (by with_reducible assumption))))⟩
set_option maxHeartbeats 4000000 in
set_option maxRecDepth 100000 in
theorem null_Cw (n op : Int) (o0 : op < 3) (n0 : -9223372036854775808 ≤ n) (n1 : n ≤ 9223372036854775807) (w : World) (hl : Laid w) :
    Calls Tryd.prog 12 #[.int .i64 n, .bool false, .int .i64 op] w fun e w' => e = .returned (.bool true) ∧ Below w.heap.size w w' := by
  have HLd := Lib.hid hl
  clear hl
  refine calls_hide ?_; intro R hR; go_enter Tryd.func12, Tryd.ntmps12
  go_wp2_with fail
  refine (whole_any _ _).mono ?_; rintro e w1 ⟨rfl, hw1⟩
  go_upto_region 4 with (fail)
  have b7 := Bx.new w1 #[.int .i64 2, .int .i64 n, .string ⟨#[]⟩] 51
  have hBW := bl_alloc hw1 (.cells #[.int .i64 2, .int .i64 n, .string ⟨#[]⟩] 51)
  generalize hW : w1.alloc (.cells #[.int .i64 2, .int .i64 n, .string ⟨#[]⟩] 51) = W at b7 hBW ⊢
  clear hW
  generalize w1.heap.size = A at b7 ⊢
  have b7 : Bx W A #[.int .i64 2, .int .i64 n, .string ⟨#[]⟩] := b7
  have HLW := Lib.hid (HLd.out.below hBW)
  have HN : Hid (Num 2 n) := Lib.hid (num2 n0 n1)
  have cb7 := b7.cell; have fb7 := b7.free; have lb7 := b7.lt
  go_wp2_with fail
  refine (reckon_zbad _ _ _ _ _ (by omega) HN.out num0 _).mono ?_; rintro e x2 ⟨⟨e9, rfl⟩, hx2⟩
  have b7 := (b7.alloc _).below hx2
  have b8 := (Bx.new _ _ _).below hx2
  clear cb7 fb7 lb7
  have cb7 := b7.cell; have fb7 := b7.free; have lb7 := b7.lt
  have cb8 := b8.cell; have fb8 := b8.free; have lb8 := b8.lt
  go_wp2_with fail
  refine (reckon_zbad _ _ _ _ _ (by omega) num0 HN.out _).mono ?_; rintro e x3 ⟨⟨e11, rfl⟩, hx3⟩
  have b7 := (b7.alloc _).below hx3
  have b8 := (b8.alloc _).below hx3
  have b9 := (Bx.new _ _ _).below hx3
  clear cb7 fb7 lb7 cb8 fb8 lb8
  have cb7 := b7.cell; have fb7 := b7.free; have lb7 := b7.lt
  have cb8 := b8.cell; have fb8 := b8.free; have lb8 := b8.lt
  have cb9 := b9.cell; have fb9 := b9.free; have lb9 := b9.lt
  go_wp2_with fail
  refine (compare_zbad _ _ _ _ _ (by omega) HN.out num0 _).mono ?_; rintro e x4 ⟨⟨e13, rfl⟩, hx4⟩
  have b7 := (b7.alloc _).below hx4
  have b8 := (b8.alloc _).below hx4
  have b9 := (b9.alloc _).below hx4
  have b11 := (Bx.new _ _ _).below hx4
  clear cb7 fb7 lb7 cb8 fb8 lb8 cb9 fb9 lb9
  have cb7 := b7.cell; have fb7 := b7.free; have lb7 := b7.lt
  have cb8 := b8.cell; have fb8 := b8.free; have lb8 := b8.lt
  have cb9 := b9.cell; have fb9 := b9.free; have lb9 := b9.lt
  have cb11 := b11.cell; have fb11 := b11.free; have lb11 := b11.lt
  go_wp2_with fail
  refine (compare_zbad _ _ _ _ _ (by omega) num0 HN.out _).mono ?_; rintro e x5 ⟨⟨e15, rfl⟩, hx5⟩
  have b7 := (b7.alloc _).below hx5
  have b8 := (b8.alloc _).below hx5
  have b9 := (b9.alloc _).below hx5
  have b11 := (b11.alloc _).below hx5
  have b13 := (Bx.new _ _ _).below hx5
  clear cb7 fb7 lb7 cb8 fb8 lb8 cb9 fb9 lb9 cb11 fb11 lb11
  have cb7 := b7.cell; have fb7 := b7.free; have lb7 := b7.lt
  have cb8 := b8.cell; have fb8 := b8.free; have lb8 := b8.lt
  have cb9 := b9.cell; have fb9 := b9.free; have lb9 := b9.lt
  have cb11 := b11.cell; have fb11 := b11.free; have lb11 := b11.lt
  have cb13 := b13.cell; have fb13 := b13.free; have lb13 := b13.lt
  go_wp2_with fail
  refine (alive_true _ (HLW.out.below (by (repeat' (first | exact Below.refl _ _ | refine bl_set ?_ (by first | (simp; done) | (simp; omega)) _ | (with_reducible assumption) | refine bl_alloc ?_ _ | refine bl_drewN ?_ _ | refine bl_drew ?_ | refine bl ?_ (by with_reducible assumption)))))).mono ?_; rintro e x6 ⟨rfl, hx6⟩
  have b7 := (b7.alloc _).below hx6
  have b8 := (b8.alloc _).below hx6
  have b9 := (b9.alloc _).below hx6
  have b11 := (b11.alloc _).below hx6
  have b13 := (b13.alloc _).below hx6
  have b15 := (Bx.new _ _ _).below hx6
  clear cb7 fb7 lb7 cb8 fb8 lb8 cb9 fb9 lb9 cb11 fb11 lb11 cb13 fb13 lb13
  have cb7 := b7.cell; have lb7 := b7.lt
  have cb8 := b8.cell; have lb8 := b8.lt
  have cb9 := b9.cell; have lb9 := b9.lt
  have cb11 := b11.cell; have lb11 := b11.lt
  have cb13 := b13.cell; have lb13 := b13.lt
  have cb15 := b15.cell; have lb15 := b15.lt
  go_wp2
  (apply hR.out; clear hR; go_tidy)
  exact ⟨by first | rfl | (simp; done) | (simp; omega), bl hBW (by (repeat' (first | exact Below.refl _ _ | refine bl_set ?_ (by first | (simp; done) | (simp; omega)) _ | (with_reducible assumption) | refine bl_alloc ?_ _ | refine bl_drewN ?_ _ | refine bl_drew ?_ | refine bl ?_ (by with_reducible assumption))))⟩
set_option maxHeartbeats 4000000 in
set_option maxRecDepth 100000 in
theorem null_Cd (n op : Int) (o0 : op < 3) (n0 : -9223372036854775808 ≤ n) (n1 : n ≤ 9223372036854775807) (w : World) (hl : Laid w) :
    Calls Tryd.prog 12 #[.int .i64 n, .bool true, .int .i64 op] w fun e w' => e = .returned (.bool true) ∧ Below w.heap.size w w' := by
  have HLd := Lib.hid hl
  clear hl
  refine calls_hide ?_; intro R hR; go_enter Tryd.func12, Tryd.ntmps12
  go_wp2_with fail
  refine (whole_any _ _).mono ?_; rintro e w1 ⟨rfl, hw1⟩
  go_wp2_with fail
  refine (dec_any _ _).mono ?_; rintro e w2 ⟨rfl, hw2⟩
  have b7 := (Bx.new _ _ _).below hw2
  have cb7 := b7.cell; have fb7 := b7.free; have lb7 := b7.lt
  go_upto_region 4 with (fail)
  have b7 := ((b7.set 0 (by simp) (.int .i64 3)).set 1 (by simp) (.int .i64 n)).set 2 (by simp) (.string ⟨#[]⟩)
  clear cb7 fb7 lb7
  have hBW := bl_set (bl_set (bl_set (bl (bl_alloc hw1 _) hw2) (p := ⟨w1.heap.size, 0, none⟩) hw1.size (.int .i64 3)) (p := ⟨w1.heap.size, 1, none⟩) hw1.size (.int .i64 n)) (p := ⟨w1.heap.size, 2, none⟩) hw1.size (.string ⟨#[]⟩)
  generalize hW : (((w2.setCell ⟨w1.heap.size, 0, none⟩ (.int .i64 3)).setCell ⟨w1.heap.size, 1, none⟩ (.int .i64 n)).setCell ⟨w1.heap.size, 2, none⟩ (.string ⟨#[]⟩)) = W at b7 hBW ⊢
  clear hW
  generalize w1.heap.size = A at b7 ⊢
  have b7 : Bx W A #[.int .i64 3, .int .i64 n, .string ⟨#[]⟩] := b7
  have HLW := Lib.hid (HLd.out.below hBW)
  have HN : Hid (Num 3 n) := Lib.hid (num3 n0 n1)
  have cb7 := b7.cell; have fb7 := b7.free; have lb7 := b7.lt
  go_wp2_with fail
  refine (reckon_zbad _ _ _ _ _ (by omega) HN.out num0 _).mono ?_; rintro e x2 ⟨⟨e9, rfl⟩, hx2⟩
  have b7 := (b7.alloc _).below hx2
  have b8 := (Bx.new _ _ _).below hx2
  clear cb7 fb7 lb7
  have cb7 := b7.cell; have fb7 := b7.free; have lb7 := b7.lt
  have cb8 := b8.cell; have fb8 := b8.free; have lb8 := b8.lt
  go_wp2_with fail
  refine (reckon_zbad _ _ _ _ _ (by omega) num0 HN.out _).mono ?_; rintro e x3 ⟨⟨e11, rfl⟩, hx3⟩
  have b7 := (b7.alloc _).below hx3
  have b8 := (b8.alloc _).below hx3
  have b9 := (Bx.new _ _ _).below hx3
  clear cb7 fb7 lb7 cb8 fb8 lb8
  have cb7 := b7.cell; have fb7 := b7.free; have lb7 := b7.lt
  have cb8 := b8.cell; have fb8 := b8.free; have lb8 := b8.lt
  have cb9 := b9.cell; have fb9 := b9.free; have lb9 := b9.lt
  go_wp2_with fail
  refine (compare_zbad _ _ _ _ _ (by omega) HN.out num0 _).mono ?_; rintro e x4 ⟨⟨e13, rfl⟩, hx4⟩
  have b7 := (b7.alloc _).below hx4
  have b8 := (b8.alloc _).below hx4
  have b9 := (b9.alloc _).below hx4
  have b11 := (Bx.new _ _ _).below hx4
  clear cb7 fb7 lb7 cb8 fb8 lb8 cb9 fb9 lb9
  have cb7 := b7.cell; have fb7 := b7.free; have lb7 := b7.lt
  have cb8 := b8.cell; have fb8 := b8.free; have lb8 := b8.lt
  have cb9 := b9.cell; have fb9 := b9.free; have lb9 := b9.lt
  have cb11 := b11.cell; have fb11 := b11.free; have lb11 := b11.lt
  go_wp2_with fail
  refine (compare_zbad _ _ _ _ _ (by omega) num0 HN.out _).mono ?_; rintro e x5 ⟨⟨e15, rfl⟩, hx5⟩
  have b7 := (b7.alloc _).below hx5
  have b8 := (b8.alloc _).below hx5
  have b9 := (b9.alloc _).below hx5
  have b11 := (b11.alloc _).below hx5
  have b13 := (Bx.new _ _ _).below hx5
  clear cb7 fb7 lb7 cb8 fb8 lb8 cb9 fb9 lb9 cb11 fb11 lb11
  have cb7 := b7.cell; have fb7 := b7.free; have lb7 := b7.lt
  have cb8 := b8.cell; have fb8 := b8.free; have lb8 := b8.lt
  have cb9 := b9.cell; have fb9 := b9.free; have lb9 := b9.lt
  have cb11 := b11.cell; have fb11 := b11.free; have lb11 := b11.lt
  have cb13 := b13.cell; have fb13 := b13.free; have lb13 := b13.lt
  go_wp2_with fail
  refine (alive_true _ (HLW.out.below (by (repeat' (first | exact Below.refl _ _ | refine bl_set ?_ (by first | (simp; done) | (simp; omega)) _ | (with_reducible assumption) | refine bl_alloc ?_ _ | refine bl_drewN ?_ _ | refine bl_drew ?_ | refine bl ?_ (by with_reducible assumption)))))).mono ?_; rintro e x6 ⟨rfl, hx6⟩
  have b7 := (b7.alloc _).below hx6
  have b8 := (b8.alloc _).below hx6
  have b9 := (b9.alloc _).below hx6
  have b11 := (b11.alloc _).below hx6
  have b13 := (b13.alloc _).below hx6
  have b15 := (Bx.new _ _ _).below hx6
  clear cb7 fb7 lb7 cb8 fb8 lb8 cb9 fb9 lb9 cb11 fb11 lb11 cb13 fb13 lb13
  have cb7 := b7.cell; have lb7 := b7.lt
  have cb8 := b8.cell; have lb8 := b8.lt
  have cb9 := b9.cell; have lb9 := b9.lt
  have cb11 := b11.cell; have lb11 := b11.lt
  have cb13 := b13.cell; have lb13 := b13.lt
  have cb15 := b15.cell; have lb15 := b15.lt
  go_wp2
  (apply hR.out; clear hR; go_tidy)
  exact ⟨by first | rfl | (simp; done) | (simp; omega), bl hBW (by (repeat' (first | exact Below.refl _ _ | refine bl_set ?_ (by first | (simp; done) | (simp; omega)) _ | (with_reducible assumption) | refine bl_alloc ?_ _ | refine bl_drewN ?_ _ | refine bl_drew ?_ | refine bl ?_ (by with_reducible assumption))))⟩
set_option maxHeartbeats 4000000 in
set_option maxRecDepth 100000 in
theorem null_Dw (n : Int) (n0 : -9223372036854775808 ≤ n) (n1 : n ≤ 9223372036854775807) (w : World) (hl : Laid w) :
    Calls Tryd.prog 12 #[.int .i64 n, .bool false, .int .i64 7] w fun e w' => e = .returned (.bool true) ∧ Below w.heap.size w w' := by
  have HLd := Lib.hid hl
  clear hl
  refine calls_hide ?_; intro R hR; go_enter Tryd.func12, Tryd.ntmps12
  go_wp2_with fail
  refine (whole_any _ _).mono ?_; rintro e w1 ⟨rfl, hw1⟩
  go_upto_region 4 with (fail)
  have b7 := Bx.new w1 #[.int .i64 2, .int .i64 n, .string ⟨#[]⟩] 51
  have hBW := bl_alloc hw1 (.cells #[.int .i64 2, .int .i64 n, .string ⟨#[]⟩] 51)
  generalize hW : w1.alloc (.cells #[.int .i64 2, .int .i64 n, .string ⟨#[]⟩] 51) = W at b7 hBW ⊢
  clear hW
  generalize w1.heap.size = A at b7 ⊢
  have b7 : Bx W A #[.int .i64 2, .int .i64 n, .string ⟨#[]⟩] := b7
  have HLW := Lib.hid (HLd.out.below hBW)
  have HN : Hid (Num 2 n) := Lib.hid (num2 n0 n1)
  have cb7 := b7.cell; have fb7 := b7.free; have lb7 := b7.lt
  go_wp2_with fail
  refine (reckon_zbad _ _ _ _ _ (by omega) HN.out num0 _).mono ?_; rintro e x2 ⟨⟨e9, rfl⟩, hx2⟩
  have b7 := (b7.alloc _).below hx2
  have b8 := (Bx.new _ _ _).below hx2
  clear cb7 fb7 lb7
  have cb7 := b7.cell; have fb7 := b7.free; have lb7 := b7.lt
  have cb8 := b8.cell; have fb8 := b8.free; have lb8 := b8.lt
  go_wp2_with fail
  refine (reckon_zbad _ _ _ _ _ (by omega) num0 HN.out _).mono ?_; rintro e x3 ⟨⟨e11, rfl⟩, hx3⟩
  have b7 := (b7.alloc _).below hx3
  have b8 := (b8.alloc _).below hx3
  have b9 := (Bx.new _ _ _).below hx3
  clear cb7 fb7 lb7 cb8 fb8 lb8
  have cb7 := b7.cell; have fb7 := b7.free; have lb7 := b7.lt
  have cb8 := b8.cell; have fb8 := b8.free; have lb8 := b8.lt
  have cb9 := b9.cell; have fb9 := b9.free; have lb9 := b9.lt
  go_wp2_with fail
  refine (compare_zbad _ _ _ _ _ (by omega) HN.out num0 _).mono ?_; rintro e x4 ⟨⟨e13, rfl⟩, hx4⟩
  have b7 := (b7.alloc _).below hx4
  have b8 := (b8.alloc _).below hx4
  have b9 := (b9.alloc _).below hx4
  have b11 := (Bx.new _ _ _).below hx4
  clear cb7 fb7 lb7 cb8 fb8 lb8 cb9 fb9 lb9
  have cb7 := b7.cell; have fb7 := b7.free; have lb7 := b7.lt
  have cb8 := b8.cell; have fb8 := b8.free; have lb8 := b8.lt
  have cb9 := b9.cell; have fb9 := b9.free; have lb9 := b9.lt
  have cb11 := b11.cell; have fb11 := b11.free; have lb11 := b11.lt
  go_wp2_with fail
  refine (compare_zbad _ _ _ _ _ (by omega) num0 HN.out _).mono ?_; rintro e x5 ⟨⟨e15, rfl⟩, hx5⟩
  have b7 := (b7.alloc _).below hx5
  have b8 := (b8.alloc _).below hx5
  have b9 := (b9.alloc _).below hx5
  have b11 := (b11.alloc _).below hx5
  have b13 := (Bx.new _ _ _).below hx5
  clear cb7 fb7 lb7 cb8 fb8 lb8 cb9 fb9 lb9 cb11 fb11 lb11
  have cb7 := b7.cell; have fb7 := b7.free; have lb7 := b7.lt
  have cb8 := b8.cell; have fb8 := b8.free; have lb8 := b8.lt
  have cb9 := b9.cell; have fb9 := b9.free; have lb9 := b9.lt
  have cb11 := b11.cell; have fb11 := b11.free; have lb11 := b11.lt
  have cb13 := b13.cell; have fb13 := b13.free; have lb13 := b13.lt
  go_wp2_with fail
  refine (alive_true _ (HLW.out.below (by (repeat' (first | exact Below.refl _ _ | refine bl_set ?_ (by first | (simp; done) | (simp; omega)) _ | (with_reducible assumption) | refine bl_alloc ?_ _ | refine bl_drewN ?_ _ | refine bl_drew ?_ | refine bl ?_ (by with_reducible assumption)))))).mono ?_; rintro e x6 ⟨rfl, hx6⟩
  have b7 := (b7.alloc _).below hx6
  have b8 := (b8.alloc _).below hx6
  have b9 := (b9.alloc _).below hx6
  have b11 := (b11.alloc _).below hx6
  have b13 := (b13.alloc _).below hx6
  have b15 := (Bx.new _ _ _).below hx6
  clear cb7 fb7 lb7 cb8 fb8 lb8 cb9 fb9 lb9 cb11 fb11 lb11 cb13 fb13 lb13
  have cb7 := b7.cell; have lb7 := b7.lt
  have cb8 := b8.cell; have lb8 := b8.lt
  have cb9 := b9.cell; have lb9 := b9.lt
  have cb11 := b11.cell; have lb11 := b11.lt
  have cb13 := b13.cell; have lb13 := b13.lt
  have cb15 := b15.cell; have lb15 := b15.lt
  go_wp2
  (apply hR.out; clear hR; go_tidy)
  exact ⟨by first | rfl | (simp; done) | (simp; omega), bl hBW (by (repeat' (first | exact Below.refl _ _ | refine bl_set ?_ (by first | (simp; done) | (simp; omega)) _ | (with_reducible assumption) | refine bl_alloc ?_ _ | refine bl_drewN ?_ _ | refine bl_drew ?_ | refine bl ?_ (by with_reducible assumption))))⟩
set_option maxHeartbeats 4000000 in
set_option maxRecDepth 100000 in
theorem null_Dd (n : Int) (n0 : -9223372036854775808 ≤ n) (n1 : n ≤ 9223372036854775807) (w : World) (hl : Laid w) :
    Calls Tryd.prog 12 #[.int .i64 n, .bool true, .int .i64 7] w fun e w' => e = .returned (.bool true) ∧ Below w.heap.size w w' := by
  have HLd := Lib.hid hl
  clear hl
  refine calls_hide ?_; intro R hR; go_enter Tryd.func12, Tryd.ntmps12
  go_wp2_with fail
  refine (whole_any _ _).mono ?_; rintro e w1 ⟨rfl, hw1⟩
  go_wp2_with fail
  refine (dec_any _ _).mono ?_; rintro e w2 ⟨rfl, hw2⟩
  have b7 := (Bx.new _ _ _).below hw2
  have cb7 := b7.cell; have fb7 := b7.free; have lb7 := b7.lt
  go_upto_region 4 with (fail)
  have b7 := ((b7.set 0 (by simp) (.int .i64 3)).set 1 (by simp) (.int .i64 n)).set 2 (by simp) (.string ⟨#[]⟩)
  clear cb7 fb7 lb7
  have hBW := bl_set (bl_set (bl_set (bl (bl_alloc hw1 _) hw2) (p := ⟨w1.heap.size, 0, none⟩) hw1.size (.int .i64 3)) (p := ⟨w1.heap.size, 1, none⟩) hw1.size (.int .i64 n)) (p := ⟨w1.heap.size, 2, none⟩) hw1.size (.string ⟨#[]⟩)
  generalize hW : (((w2.setCell ⟨w1.heap.size, 0, none⟩ (.int .i64 3)).setCell ⟨w1.heap.size, 1, none⟩ (.int .i64 n)).setCell ⟨w1.heap.size, 2, none⟩ (.string ⟨#[]⟩)) = W at b7 hBW ⊢
  clear hW
  generalize w1.heap.size = A at b7 ⊢
  have b7 : Bx W A #[.int .i64 3, .int .i64 n, .string ⟨#[]⟩] := b7
  have HLW := Lib.hid (HLd.out.below hBW)
  have HN : Hid (Num 3 n) := Lib.hid (num3 n0 n1)
  have cb7 := b7.cell; have fb7 := b7.free; have lb7 := b7.lt
  go_wp2_with fail
  refine (reckon_zbad _ _ _ _ _ (by omega) HN.out num0 _).mono ?_; rintro e x2 ⟨⟨e9, rfl⟩, hx2⟩
  have b7 := (b7.alloc _).below hx2
  have b8 := (Bx.new _ _ _).below hx2
  clear cb7 fb7 lb7
  have cb7 := b7.cell; have fb7 := b7.free; have lb7 := b7.lt
  have cb8 := b8.cell; have fb8 := b8.free; have lb8 := b8.lt
  go_wp2_with fail
  refine (reckon_zbad _ _ _ _ _ (by omega) num0 HN.out _).mono ?_; rintro e x3 ⟨⟨e11, rfl⟩, hx3⟩
  have b7 := (b7.alloc _).below hx3
  have b8 := (b8.alloc _).below hx3
  have b9 := (Bx.new _ _ _).below hx3
  clear cb7 fb7 lb7 cb8 fb8 lb8
  have cb7 := b7.cell; have fb7 := b7.free; have lb7 := b7.lt
  have cb8 := b8.cell; have fb8 := b8.free; have lb8 := b8.lt
  have cb9 := b9.cell; have fb9 := b9.free; have lb9 := b9.lt
  go_wp2_with fail
  refine (compare_zbad _ _ _ _ _ (by omega) HN.out num0 _).mono ?_; rintro e x4 ⟨⟨e13, rfl⟩, hx4⟩
  have b7 := (b7.alloc _).below hx4
  have b8 := (b8.alloc _).below hx4
  have b9 := (b9.alloc _).below hx4
  have b11 := (Bx.new _ _ _).below hx4
  clear cb7 fb7 lb7 cb8 fb8 lb8 cb9 fb9 lb9
  have cb7 := b7.cell; have fb7 := b7.free; have lb7 := b7.lt
  have cb8 := b8.cell; have fb8 := b8.free; have lb8 := b8.lt
  have cb9 := b9.cell; have fb9 := b9.free; have lb9 := b9.lt
  have cb11 := b11.cell; have fb11 := b11.free; have lb11 := b11.lt
  go_wp2_with fail
  refine (compare_zbad _ _ _ _ _ (by omega) num0 HN.out _).mono ?_; rintro e x5 ⟨⟨e15, rfl⟩, hx5⟩
  have b7 := (b7.alloc _).below hx5
  have b8 := (b8.alloc _).below hx5
  have b9 := (b9.alloc _).below hx5
  have b11 := (b11.alloc _).below hx5
  have b13 := (Bx.new _ _ _).below hx5
  clear cb7 fb7 lb7 cb8 fb8 lb8 cb9 fb9 lb9 cb11 fb11 lb11
  have cb7 := b7.cell; have fb7 := b7.free; have lb7 := b7.lt
  have cb8 := b8.cell; have fb8 := b8.free; have lb8 := b8.lt
  have cb9 := b9.cell; have fb9 := b9.free; have lb9 := b9.lt
  have cb11 := b11.cell; have fb11 := b11.free; have lb11 := b11.lt
  have cb13 := b13.cell; have fb13 := b13.free; have lb13 := b13.lt
  go_wp2_with fail
  refine (alive_true _ (HLW.out.below (by (repeat' (first | exact Below.refl _ _ | refine bl_set ?_ (by first | (simp; done) | (simp; omega)) _ | (with_reducible assumption) | refine bl_alloc ?_ _ | refine bl_drewN ?_ _ | refine bl_drew ?_ | refine bl ?_ (by with_reducible assumption)))))).mono ?_; rintro e x6 ⟨rfl, hx6⟩
  have b7 := (b7.alloc _).below hx6
  have b8 := (b8.alloc _).below hx6
  have b9 := (b9.alloc _).below hx6
  have b11 := (b11.alloc _).below hx6
  have b13 := (b13.alloc _).below hx6
  have b15 := (Bx.new _ _ _).below hx6
  clear cb7 fb7 lb7 cb8 fb8 lb8 cb9 fb9 lb9 cb11 fb11 lb11 cb13 fb13 lb13
  have cb7 := b7.cell; have lb7 := b7.lt
  have cb8 := b8.cell; have lb8 := b8.lt
  have cb9 := b9.cell; have lb9 := b9.lt
  have cb11 := b11.cell; have lb11 := b11.lt
  have cb13 := b13.cell; have lb13 := b13.lt
  have cb15 := b15.cell; have lb15 := b15.lt
  go_wp2
  (apply hR.out; clear hR; go_tidy)
  exact ⟨by first | rfl | (simp; done) | (simp; omega), bl hBW (by (repeat' (first | exact Below.refl _ _ | refine bl_set ?_ (by first | (simp; done) | (simp; omega)) _ | (with_reducible assumption) | refine bl_alloc ?_ _ | refine bl_drewN ?_ _ | refine bl_drew ?_ | refine bl ?_ (by with_reducible assumption))))⟩
set_option maxHeartbeats 4000000 in
set_option maxRecDepth 100000 in
theorem null_Ew (n op : Int) (o0 : 13 < op) (n0 : -9223372036854775808 ≤ n) (n1 : n ≤ 9223372036854775807) (w : World) (hl : Laid w) :
    Calls Tryd.prog 12 #[.int .i64 n, .bool false, .int .i64 op] w fun e w' => e = .returned (.bool true) ∧ Below w.heap.size w w' := by
  have HLd := Lib.hid hl
  clear hl
  refine calls_hide ?_; intro R hR; go_enter Tryd.func12, Tryd.ntmps12
  go_wp2_with fail
  refine (whole_any _ _).mono ?_; rintro e w1 ⟨rfl, hw1⟩
  go_upto_region 4 with (fail)
  have b7 := Bx.new w1 #[.int .i64 2, .int .i64 n, .string ⟨#[]⟩] 51
  have hBW := bl_alloc hw1 (.cells #[.int .i64 2, .int .i64 n, .string ⟨#[]⟩] 51)
  generalize hW : w1.alloc (.cells #[.int .i64 2, .int .i64 n, .string ⟨#[]⟩] 51) = W at b7 hBW ⊢
  clear hW
  generalize w1.heap.size = A at b7 ⊢
  have b7 : Bx W A #[.int .i64 2, .int .i64 n, .string ⟨#[]⟩] := b7
  have HLW := Lib.hid (HLd.out.below hBW)
  have HN : Hid (Num 2 n) := Lib.hid (num2 n0 n1)
  have cb7 := b7.cell; have fb7 := b7.free; have lb7 := b7.lt
  go_wp2_with fail
  refine (reckon_zbad _ _ _ _ _ (by omega) HN.out num0 _).mono ?_; rintro e x2 ⟨⟨e9, rfl⟩, hx2⟩
  have b7 := (b7.alloc _).below hx2
  have b8 := (Bx.new _ _ _).below hx2
  clear cb7 fb7 lb7
  have cb7 := b7.cell; have fb7 := b7.free; have lb7 := b7.lt
  have cb8 := b8.cell; have fb8 := b8.free; have lb8 := b8.lt
  go_wp2_with fail
  refine (reckon_zbad _ _ _ _ _ (by omega) num0 HN.out _).mono ?_; rintro e x3 ⟨⟨e11, rfl⟩, hx3⟩
  have b7 := (b7.alloc _).below hx3
  have b8 := (b8.alloc _).below hx3
  have b9 := (Bx.new _ _ _).below hx3
  clear cb7 fb7 lb7 cb8 fb8 lb8
  have cb7 := b7.cell; have fb7 := b7.free; have lb7 := b7.lt
  have cb8 := b8.cell; have fb8 := b8.free; have lb8 := b8.lt
  have cb9 := b9.cell; have fb9 := b9.free; have lb9 := b9.lt
  go_wp2_with fail
  refine (compare_zbad _ _ _ _ _ (by omega) HN.out num0 _).mono ?_; rintro e x4 ⟨⟨e13, rfl⟩, hx4⟩
  have b7 := (b7.alloc _).below hx4
  have b8 := (b8.alloc _).below hx4
  have b9 := (b9.alloc _).below hx4
  have b11 := (Bx.new _ _ _).below hx4
  clear cb7 fb7 lb7 cb8 fb8 lb8 cb9 fb9 lb9
  have cb7 := b7.cell; have fb7 := b7.free; have lb7 := b7.lt
  have cb8 := b8.cell; have fb8 := b8.free; have lb8 := b8.lt
  have cb9 := b9.cell; have fb9 := b9.free; have lb9 := b9.lt
  have cb11 := b11.cell; have fb11 := b11.free; have lb11 := b11.lt
  go_wp2_with fail
  refine (compare_zbad _ _ _ _ _ (by omega) num0 HN.out _).mono ?_; rintro e x5 ⟨⟨e15, rfl⟩, hx5⟩
  have b7 := (b7.alloc _).below hx5
  have b8 := (b8.alloc _).below hx5
  have b9 := (b9.alloc _).below hx5
  have b11 := (b11.alloc _).below hx5
  have b13 := (Bx.new _ _ _).below hx5
  clear cb7 fb7 lb7 cb8 fb8 lb8 cb9 fb9 lb9 cb11 fb11 lb11
  have cb7 := b7.cell; have fb7 := b7.free; have lb7 := b7.lt
  have cb8 := b8.cell; have fb8 := b8.free; have lb8 := b8.lt
  have cb9 := b9.cell; have fb9 := b9.free; have lb9 := b9.lt
  have cb11 := b11.cell; have fb11 := b11.free; have lb11 := b11.lt
  have cb13 := b13.cell; have fb13 := b13.free; have lb13 := b13.lt
  go_wp2_with fail
  refine (alive_true _ (HLW.out.below (by (repeat' (first | exact Below.refl _ _ | refine bl_set ?_ (by first | (simp; done) | (simp; omega)) _ | (with_reducible assumption) | refine bl_alloc ?_ _ | refine bl_drewN ?_ _ | refine bl_drew ?_ | refine bl ?_ (by with_reducible assumption)))))).mono ?_; rintro e x6 ⟨rfl, hx6⟩
  have b7 := (b7.alloc _).below hx6
  have b8 := (b8.alloc _).below hx6
  have b9 := (b9.alloc _).below hx6
  have b11 := (b11.alloc _).below hx6
  have b13 := (b13.alloc _).below hx6
  have b15 := (Bx.new _ _ _).below hx6
  clear cb7 fb7 lb7 cb8 fb8 lb8 cb9 fb9 lb9 cb11 fb11 lb11 cb13 fb13 lb13
  have cb7 := b7.cell; have lb7 := b7.lt
  have cb8 := b8.cell; have lb8 := b8.lt
  have cb9 := b9.cell; have lb9 := b9.lt
  have cb11 := b11.cell; have lb11 := b11.lt
  have cb13 := b13.cell; have lb13 := b13.lt
  have cb15 := b15.cell; have lb15 := b15.lt
  go_wp2
  (apply hR.out; clear hR; go_tidy)
  exact ⟨by first | rfl | (simp; done) | (simp; omega), bl hBW (by (repeat' (first | exact Below.refl _ _ | refine bl_set ?_ (by first | (simp; done) | (simp; omega)) _ | (with_reducible assumption) | refine bl_alloc ?_ _ | refine bl_drewN ?_ _ | refine bl_drew ?_ | refine bl ?_ (by with_reducible assumption))))⟩
set_option maxHeartbeats 4000000 in
set_option maxRecDepth 100000 in
theorem null_Ed (n op : Int) (o0 : 13 < op) (n0 : -9223372036854775808 ≤ n) (n1 : n ≤ 9223372036854775807) (w : World) (hl : Laid w) :
    Calls Tryd.prog 12 #[.int .i64 n, .bool true, .int .i64 op] w fun e w' => e = .returned (.bool true) ∧ Below w.heap.size w w' := by
  have HLd := Lib.hid hl
  clear hl
  refine calls_hide ?_; intro R hR; go_enter Tryd.func12, Tryd.ntmps12
  go_wp2_with fail
  refine (whole_any _ _).mono ?_; rintro e w1 ⟨rfl, hw1⟩
  go_wp2_with fail
  refine (dec_any _ _).mono ?_; rintro e w2 ⟨rfl, hw2⟩
  have b7 := (Bx.new _ _ _).below hw2
  have cb7 := b7.cell; have fb7 := b7.free; have lb7 := b7.lt
  go_upto_region 4 with (fail)
  have b7 := ((b7.set 0 (by simp) (.int .i64 3)).set 1 (by simp) (.int .i64 n)).set 2 (by simp) (.string ⟨#[]⟩)
  clear cb7 fb7 lb7
  have hBW := bl_set (bl_set (bl_set (bl (bl_alloc hw1 _) hw2) (p := ⟨w1.heap.size, 0, none⟩) hw1.size (.int .i64 3)) (p := ⟨w1.heap.size, 1, none⟩) hw1.size (.int .i64 n)) (p := ⟨w1.heap.size, 2, none⟩) hw1.size (.string ⟨#[]⟩)
  generalize hW : (((w2.setCell ⟨w1.heap.size, 0, none⟩ (.int .i64 3)).setCell ⟨w1.heap.size, 1, none⟩ (.int .i64 n)).setCell ⟨w1.heap.size, 2, none⟩ (.string ⟨#[]⟩)) = W at b7 hBW ⊢
  clear hW
  generalize w1.heap.size = A at b7 ⊢
  have b7 : Bx W A #[.int .i64 3, .int .i64 n, .string ⟨#[]⟩] := b7
  have HLW := Lib.hid (HLd.out.below hBW)
  have HN : Hid (Num 3 n) := Lib.hid (num3 n0 n1)
  have cb7 := b7.cell; have fb7 := b7.free; have lb7 := b7.lt
  go_wp2_with fail
  refine (reckon_zbad _ _ _ _ _ (by omega) HN.out num0 _).mono ?_; rintro e x2 ⟨⟨e9, rfl⟩, hx2⟩
  have b7 := (b7.alloc _).below hx2
  have b8 := (Bx.new _ _ _).below hx2
  clear cb7 fb7 lb7
  have cb7 := b7.cell; have fb7 := b7.free; have lb7 := b7.lt
  have cb8 := b8.cell; have fb8 := b8.free; have lb8 := b8.lt
  go_wp2_with fail
  refine (reckon_zbad _ _ _ _ _ (by omega) num0 HN.out _).mono ?_; rintro e x3 ⟨⟨e11, rfl⟩, hx3⟩
  have b7 := (b7.alloc _).below hx3
  have b8 := (b8.alloc _).below hx3
  have b9 := (Bx.new _ _ _).below hx3
  clear cb7 fb7 lb7 cb8 fb8 lb8
  have cb7 := b7.cell; have fb7 := b7.free; have lb7 := b7.lt
  have cb8 := b8.cell; have fb8 := b8.free; have lb8 := b8.lt
  have cb9 := b9.cell; have fb9 := b9.free; have lb9 := b9.lt
  go_wp2_with fail
  refine (compare_zbad _ _ _ _ _ (by omega) HN.out num0 _).mono ?_; rintro e x4 ⟨⟨e13, rfl⟩, hx4⟩
  have b7 := (b7.alloc _).below hx4
  have b8 := (b8.alloc _).below hx4
  have b9 := (b9.alloc _).below hx4
  have b11 := (Bx.new _ _ _).below hx4
  clear cb7 fb7 lb7 cb8 fb8 lb8 cb9 fb9 lb9
  have cb7 := b7.cell; have fb7 := b7.free; have lb7 := b7.lt
  have cb8 := b8.cell; have fb8 := b8.free; have lb8 := b8.lt
  have cb9 := b9.cell; have fb9 := b9.free; have lb9 := b9.lt
  have cb11 := b11.cell; have fb11 := b11.free; have lb11 := b11.lt
  go_wp2_with fail
  refine (compare_zbad _ _ _ _ _ (by omega) num0 HN.out _).mono ?_; rintro e x5 ⟨⟨e15, rfl⟩, hx5⟩
  have b7 := (b7.alloc _).below hx5
  have b8 := (b8.alloc _).below hx5
  have b9 := (b9.alloc _).below hx5
  have b11 := (b11.alloc _).below hx5
  have b13 := (Bx.new _ _ _).below hx5
  clear cb7 fb7 lb7 cb8 fb8 lb8 cb9 fb9 lb9 cb11 fb11 lb11
  have cb7 := b7.cell; have fb7 := b7.free; have lb7 := b7.lt
  have cb8 := b8.cell; have fb8 := b8.free; have lb8 := b8.lt
  have cb9 := b9.cell; have fb9 := b9.free; have lb9 := b9.lt
  have cb11 := b11.cell; have fb11 := b11.free; have lb11 := b11.lt
  have cb13 := b13.cell; have fb13 := b13.free; have lb13 := b13.lt
  go_wp2_with fail
  refine (alive_true _ (HLW.out.below (by (repeat' (first | exact Below.refl _ _ | refine bl_set ?_ (by first | (simp; done) | (simp; omega)) _ | (with_reducible assumption) | refine bl_alloc ?_ _ | refine bl_drewN ?_ _ | refine bl_drew ?_ | refine bl ?_ (by with_reducible assumption)))))).mono ?_; rintro e x6 ⟨rfl, hx6⟩
  have b7 := (b7.alloc _).below hx6
  have b8 := (b8.alloc _).below hx6
  have b9 := (b9.alloc _).below hx6
  have b11 := (b11.alloc _).below hx6
  have b13 := (b13.alloc _).below hx6
  have b15 := (Bx.new _ _ _).below hx6
  clear cb7 fb7 lb7 cb8 fb8 lb8 cb9 fb9 lb9 cb11 fb11 lb11 cb13 fb13 lb13
  have cb7 := b7.cell; have lb7 := b7.lt
  have cb8 := b8.cell; have lb8 := b8.lt
  have cb9 := b9.cell; have lb9 := b9.lt
  have cb11 := b11.cell; have lb11 := b11.lt
  have cb13 := b13.cell; have lb13 := b13.lt
  have cb15 := b15.cell; have lb15 := b15.lt
  go_wp2
  (apply hR.out; clear hR; go_tidy)
  exact ⟨by first | rfl | (simp; done) | (simp; omega), bl hBW (by (repeat' (first | exact Below.refl _ _ | refine bl_set ?_ (by first | (simp; done) | (simp; omega)) _ | (with_reducible assumption) | refine bl_alloc ?_ _ | refine bl_drewN ?_ _ | refine bl_drew ?_ | refine bl ?_ (by with_reducible assumption))))⟩
theorem null_true (n op : Int) (d : Bool) (n0 : -9223372036854775808 ≤ n) (n1 : n ≤ 9223372036854775807) (w : World) (hl : Laid w) :
    Calls Tryd.prog 12 #[.int .i64 n, .bool d, .int .i64 op] w fun e w' => e = .returned (.bool true) ∧ Below w.heap.size w w' := by
  rcases (by omega : op < 3 ∨ (3 ≤ op ∧ op ≤ 6) ∨ op = 7 ∨ (8 ≤ op ∧ op ≤ 13) ∨ 13 < op) with h | ⟨h, h'⟩ | rfl | ⟨h, h'⟩ | h <;> cases d
  · exact null_Cw n op h n0 n1 w hl
  · exact null_Cd n op h n0 n1 w hl
  · exact null_Aw n op h h' n0 n1 w hl
  · exact null_Ad n op h h' n0 n1 w hl
  · exact null_Dw n n0 n1 w hl
  · exact null_Dd n n0 n1 w hl
  · exact null_Bw n op h h' n0 n1 w hl
  · exact null_Bd n op h h' n0 n1 w hl
  · exact null_Ew n op h n0 n1 w hl
  · exact null_Ed n op h n0 n1 w hl
end Go.Proofs.YtdlmcgflgdmjgaaDoor
