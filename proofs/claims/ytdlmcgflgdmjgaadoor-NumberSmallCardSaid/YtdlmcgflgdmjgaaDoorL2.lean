/- NumberSmall: its walk. -/
import Derived.Test.YtdlmcgflgdmjgaaDoorL2a
import Derived.Test.YtdlmcgflgdmjgaaDoorBx
import Derived.Test.YtdlmcgflgdmjgaaDoorEq
import Derived.Deep.DeepCutAuto
set_option linter.unusedVariables false
set_option linter.unusedSectionVars false
set_option linter.unusedSimpArgs false
namespace Go.Proofs.YtdlmcgflgdmjgaaDoor
open Go.RowKit
set_option maxHeartbeats 4000000 in
set_option maxRecDepth 100000 in
theorem small_in (a b : Int) (a0 : -1048576 < a) (a1 : a < 1048576) (b0 : -1048576 < b) (b1 : b < 1048576) (w : World) (hl : Laid w) :
    Calls Tryd.prog 8 #[.int .i64 a, .int .i64 b] w fun e w' => e = .returned (.bool true) ∧ Below w.heap.size w w' := by
  have ta0 : decide (a ≤ -1048576) = false := decide_eq_false (by omega)
  have ta1 : decide (1048576 ≤ a) = false := decide_eq_false (by omega)
  have tb0 : decide (b ≤ -1048576) = false := decide_eq_false (by omega)
  have heqV := eqV
  have e1 : IntKind.i64.wrap (a + b) = a + b := by simp only [IntKind.wrap_i64, wrap64]; omega
  have e2 : IntKind.i64.wrap (a - b) = a - b := by simp only [IntKind.wrap_i64, wrap64]; omega
  have e3 : IntKind.i64.wrap (a * b) = a * b := by have := s_mb a0 a1 b0 b1; simp only [IntKind.wrap_i64, wrap64]; omega
  have e4 : IntKind.i64.wrap ((a * b).tdiv 10000) = (a * b).tdiv 10000 := by have := s_db a0 a1 b0 b1; simp only [IntKind.wrap_i64, wrap64]; omega
  have e5 : IntKind.i64.wrap (a * 10000) = a * 10000 := by simp only [IntKind.wrap_i64, wrap64]; omega
  have e6 : IntKind.i64.wrap (a * 10000 + b) = a * 10000 + b := by simp only [IntKind.wrap_i64, wrap64]; omega
  have tb1 : decide (1048576 ≤ b) = false := decide_eq_false (by omega)
  have HLd := Lib.hid hl
  clear hl
  refine calls_hide ?_; intro R hR; go_enter Tryd.func8, Tryd.ntmps8
  go_wp2_with fail
  refine (whole_any _ _).mono ?_; rintro e x1 ⟨rfl, hx1⟩
  go_wp2_with fail
  refine (whole_any _ _).mono ?_; rintro e x2 ⟨rfl, hx2⟩
  go_wp2_with fail
  refine (rk_ok (s_add a0 a1 b0 b1) (num2 (by omega) (by omega)) (num2 (by omega) (by omega)) _).mono ?_; rintro e x3 ⟨rfl, hx3⟩
  go_wp2_with fail
  refine (whole_any _ _).mono ?_; rintro e x4 ⟨rfl, hx4⟩
  have k1 := (Bx.new _ _ _).below hx4
  go_wp2_with fail
  refine (whole_any _ _).mono ?_; rintro e x5 ⟨rfl, hx5⟩
  replace k1 := k1.below hx5
  go_wp2_with fail
  refine (rk_ok (s_sub a0 a1 b0 b1) (num2 (by omega) (by omega)) (num2 (by omega) (by omega)) _).mono ?_; rintro e x6 ⟨rfl, hx6⟩
  replace k1 := k1.below hx6
  go_wp2_with fail
  refine (whole_any _ _).mono ?_; rintro e x7 ⟨rfl, hx7⟩
  replace k1 := (k1.alloc _).below hx7
  have k2 := (Bx.new _ _ _).below hx7
  go_wp2_with fail
  refine (whole_any _ _).mono ?_; rintro e x8 ⟨rfl, hx8⟩
  replace k1 := k1.below hx8
  replace k2 := k2.below hx8
  go_wp2_with fail
  refine (rk_ok (s_mul a0 a1 b0 b1) (num2 (by omega) (by omega)) (num2 (by omega) (by omega)) _).mono ?_; rintro e x9 ⟨rfl, hx9⟩
  replace k1 := k1.below hx9
  replace k2 := k2.below hx9
  go_wp2_with fail
  refine (dec_any _ _).mono ?_; rintro e x10 ⟨rfl, hx10⟩
  replace k1 := (k1.alloc _).below hx10
  replace k2 := (k2.alloc _).below hx10
  have k3 := (Bx.new _ _ _).below hx10
  go_wp2_with fail
  refine (dec_any _ _).mono ?_; rintro e x11 ⟨rfl, hx11⟩
  replace k1 := k1.below hx11
  replace k2 := k2.below hx11
  replace k3 := k3.below hx11
  go_wp2_with fail
  refine (rk_ok (s_dmul a0 a1 b0 b1) (num3 (by omega) (by omega)) (num3 (by omega) (by omega)) _).mono ?_; rintro e x12 ⟨rfl, hx12⟩
  replace k1 := k1.below hx12
  replace k2 := k2.below hx12
  replace k3 := k3.below hx12
  go_wp2_with fail
  refine (whole_any _ _).mono ?_; rintro e x13 ⟨rfl, hx13⟩
  replace k1 := (k1.alloc _).below hx13
  replace k2 := (k2.alloc _).below hx13
  replace k3 := (k3.alloc _).below hx13
  have k4 := (Bx.new _ _ _).below hx13
  go_wp2_with fail
  refine (dec_any _ _).mono ?_; rintro e x14 ⟨rfl, hx14⟩
  replace k1 := k1.below hx14
  replace k2 := k2.below hx14
  replace k3 := k3.below hx14
  replace k4 := k4.below hx14
  go_wp2_with fail
  refine (rk_ok (s_mix a0 a1 b0 b1) (num2 (by omega) (by omega)) (num3 (by omega) (by omega)) _).mono ?_; rintro e x15 ⟨rfl, hx15⟩
  replace k1 := k1.below hx15
  replace k2 := k2.below hx15
  replace k3 := k3.below hx15
  replace k4 := k4.below hx15
  go_upto_region 8 with (fail)
  have k5 := Bx.new x15 #[.int .i64 3, .int .i64 (a * 10000 + b), .string ⟨#[]⟩] 51
  replace k1 := k1.alloc (.cells #[.int .i64 3, .int .i64 (a * 10000 + b), .string ⟨#[]⟩] 51)
  replace k2 := k2.alloc (.cells #[.int .i64 3, .int .i64 (a * 10000 + b), .string ⟨#[]⟩] 51)
  replace k3 := k3.alloc (.cells #[.int .i64 3, .int .i64 (a * 10000 + b), .string ⟨#[]⟩] 51)
  replace k4 := k4.alloc (.cells #[.int .i64 3, .int .i64 (a * 10000 + b), .string ⟨#[]⟩] 51)
  have hBW : Below w.heap.size w (x15.alloc (.cells #[.int .i64 3, .int .i64 (a * 10000 + b), .string ⟨#[]⟩] 51)) := by (repeat' (first | exact Below.refl _ _ | refine bl_set ?_ (by first | (simp; done) | (simp; omega)) _ | (with_reducible assumption) | refine bl_alloc ?_ _ | refine bl_drewN ?_ _ | refine bl_drew ?_ | refine bl ?_ (by with_reducible assumption)))
  generalize hgen : x15.alloc (.cells #[.int .i64 3, .int .i64 (a * 10000 + b), .string ⟨#[]⟩] 51) = W at k1 k2 k3 k4 k5 hBW ⊢
  clear hgen
  generalize x3.heap.size = p1 at k1 ⊢
  generalize x6.heap.size = p2 at k2 ⊢
  generalize x9.heap.size = p3 at k3 ⊢
  generalize x12.heap.size = p4 at k4 ⊢
  generalize x15.heap.size = p5 at k5 ⊢
  have hmk : Hid (∀ w', Below W.heap.size W w' → (fun w' => (∀ i : Nat, w'.cell? ⟨p1, i, none⟩ = (#[.int .i64 2, .int .i64 (a + b), .string ⟨#[]⟩] : Array Value)[i]?) ∧ (∀ i : Nat, w'.cell? ⟨p2, i, none⟩ = (#[.int .i64 2, .int .i64 (a - b), .string ⟨#[]⟩] : Array Value)[i]?) ∧ (∀ i : Nat, w'.cell? ⟨p3, i, none⟩ = (#[.int .i64 2, .int .i64 (a * b), .string ⟨#[]⟩] : Array Value)[i]?) ∧ (∀ i : Nat, w'.cell? ⟨p4, i, none⟩ = (#[.int .i64 3, .int .i64 ((a * b).tdiv 10000), .string ⟨#[]⟩] : Array Value)[i]?) ∧ (∀ i : Nat, w'.cell? ⟨p5, i, none⟩ = (#[.int .i64 3, .int .i64 (a * 10000 + b), .string ⟨#[]⟩] : Array Value)[i]?) ∧ Below W.heap.size W w') w') := Lib.hid fun w' h => ⟨(k1.below h).cell, (k2.below h).cell, (k3.below h).cell, (k4.below h).cell, (k5.below h).cell, h⟩
  have ck1 : ∀ i : Nat, W.cell? ⟨p1, i, none⟩ = (#[.int .i64 2, .int .i64 (a + b), .string ⟨#[]⟩] : Array Value)[i]? := k1.cell
  have ck2 : ∀ i : Nat, W.cell? ⟨p2, i, none⟩ = (#[.int .i64 2, .int .i64 (a - b), .string ⟨#[]⟩] : Array Value)[i]? := k2.cell
  have ck3 : ∀ i : Nat, W.cell? ⟨p3, i, none⟩ = (#[.int .i64 2, .int .i64 (a * b), .string ⟨#[]⟩] : Array Value)[i]? := k3.cell
  have ck4 : ∀ i : Nat, W.cell? ⟨p4, i, none⟩ = (#[.int .i64 3, .int .i64 ((a * b).tdiv 10000), .string ⟨#[]⟩] : Array Value)[i]? := k4.cell
  have ck5 : ∀ i : Nat, W.cell? ⟨p5, i, none⟩ = (#[.int .i64 3, .int .i64 (a * 10000 + b), .string ⟨#[]⟩] : Array Value)[i]? := k5.cell
  go_cut [133] from 74 to 133 (fun t wx => t = .bool false ∧ (fun w' => (∀ i : Nat, w'.cell? ⟨p1, i, none⟩ = (#[.int .i64 2, .int .i64 (a + b), .string ⟨#[]⟩] : Array Value)[i]?) ∧ (∀ i : Nat, w'.cell? ⟨p2, i, none⟩ = (#[.int .i64 2, .int .i64 (a - b), .string ⟨#[]⟩] : Array Value)[i]?) ∧ (∀ i : Nat, w'.cell? ⟨p3, i, none⟩ = (#[.int .i64 2, .int .i64 (a * b), .string ⟨#[]⟩] : Array Value)[i]?) ∧ (∀ i : Nat, w'.cell? ⟨p4, i, none⟩ = (#[.int .i64 3, .int .i64 ((a * b).tdiv 10000), .string ⟨#[]⟩] : Array Value)[i]?) ∧ (∀ i : Nat, w'.cell? ⟨p5, i, none⟩ = (#[.int .i64 3, .int .i64 (a * 10000 + b), .string ⟨#[]⟩] : Array Value)[i]?) ∧ Below W.heap.size W w') wx)
  case first =>
    clear hx1 hx2 hx3 hx4 hx5 hx6 hx7 hx8 hx9 hx10 hx11 hx12 hx13 hx14 hx15 k1 k2 k3 k4 k5
    go_region_held3 (fun w' => (∀ i : Nat, w'.cell? ⟨p1, i, none⟩ = (#[.int .i64 2, .int .i64 (a + b), .string ⟨#[]⟩] : Array Value)[i]?) ∧ (∀ i : Nat, w'.cell? ⟨p2, i, none⟩ = (#[.int .i64 2, .int .i64 (a - b), .string ⟨#[]⟩] : Array Value)[i]?) ∧ (∀ i : Nat, w'.cell? ⟨p3, i, none⟩ = (#[.int .i64 2, .int .i64 (a * b), .string ⟨#[]⟩] : Array Value)[i]?) ∧ (∀ i : Nat, w'.cell? ⟨p4, i, none⟩ = (#[.int .i64 3, .int .i64 ((a * b).tdiv 10000), .string ⟨#[]⟩] : Array Value)[i]?) ∧ (∀ i : Nat, w'.cell? ⟨p5, i, none⟩ = (#[.int .i64 3, .int .i64 (a * 10000 + b), .string ⟨#[]⟩] : Array Value)[i]?) ∧ Below W.heap.size W w') ((refine hmk.out _ ?_; exact by (repeat' (first | exact Below.refl _ _ | refine bl_set ?_ (by first | (simp; done) | (simp; omega)) _ | (with_reducible assumption) | refine bl_alloc ?_ _ | refine bl_drewN ?_ _ | refine bl_drew ?_ | refine bl ?_ (by with_reducible assumption))))) (first | (go_at_call 30; refine (whole_any _ _).mono ?_; rintro e w2 ⟨rfl, hw2⟩) | (go_at_call 31; refine (dec_any _ _).mono ?_; rintro e w2 ⟨rfl, hw2⟩))
    all_goals (go_wp2_with fail; go_meet; exact ⟨rfl, hmk.out _ (by (repeat' (first | exact Below.refl _ _ | refine bl_set ?_ (by first | (simp; done) | (simp; omega)) _ | (with_reducible assumption) | refine bl_alloc ?_ _ | refine bl_drewN ?_ _ | refine bl_drew ?_ | refine bl ?_ (by with_reducible assumption))))⟩)
  case rest =>
    obtain ⟨rfl, hcut⟩ := hcut
    replace hBW := bl hBW hcut.2.2.2.2.2
    clear hx1 hx2 hx3 hx4 hx5 hx6 hx7 hx8 hx9 hx10 hx11 hx12 hx13 hx14 hx15 k1 k2 k3 k4 k5 hcut hmk ck1 ck2 ck3 ck4 ck5
    by_cases hb : b = 0
    case pos =>
      subst hb
      go_wp2_with fail
      refine (whole_any _ _).mono ?_; rintro e x16 ⟨rfl, hx16⟩
      go_wp2_with fail
      refine (whole_any _ _).mono ?_; rintro e x17 ⟨rfl, hx17⟩
      go_wp2_with fail
      refine (rk_bad (s_zero (a := a)).1 (num2 (by omega) (by omega)) (num2 (by omega) (by omega)) _).mono ?_; rintro e x18 ⟨⟨q1, rfl, hf1⟩, hx18⟩
      go_wp2_with fail
      refine (dec_any _ _).mono ?_; rintro e x19 ⟨rfl, hx19⟩
      replace hf1 := (hf1.below (below_box _ _)).below hx19
      have k1 := (Bx.new _ _ _).below hx19
      go_wp2_with fail
      refine (dec_any _ _).mono ?_; rintro e x20 ⟨rfl, hx20⟩
      replace k1 := k1.below hx20
      replace hf1 := hf1.below hx20
      go_wp2_with fail
      refine (rk_bad (s_zero (a := a)).2 (num3 (by omega) (by omega)) (num3 (by omega) (by omega)) _).mono ?_; rintro e x21 ⟨⟨q2, rfl, hf2⟩, hx21⟩
      replace k1 := k1.below hx21
      replace hf1 := hf1.below hx21
      go_upto_region 13 with (fail)
      have k2 := Bx.new x21 #[.int .i64 0, .int .i64 (0), .string ⟨#[]⟩] 51
      replace k1 := k1.alloc (.cells #[.int .i64 0, .int .i64 (0), .string ⟨#[]⟩] 51)
      replace hf1 := hf1.below (below_box x21 (.cells #[.int .i64 0, .int .i64 (0), .string ⟨#[]⟩] 51))
      replace hf2 := hf2.below (below_box x21 (.cells #[.int .i64 0, .int .i64 (0), .string ⟨#[]⟩] 51))
      have hBU : Below w.heap.size w (x21.alloc (.cells #[.int .i64 0, .int .i64 (0), .string ⟨#[]⟩] 51)) := by (repeat' (first | exact Below.refl _ _ | refine bl_set ?_ (by first | (simp; done) | (simp; omega)) _ | (with_reducible assumption) | refine bl_alloc ?_ _ | refine bl_drewN ?_ _ | refine bl_drew ?_ | refine bl ?_ (by with_reducible assumption)))
      generalize hgen : x21.alloc (.cells #[.int .i64 0, .int .i64 (0), .string ⟨#[]⟩] 51) = U at k1 k2 hf1 hf2 hBU ⊢
      clear hgen
      have HLU := Lib.hid (HLd.out.below hBU)
      clear hx16 hx17 hx18 hx19 hx20 hx21 k1 k2 hBW
      go_wp2_with fail
      refine (alive_true _ HLU.out).mono ?_; rintro e x22 ⟨rfl, hx22⟩
      replace hf1 := hf1.below hx22
      replace hf2 := hf2.below hx22
      go_wp2_with fail
      refine (code_hit q1 32 1 _ (HLU.out.below (by (repeat' (first | exact Below.refl _ _ | refine bl_set ?_ (by first | (simp; done) | (simp; omega)) _ | (with_reducible assumption) | refine bl_alloc ?_ _ | refine bl_drewN ?_ _ | refine bl_drew ?_ | refine bl ?_ (by with_reducible assumption))))) hf1).mono ?_; rintro e x23 ⟨rfl, hx23⟩
      replace hf1 := hf1.below hx23
      replace hf2 := hf2.below hx23
      go_wp2_with fail
      refine (at_hit q1 32 1 _ (HLU.out.below (by (repeat' (first | exact Below.refl _ _ | refine bl_set ?_ (by first | (simp; done) | (simp; omega)) _ | (with_reducible assumption) | refine bl_alloc ?_ _ | refine bl_drewN ?_ _ | refine bl_drew ?_ | refine bl ?_ (by with_reducible assumption))))) hf1).mono ?_; rintro e x24 ⟨rfl, hx24⟩
      replace hf1 := hf1.below hx24
      replace hf2 := hf2.below hx24
      go_wp2_with fail
      refine (code_hit q2 32 1 _ (HLU.out.below (by (repeat' (first | exact Below.refl _ _ | refine bl_set ?_ (by first | (simp; done) | (simp; omega)) _ | (with_reducible assumption) | refine bl_alloc ?_ _ | refine bl_drewN ?_ _ | refine bl_drew ?_ | refine bl ?_ (by with_reducible assumption))))) hf2).mono ?_; rintro e x25 ⟨rfl, hx25⟩
      replace hf1 := hf1.below hx25
      replace hf2 := hf2.below hx25
      go_wp2
      (apply hR.out; clear hR; go_tidy)
      exact ⟨rfl, bl hBU (by (repeat' (first | exact Below.refl _ _ | refine bl_set ?_ (by first | (simp; done) | (simp; omega)) _ | (with_reducible assumption) | refine bl_alloc ?_ _ | refine bl_drewN ?_ _ | refine bl_drew ?_ | refine bl ?_ (by with_reducible assumption))))⟩
    case neg =>
      have e7 : IntKind.i64.wrap (a.tdiv b) = a.tdiv b := by have := tdiv_small (x := a) (y := b) (B := 1048576) (by omega) (by omega); simp only [IntKind.wrap_i64, wrap64]; omega
      have e8 : IntKind.i64.wrap ((a * 10000).tdiv b) = (a * 10000).tdiv b := by have := tdiv_small (x := a * 10000) (y := b) (B := 10485760000) (by omega) (by omega); simp only [IntKind.wrap_i64, wrap64]; omega
      have tz : (b == 0) = false := by simp [hb]
      go_wp2_with fail
      refine (whole_any _ _).mono ?_; rintro e x16 ⟨rfl, hx16⟩
      go_wp2_with fail
      refine (whole_any _ _).mono ?_; rintro e x17 ⟨rfl, hx17⟩
      go_wp2_with fail
      refine (rk_ok (s_div a0 a1 hb) (num2 (by omega) (by omega)) (num2 (by omega) (by omega)) _).mono ?_; rintro e x18 ⟨rfl, hx18⟩
      go_wp2_with fail
      refine (dec_any _ _).mono ?_; rintro e x19 ⟨rfl, hx19⟩
      have k1 := (Bx.new _ _ _).below hx19
      go_wp2_with fail
      refine (dec_any _ _).mono ?_; rintro e x20 ⟨rfl, hx20⟩
      replace k1 := k1.below hx20
      go_wp2_with fail
      refine (rk_ok (s_ddiv a0 a1 hb) (num3 (by omega) (by omega)) (num3 (by omega) (by omega)) _).mono ?_; rintro e x21 ⟨rfl, hx21⟩
      replace k1 := k1.below hx21
      go_upto_region 14 with (fail)
      have k2 := Bx.new x21 #[.int .i64 3, .int .i64 ((a * 10000).tdiv b), .string ⟨#[]⟩] 51
      replace k1 := k1.alloc (.cells #[.int .i64 3, .int .i64 ((a * 10000).tdiv b), .string ⟨#[]⟩] 51)
      have hBU : Below w.heap.size w (x21.alloc (.cells #[.int .i64 3, .int .i64 ((a * 10000).tdiv b), .string ⟨#[]⟩] 51)) := by (repeat' (first | exact Below.refl _ _ | refine bl_set ?_ (by first | (simp; done) | (simp; omega)) _ | (with_reducible assumption) | refine bl_alloc ?_ _ | refine bl_drewN ?_ _ | refine bl_drew ?_ | refine bl ?_ (by with_reducible assumption)))
      generalize hgen : x21.alloc (.cells #[.int .i64 3, .int .i64 ((a * 10000).tdiv b), .string ⟨#[]⟩] 51) = U at k1 k2 hBU ⊢
      clear hgen
      have HLU := Lib.hid (HLd.out.below hBU)
      generalize x18.heap.size = p6 at k1 ⊢
      generalize x21.heap.size = p7 at k2 ⊢
      have hmk2 : Hid (∀ w', Below U.heap.size U w' → (fun w' => (∀ i : Nat, w'.cell? ⟨p6, i, none⟩ = (#[.int .i64 2, .int .i64 (a.tdiv b), .string ⟨#[]⟩] : Array Value)[i]?) ∧ (∀ i : Nat, w'.cell? ⟨p7, i, none⟩ = (#[.int .i64 3, .int .i64 ((a * 10000).tdiv b), .string ⟨#[]⟩] : Array Value)[i]?) ∧ Below U.heap.size U w') w') := Lib.hid fun w' h => ⟨(k1.below h).cell, (k2.below h).cell, h⟩
      have ck1 : ∀ i : Nat, U.cell? ⟨p6, i, none⟩ = (#[.int .i64 2, .int .i64 (a.tdiv b), .string ⟨#[]⟩] : Array Value)[i]? := k1.cell
      have ck2 : ∀ i : Nat, U.cell? ⟨p7, i, none⟩ = (#[.int .i64 3, .int .i64 ((a * 10000).tdiv b), .string ⟨#[]⟩] : Array Value)[i]? := k2.cell
      go_cut [4] from 168 to 193 (fun t wy => t = .bool true ∧ (fun w' => (∀ i : Nat, w'.cell? ⟨p6, i, none⟩ = (#[.int .i64 2, .int .i64 (a.tdiv b), .string ⟨#[]⟩] : Array Value)[i]?) ∧ (∀ i : Nat, w'.cell? ⟨p7, i, none⟩ = (#[.int .i64 3, .int .i64 ((a * 10000).tdiv b), .string ⟨#[]⟩] : Array Value)[i]?) ∧ Below U.heap.size U w') wy)
      case first =>
        clear hx16 hx17 hx18 hx19 hx20 hx21 k1 k2 hBW
        go_region_held3 (fun w' => (∀ i : Nat, w'.cell? ⟨p6, i, none⟩ = (#[.int .i64 2, .int .i64 (a.tdiv b), .string ⟨#[]⟩] : Array Value)[i]?) ∧ (∀ i : Nat, w'.cell? ⟨p7, i, none⟩ = (#[.int .i64 3, .int .i64 ((a * 10000).tdiv b), .string ⟨#[]⟩] : Array Value)[i]?) ∧ Below U.heap.size U w') ((refine hmk2.out _ ?_; exact by (repeat' (first | exact Below.refl _ _ | refine bl_set ?_ (by first | (simp; done) | (simp; omega)) _ | (with_reducible assumption) | refine bl_alloc ?_ _ | refine bl_drewN ?_ _ | refine bl_drew ?_ | refine bl ?_ (by with_reducible assumption))))) (first | (go_at_call 30; refine (whole_any _ _).mono ?_; rintro e w2 ⟨rfl, hw2⟩) | (go_at_call 31; refine (dec_any _ _).mono ?_; rintro e w2 ⟨rfl, hw2⟩) | (go_at_call 28; refine (alive_true _ ?_).mono ?_; exact HLU.out.below (by assumption : _ ∧ _ ∧ Below U.heap.size U _).2.2; rintro e w2 ⟨rfl, hw2⟩))
        all_goals (go_wp2_with fail; go_meet; exact ⟨rfl, hmk2.out _ (by (repeat' (first | exact Below.refl _ _ | refine bl_set ?_ (by first | (simp; done) | (simp; omega)) _ | (with_reducible assumption) | refine bl_alloc ?_ _ | refine bl_drewN ?_ _ | refine bl_drew ?_ | refine bl ?_ (by with_reducible assumption))))⟩)
      case rest =>
        obtain ⟨rfl, hcut⟩ := hcut
        go_wp2
        (apply hR.out; clear hR; go_tidy)
        exact ⟨rfl, bl hBU hcut.2.2⟩
set_option maxRecDepth 100000 in
theorem small_out0 (a b : Int) (h0 : (a ≤ -1048576)) (w : World) (hl : Laid w) :
    Calls Tryd.prog 8 #[.int .i64 a, .int .i64 b] w fun e w' => e = .returned (.bool true) ∧ Below w.heap.size w w' := by
  have ta0 : decide (a ≤ -1048576) = true := decide_eq_true h0
  have HLd := Lib.hid hl
  clear hl
  refine calls_hide ?_; intro R hR; go_enter Tryd.func8, Tryd.ntmps8
  go_wp2_with fail
  refine (alive_true _ HLd.out).mono ?_; rintro e x1 ⟨rfl, hx1⟩
  go_wp2
  (apply hR.out; clear hR; go_tidy)
  exact ⟨rfl, by (repeat' (first | exact Below.refl _ _ | refine bl_set ?_ (by first | (simp; done) | (simp; omega)) _ | (with_reducible assumption) | refine bl_alloc ?_ _ | refine bl_drewN ?_ _ | refine bl_drew ?_ | refine bl ?_ (by with_reducible assumption)))⟩
set_option maxRecDepth 100000 in
theorem small_out1 (a b : Int) (h0 : ¬ (a ≤ -1048576)) (h1 : (1048576 ≤ a)) (w : World) (hl : Laid w) :
    Calls Tryd.prog 8 #[.int .i64 a, .int .i64 b] w fun e w' => e = .returned (.bool true) ∧ Below w.heap.size w w' := by
  have ta0 : decide (a ≤ -1048576) = false := decide_eq_false h0
  have ta1 : decide (1048576 ≤ a) = true := decide_eq_true h1
  have HLd := Lib.hid hl
  clear hl
  refine calls_hide ?_; intro R hR; go_enter Tryd.func8, Tryd.ntmps8
  go_wp2_with fail
  refine (alive_true _ HLd.out).mono ?_; rintro e x1 ⟨rfl, hx1⟩
  go_wp2
  (apply hR.out; clear hR; go_tidy)
  exact ⟨rfl, by (repeat' (first | exact Below.refl _ _ | refine bl_set ?_ (by first | (simp; done) | (simp; omega)) _ | (with_reducible assumption) | refine bl_alloc ?_ _ | refine bl_drewN ?_ _ | refine bl_drew ?_ | refine bl ?_ (by with_reducible assumption)))⟩
set_option maxRecDepth 100000 in
theorem small_out2 (a b : Int) (h0 : ¬ (a ≤ -1048576)) (h1 : ¬ (1048576 ≤ a)) (h2 : (b ≤ -1048576)) (w : World) (hl : Laid w) :
    Calls Tryd.prog 8 #[.int .i64 a, .int .i64 b] w fun e w' => e = .returned (.bool true) ∧ Below w.heap.size w w' := by
  have ta0 : decide (a ≤ -1048576) = false := decide_eq_false h0
  have ta1 : decide (1048576 ≤ a) = false := decide_eq_false h1
  have tb0 : decide (b ≤ -1048576) = true := decide_eq_true h2
  have HLd := Lib.hid hl
  clear hl
  refine calls_hide ?_; intro R hR; go_enter Tryd.func8, Tryd.ntmps8
  go_wp2_with fail
  refine (alive_true _ HLd.out).mono ?_; rintro e x1 ⟨rfl, hx1⟩
  go_wp2
  (apply hR.out; clear hR; go_tidy)
  exact ⟨rfl, by (repeat' (first | exact Below.refl _ _ | refine bl_set ?_ (by first | (simp; done) | (simp; omega)) _ | (with_reducible assumption) | refine bl_alloc ?_ _ | refine bl_drewN ?_ _ | refine bl_drew ?_ | refine bl ?_ (by with_reducible assumption)))⟩
set_option maxRecDepth 100000 in
theorem small_out3 (a b : Int) (h0 : ¬ (a ≤ -1048576)) (h1 : ¬ (1048576 ≤ a)) (h2 : ¬ (b ≤ -1048576)) (h3 : (1048576 ≤ b)) (w : World) (hl : Laid w) :
    Calls Tryd.prog 8 #[.int .i64 a, .int .i64 b] w fun e w' => e = .returned (.bool true) ∧ Below w.heap.size w w' := by
  have ta0 : decide (a ≤ -1048576) = false := decide_eq_false h0
  have ta1 : decide (1048576 ≤ a) = false := decide_eq_false h1
  have tb0 : decide (b ≤ -1048576) = false := decide_eq_false h2
  have tb1 : decide (1048576 ≤ b) = true := decide_eq_true h3
  have HLd := Lib.hid hl
  clear hl
  refine calls_hide ?_; intro R hR; go_enter Tryd.func8, Tryd.ntmps8
  go_wp2_with fail
  refine (alive_true _ HLd.out).mono ?_; rintro e x1 ⟨rfl, hx1⟩
  go_wp2
  (apply hR.out; clear hR; go_tidy)
  exact ⟨rfl, by (repeat' (first | exact Below.refl _ _ | refine bl_set ?_ (by first | (simp; done) | (simp; omega)) _ | (with_reducible assumption) | refine bl_alloc ?_ _ | refine bl_drewN ?_ _ | refine bl_drew ?_ | refine bl ?_ (by with_reducible assumption)))⟩
theorem small_true (a b : Int) (w : World) (hl : Laid w) :
    Calls Tryd.prog 8 #[.int .i64 a, .int .i64 b] w fun e w' => e = .returned (.bool true) ∧ Below w.heap.size w w' := by
  by_cases h0 : a ≤ -1048576
  · exact small_out0 a b h0 w hl
  by_cases h1 : 1048576 ≤ a
  · exact small_out1 a b h0 h1 w hl
  by_cases h2 : b ≤ -1048576
  · exact small_out2 a b h0 h1 h2 w hl
  by_cases h3 : 1048576 ≤ b
  · exact small_out3 a b h0 h1 h2 h3 w hl
  exact small_in a b (by omega) (by omega) (by omega) (by omega) w hl
end Go.Proofs.YtdlmcgflgdmjgaaDoor
