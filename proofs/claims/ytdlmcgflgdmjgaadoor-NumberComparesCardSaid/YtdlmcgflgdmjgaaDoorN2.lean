/- math/bits.Div64: the quotient of two words by one. -/
import Derived.Test.YtdlmcgflgdmjgaaDoorN1
import Derived.Test.YtdlmcgflgdmjgaaDoorDiv
import Derived.Deep.DeepCutAuto
import Derived.Deep.CutBlock
import Derived.Laws.BitsAllLaws
set_option linter.unusedVariables false
set_option linter.unusedSimpArgs false
namespace Go.Proofs.YtdlmcgflgdmjgaaDoor
open Go.RowKit

/-- How far a word is shifted till its top bit is 1. -/
theorem lz_any (z : Nat) (h0 : 0 < z) (h2 : z < 18446744073709551616) (w : World) :
    Calls Tryd.prog 80 #[.int .u64 z] w fun e w' => ∃ s : Nat, e = .returned (.int .i64 s) ∧ s ≤ 63 ∧ Hid (9223372036854775808 ≤ z * 2 ^ s ∧ z * 2 ^ s < 18446744073709551616) ∧ w = w' := by
  refine (Tryd.bits_LeadingZeros64 z w (by omega) (by omega)).mono fun e w' ⟨he, hw⟩ => ?_
  obtain ⟨a, b, c, d⟩ := bitLen_shifted h0 h2
  refine ⟨64 - Lib.bitLen z, ?_, by omega, Lib.hid ⟨c, d⟩, hw.symm⟩
  rw [he, Int.toNat_natCast]; congr 2; omega
theorem u64_nat {n : Nat} (h : n < 18446744073709551616) : IntKind.u64.wrap (n : Int) = n := by simp only [IntKind.wrap_u64]; omega
theorem div64_low (lo z : Nat) (hz : 0 < z) (h2 : z < 18446744073709551616) (h1 : lo < 18446744073709551616) (w : World) :
    Calls Tryd.prog 68 #[.int .u64 0, .int .u64 lo, .int .u64 z] w fun e w' => ∃ (q : Nat) (r : Int), e = .returned (.tuple #[.int .u64 q, .int .u64 r]) ∧ q < 18446744073709551616 ∧ Hid (q = lo / z) ∧ Below w.heap.size w w' := by
  have hq : lo / z < 18446744073709551616 := Nat.lt_of_le_of_lt (Nat.div_le_self _ _) h1
  have e1 : IntKind.u64.wrap (↑lo / ↑z) = ((lo / z : Nat) : Int) := by
    rw [← Int.natCast_ediv]; exact u64_nat hq
  obtain ⟨q, HQ⟩ : ∃ q, Hid (q = lo / z) := ⟨_, Lib.hid rfl⟩
  rw [← HQ.out] at hq e1 ⊢
  refine calls_hide ?_; intro R hR; go_enter Tryd.func68, Tryd.ntmps68
  go_wp2
  go_quiet (fail)
  go_wp2
  all_goals (apply hR.out; clear hR; go_tidy)
  exact ⟨q, _, rfl, by omega, Lib.hid rfl, by (repeat' (first | exact Below.refl _ _ | (with_reducible assumption) | refine bl_alloc ?_ _ | refine bl_drewN ?_ _ | refine bl_drew ?_ | refine blw ?_ (by with_reducible assumption)))⟩
/-- What the loop for one digit keeps. -/
def DG (Y U d qh rh : Nat) : Prop := (U * 4294967296 + d) / Y ≤ qh ∧ qh * (Y / 4294967296) + rh = U
theorem dg_init {Y U d : Nat} (hY : 9223372036854775808 ≤ Y) (hY2 : Y < 18446744073709551616) (hU : U < Y) (hd : d < 4294967296) :
    ∃ qa ra : Nat, IntKind.u64.wrap (↑U / (↑Y / 4294967296)) = (qa : Int) ∧ IntKind.u64.wrap (↑U - IntKind.u64.wrap (↑qa * (↑Y / 4294967296))) = (ra : Int) ∧ qa ≤ 4294967297 ∧ ra < 4294967296 ∧ DG Y U d qa ra := by
  obtain ⟨a, b, c, e⟩ := dg_start hY hY2 hU hd
  refine ⟨U / (Y / 4294967296), U % (Y / 4294967296), ?_, ?_, b, e, a, c⟩
  · rw [show ((4294967296 : Int)) = ((4294967296 : Nat) : Int) from rfl, ← Int.natCast_ediv, ← Int.natCast_ediv]; exact u64_nat (by omega)
  · rw [show ((4294967296 : Int)) = ((4294967296 : Nat) : Int) from rfl, ← Int.natCast_ediv, ← Int.natCast_mul]
    generalize U / (Y / 4294967296) * (Y / 4294967296) = x at *
    generalize U % (Y / 4294967296) = y at *
    simp only [IntKind.wrap_u64]; omega
theorem dg_prod {Y U d qh rh : Nat} (hq : qh < 4294967296) (h : DG Y U d qh rh) (hY : 0 < Y) {Y0 : Nat} (h0 : Y0 = Y % 4294967296) :
    ∃ p : Nat, IntKind.u64.wrap (↑qh * ↑Y0) = (p : Int) ∧ Hid (p > 4294967296 * rh + d ↔ (U * 4294967296 + d) / Y < qh) := by
  have hm : Y0 < 4294967296 := by omega
  have hp : qh * Y0 < 4294967296 * 4294967296 := Nat.mul_lt_mul'' hq hm
  refine ⟨qh * Y0, ?_, Lib.hid (by subst h0; exact dg_test hY h.2)⟩
  rw [← Int.natCast_mul]; simp only [IntKind.wrap_u64]; omega
/-- The rest behind the first digit. -/
theorem dg_rest {Y U d : Nat} (hY2 : Y < 18446744073709551616) (hY : 0 < Y) {q : Nat} (hq : q = (U * 4294967296 + d) / Y) {x : Int} (hx : x = d) :
    ∃ r : Nat, IntKind.u64.wrap (IntKind.u64.wrap (IntKind.u64.wrap (↑U * 4294967296) + x) - IntKind.u64.wrap (↑q * ↑Y)) = (r : Int) ∧ r < Y ∧ Hid (r = (U * 4294967296 + d) % Y) := by
  refine ⟨(U * 4294967296 + d) % Y, ?_, Nat.mod_lt _ hY, Lib.hid rfl⟩
  have h := Nat.div_add_mod (U * 4294967296 + d) Y
  have h2 : (U * 4294967296 + d) % Y < Y := Nat.mod_lt _ hY
  rw [← hq] at h
  subst hx
  rw [← Int.natCast_mul, Nat.mul_comm q Y]
  generalize (U * 4294967296 + d) % Y = r at *
  generalize Y * q = m at *
  simp only [IntKind.wrap_u64]; omega
theorem two_digits {Y U L q : Nat} (hY : 0 < Y) {q1 q0 r : Nat} (h1 : q1 = (U * 4294967296 + L / 4294967296) / Y) (hr : r = (U * 4294967296 + L / 4294967296) % Y) (h0 : q0 = (r * 4294967296 + L % 4294967296) / Y)
    (hq : q = (U * 18446744073709551616 + L) / Y) : q1 * 4294967296 + q0 = q := by
  have e : U * 18446744073709551616 + L = (U * 4294967296 + L / 4294967296) * 4294967296 + L % 4294967296 := by omega
  rw [hq, e, h0, hr, h1]
  exact dg_two hY
theorem bits_and32 {n : Nat} (h : n < 18446744073709551616) : bits BinOp.and IntKind.u64 (n : Int) 4294967295 = ((n % 4294967296 : Nat) : Int) := by
  have := u64_and_nat n 4294967295 h (by omega)
  rw [show ((4294967295 : Int)) = ((4294967295 : Nat) : Int) from rfl, this]
  congr 1
  exact Nat.and_two_pow_sub_one_eq_mod n 32
theorem div_shift {hi lo z s : Nat} (hz : hi < z) (h1 : lo < 18446744073709551616) (hs : s ≤ 63) (hy : 9223372036854775808 ≤ z * 2 ^ s ∧ z * 2 ^ s < 18446744073709551616) :
    ∃ U L : Nat, U < z * 2 ^ s ∧ L < 18446744073709551616 ∧ bits BinOp.or IntKind.u64 (IntKind.u64.wrap (↑hi * 2 ^ s)) (↑lo / 2 ^ (64 - s)) = (U : Int) ∧ IntKind.u64.wrap (↑lo * 2 ^ s) = (L : Int) ∧ (hi * 18446744073709551616 + lo) / z = (U * 18446744073709551616 + L) / (z * 2 ^ s) := by
  have hp : 2 ^ (64 - s) * 2 ^ s = 18446744073709551616 := by rw [← Nat.pow_add, show 64 - s + s = 64 by omega]
  have hpos : 0 < 2 ^ (64 - s) := Nat.two_pow_pos _
  have hlt : lo / 2 ^ (64 - s) < 2 ^ s := by rw [Nat.div_lt_iff_lt_mul hpos, Nat.mul_comm, hp]; exact h1
  have hu : hi * 2 ^ s + lo / 2 ^ (64 - s) < z * 2 ^ s := by
    have : (hi + 1) * 2 ^ s ≤ z * 2 ^ s := Nat.mul_le_mul_right _ hz
    rw [Nat.add_mul] at this; omega
  have hdm := Nat.div_add_mod lo (2 ^ (64 - s))
  have hmm : lo % 2 ^ (64 - s) < 2 ^ (64 - s) := Nat.mod_lt _ hpos
  have hL : lo * 2 ^ s = lo / 2 ^ (64 - s) * 18446744073709551616 + lo % 2 ^ (64 - s) * 2 ^ s := by
    conv => lhs; rw [← hdm]
    rw [Nat.add_mul, ← hp, Nat.mul_comm (2 ^ (64 - s)) (lo / 2 ^ (64 - s)), Nat.mul_assoc]
  have hLl : lo % 2 ^ (64 - s) * 2 ^ s < 18446744073709551616 := by rw [← hp]; exact Nat.mul_lt_mul_of_pos_right hmm (Nat.two_pow_pos _)
  refine ⟨hi * 2 ^ s + lo / 2 ^ (64 - s), lo % 2 ^ (64 - s) * 2 ^ s, hu, hLl, ?_, ?_, ?_⟩
  · have e1 : (hi : Int) * 2 ^ s = ((hi * 2 ^ s : Nat) : Int) := by simp
    have e2 : (lo : Int) / 2 ^ (64 - s) = ((lo / 2 ^ (64 - s) : Nat) : Int) := by simp
    rw [e1, e2, u64_nat (by omega), u64_or_nat _ _ (by omega) (by omega), Nat.mul_comm hi, Nat.two_pow_add_eq_or_of_lt hlt]
  · have e1 : (lo : Int) * 2 ^ s = ((lo * 2 ^ s : Nat) : Int) := by simp
    rw [e1, hL]
    generalize lo % 2 ^ (64 - s) * 2 ^ s = x at *
    simp only [IntKind.wrap_u64]; omega
  · have e : (hi * 2 ^ s + lo / 2 ^ (64 - s)) * 18446744073709551616 + lo % 2 ^ (64 - s) * 2 ^ s = (hi * 18446744073709551616 + lo) * 2 ^ s := by
      rw [Nat.add_mul, Nat.add_assoc, ← hL, Nat.add_mul, Nat.mul_right_comm]
    rw [e, dv_shift]
set_option maxRecDepth 100000 in
theorem div64_high (hi lo z : Nat) (h0 : 0 < hi) (hz : hi < z) (h2 : z < 18446744073709551616) (h1 : lo < 18446744073709551616) (w : World) :
    Calls Tryd.prog 68 #[.int .u64 hi, .int .u64 lo, .int .u64 z] w fun e w' => ∃ (q : Nat) (r : Int), e = .returned (.tuple #[.int .u64 q, .int .u64 r]) ∧ q < 18446744073709551616 ∧ Hid (q = (hi * 18446744073709551616 + lo) / z) ∧ Below w.heap.size w w' := by
  have hx : ∀ s : Nat, s ≤ 63 → Hid (9223372036854775808 ≤ z * 2 ^ s ∧ z * 2 ^ s < 18446744073709551616) → ∃ Y Y0 U L L0 qa ra : Nat, (9223372036854775808 ≤ Y ∧ Y < 18446744073709551616 ∧ U < Y ∧ L < 18446744073709551616 ∧ Y0 < 4294967296 ∧ L0 < 4294967296) ∧
      IntKind.u64.wrap (↑z * 2 ^ s) = (Y : Int) ∧ bits BinOp.or IntKind.u64 (IntKind.u64.wrap (↑hi * 2 ^ s)) (↑lo / 2 ^ (64 - s)) = (U : Int) ∧ IntKind.u64.wrap (↑lo * 2 ^ s) = (L : Int) ∧ bits BinOp.and IntKind.u64 (Y : Int) 4294967295 = (Y0 : Int) ∧ bits BinOp.and IntKind.u64 (L : Int) 4294967295 = (L0 : Int) ∧
      IntKind.u64.wrap (↑U / (↑Y / 4294967296)) = (qa : Int) ∧ IntKind.u64.wrap (↑U - IntKind.u64.wrap (↑qa * (↑Y / 4294967296))) = (ra : Int) ∧ qa ≤ 4294967297 ∧ ra < 4294967296 ∧
      Hid (DG Y U (L / 4294967296) qa ra) ∧ Hid (Y0 = Y % 4294967296 ∧ L0 = L % 4294967296 ∧ (hi * 18446744073709551616 + lo) / z = (U * 18446744073709551616 + L) / Y) := by
    intro s hs hy
    obtain ⟨U, L, a, b, c, d, e⟩ := div_shift hz h1 hs hy.out
    obtain ⟨qa, ra, f1, f2, f3, f4, f5⟩ := dg_init (d := L / 4294967296) hy.out.1 hy.out.2 a (by omega)
    refine ⟨z * 2 ^ s, z * 2 ^ s % 4294967296, U, L, L % 4294967296, qa, ra, ⟨hy.out.1, hy.out.2, a, b, Nat.mod_lt _ (by omega), Nat.mod_lt _ (by omega)⟩, ?_, c, d, bits_and32 hy.out.2, bits_and32 b, f1, f2, f3, f4, Lib.hid f5, Lib.hid ⟨rfl, rfl, e⟩⟩
    have e1 : (z : Int) * 2 ^ s = ((z * 2 ^ s : Nat) : Int) := by simp
    rw [e1, u64_nat hy.out.2]
  refine calls_hide ?_; intro R hR; go_enter Tryd.func68, Tryd.ntmps68
  go_upto_block 0 with (go_at_call 80; refine (lz_any _ (by omega) (by omega) _).mono ?_; rintro e w' ⟨s, rfl, hs, hy, rfl⟩; obtain ⟨Y, Y0, U, L, L0, qa, ra, ⟨b1, b2, b3, b4, b5, b6⟩, e1, e2, e3, e4, e5, e6, e7, c1, c2, hdg, hN⟩ := hx s hs hy)
  clear e1 e2 e3 e4 e5 e6 e7 hx hy
  go_cut [15] (fun t w' => t = .int .u64 ((U * 4294967296 + L / 4294967296) / Y : Nat) ∧ w = w')
  case first =>
    go_wp2_with fail
    go_loop [15, 16] (fun t15 t16 => ∃ qh rh : Nat, t15 = .int .u64 qh ∧ t16 = .int .u64 rh ∧ qh ≤ 4294967297 ∧ rh < 4294967296 ∧ Hid (DG Y U (L / 4294967296) qh rh)) (fun t15 _ => (intOf t15).toNat)
    case atStart => exact ⟨_, _, rfl, rfl, c1, c2, hdg⟩
    case round =>
      obtain ⟨qh, rh, rfl, rfl, d1, d2, hd⟩ := hrel
      have hlt := dg_lt (d := L / 4294967296) b3 (by omega)
      have hge := hd.out.1
      by_cases ht : (U * 4294967296 + L / 4294967296) / Y < qh
      · have hq1 : 1 ≤ qh := Nat.lt_of_le_of_lt (Nat.zero_le _) ht
        have hd' : DG Y U (L / 4294967296) (qh - 1) (rh + Y / 4294967296) := ⟨by omega, by
          have := hd.out.2
          obtain ⟨m, rfl⟩ : ∃ m, qh = m + 1 := ⟨qh - 1, by omega⟩
          rw [Nat.add_mul] at this; rw [Nat.add_sub_cancel]; omega⟩
        have hD := Lib.hid hd'
        clear hd'
        have hw1 : rh + Y / 4294967296 < 8589934592 := by omega
        have hx : IntKind.u64.wrap (↑qh - 1) = ((qh - 1 : Nat) : Int) := by simp only [IntKind.wrap_u64]; omega
        by_cases hc : 4294967296 ≤ rh + Y / 4294967296
        · have hc' : (4294967296 : Int) ≤ (rh : Int) + (Y : Int) / 4294967296 := by omega
          have hend := Lib.hid (dg_end (d := L / 4294967296) (by omega) (by omega) hD.out.2 (by omega) hc)
          have hge' := Lib.hid hD.out.1
          by_cases hb : 4294967296 ≤ qh
          · have hb' : (4294967296 : Int) ≤ (qh : Int) := by omega
            clear ht hlt hb hc hge
            go_wp2
            go_meet
            exact ⟨by rw [Nat.le_antisymm hge'.out hend.out], rfl⟩
          · obtain ⟨p, hp, hP⟩ := dg_prod (by omega) hd.out (by omega) hN.out.1
            have hP' : 4294967296 * (rh : Int) + (L : Int) / 4294967296 < p := by have := hP.out.2 ht; omega
            have hb' : decide ((4294967296 : Int) ≤ (qh : Int)) = false := decide_eq_false (by omega)
            clear ht hlt hb hc hge
            go_wp2
            go_meet
            exact ⟨by rw [Nat.le_antisymm hge'.out hend.out], rfl⟩
        · have hc' : decide ((4294967296 : Int) ≤ (rh : Int) + (Y : Int) / 4294967296) = false := decide_eq_false (by omega)
          have hcN := Lib.hid (Nat.not_le.1 hc)
          by_cases hb : 4294967296 ≤ qh
          · have hb' : (4294967296 : Int) ≤ (qh : Int) := by omega
            clear ht hlt hb hc hge
            go_wp2
            go_round
            case rel => exact ⟨qh - 1, rh + Y / 4294967296, rfl, by simp, by omega, hcN.out, hD⟩
            case measure => simp [intOf]; omega
          · obtain ⟨p, hp, hP⟩ := dg_prod (by omega) hd.out (by omega) hN.out.1
            have hP' : 4294967296 * (rh : Int) + (L : Int) / 4294967296 < p := by have := hP.out.2 ht; omega
            have hb' : decide ((4294967296 : Int) ≤ (qh : Int)) = false := decide_eq_false (by omega)
            clear ht hlt hb hc hge
            go_wp2
            go_round
            case rel => exact ⟨qh - 1, rh + Y / 4294967296, rfl, by simp, by omega, hcN.out, hD⟩
            case measure => simp [intOf]; omega
      · have he : qh = (U * 4294967296 + L / 4294967296) / Y := Nat.le_antisymm (Nat.not_lt.1 ht) hge
        obtain ⟨p, hp, hP⟩ := dg_prod (by omega) hd.out (by omega) hN.out.1
        have hP' : decide (4294967296 * (rh : Int) + (L : Int) / 4294967296 < (p : Int)) = false := decide_eq_false (by have := mt hP.out.1 ht; omega)
        have hb' : decide ((4294967296 : Int) ≤ (qh : Int)) = false := decide_eq_false (by omega)
        have hE := Lib.hid he
        clear ht hlt hge he
        go_wp2
        go_meet
        exact ⟨by rw [hE.out], rfl⟩
  case rest =>
    obtain ⟨rfl, rfl⟩ := hcut
    obtain ⟨q1, hQ1⟩ : ∃ q1, Hid (q1 = (U * 4294967296 + L / 4294967296) / Y) := ⟨_, Lib.hid rfl⟩
    have hq1 : q1 < 4294967296 := by rw [hQ1.out]; exact dg_lt b3 (by omega)
    rw [← hQ1.out]
    obtain ⟨R1, r0, r1, hR1⟩ := dg_rest b2 (by omega) hQ1.out (x := (L : Int) / 4294967296) (by omega)
    obtain ⟨qb, rb, f1, f2, f3, f4, hdg2'⟩ := dg_init b1 b2 r1 b6
    have hdg2 := Lib.hid hdg2'
    clear hdg2'
    go_upto_block 2 with (fail)
    clear r0 f1 f2
    go_cut [18] (fun t w' => t = .int .u64 ((R1 * 4294967296 + L0) / Y : Nat) ∧ w = w')
    case first =>
      go_wp2_with fail
      go_loop [18, 16] (fun t15 t16 => ∃ qh rh : Nat, t15 = .int .u64 qh ∧ t16 = .int .u64 rh ∧ qh ≤ 4294967297 ∧ rh < 4294967296 ∧ Hid (DG Y R1 (L0) qh rh)) (fun t15 _ => (intOf t15).toNat)
      case atStart => exact ⟨_, _, rfl, rfl, f3, f4, hdg2⟩
      case round =>
        obtain ⟨qh, rh, rfl, rfl, d1, d2, hd⟩ := hrel
        have hlt := dg_lt (d := L0) r1 b6
        have hge := hd.out.1
        by_cases ht : (R1 * 4294967296 + L0) / Y < qh
        · have hq1 : 1 ≤ qh := Nat.lt_of_le_of_lt (Nat.zero_le _) ht
          have hd' : DG Y R1 (L0) (qh - 1) (rh + Y / 4294967296) := ⟨by omega, by
            have := hd.out.2
            obtain ⟨m, rfl⟩ : ∃ m, qh = m + 1 := ⟨qh - 1, by omega⟩
            rw [Nat.add_mul] at this; rw [Nat.add_sub_cancel]; omega⟩
          have hD := Lib.hid hd'
          clear hd'
          have hw1 : rh + Y / 4294967296 < 8589934592 := by omega
          have hx : IntKind.u64.wrap (↑qh - 1) = ((qh - 1 : Nat) : Int) := by simp only [IntKind.wrap_u64]; omega
          by_cases hc : 4294967296 ≤ rh + Y / 4294967296
          · have hc' : (4294967296 : Int) ≤ (rh : Int) + (Y : Int) / 4294967296 := by omega
            have hend := Lib.hid (dg_end (d := L0) (by omega) b6 hD.out.2 (by omega) hc)
            have hge' := Lib.hid hD.out.1
            by_cases hb : 4294967296 ≤ qh
            · have hb' : (4294967296 : Int) ≤ (qh : Int) := by omega
              clear ht hlt hb hc hge
              go_wp2
              go_meet
              exact ⟨by rw [Nat.le_antisymm hge'.out hend.out], rfl⟩
            · obtain ⟨p, hp, hP⟩ := dg_prod (by omega) hd.out (by omega) hN.out.1
              have hP' : 4294967296 * (rh : Int) + (L0 : Int) < p := by have := hP.out.2 ht; omega
              have hb' : decide ((4294967296 : Int) ≤ (qh : Int)) = false := decide_eq_false (by omega)
              clear ht hlt hb hc hge
              go_wp2
              go_meet
              exact ⟨by rw [Nat.le_antisymm hge'.out hend.out], rfl⟩
          · have hc' : decide ((4294967296 : Int) ≤ (rh : Int) + (Y : Int) / 4294967296) = false := decide_eq_false (by omega)
            have hcN := Lib.hid (Nat.not_le.1 hc)
            by_cases hb : 4294967296 ≤ qh
            · have hb' : (4294967296 : Int) ≤ (qh : Int) := by omega
              clear ht hlt hb hc hge
              go_wp2
              go_round
              case rel => exact ⟨qh - 1, rh + Y / 4294967296, rfl, by simp, by omega, hcN.out, hD⟩
              case measure => simp [intOf]; omega
            · obtain ⟨p, hp, hP⟩ := dg_prod (by omega) hd.out (by omega) hN.out.1
              have hP' : 4294967296 * (rh : Int) + (L0 : Int) < p := by have := hP.out.2 ht; omega
              have hb' : decide ((4294967296 : Int) ≤ (qh : Int)) = false := decide_eq_false (by omega)
              clear ht hlt hb hc hge
              go_wp2
              go_round
              case rel => exact ⟨qh - 1, rh + Y / 4294967296, rfl, by simp, by omega, hcN.out, hD⟩
              case measure => simp [intOf]; omega
        · have he : qh = (R1 * 4294967296 + L0) / Y := Nat.le_antisymm (Nat.not_lt.1 ht) hge
          obtain ⟨p, hp, hP⟩ := dg_prod (by omega) hd.out (by omega) hN.out.1
          have hP' : decide (4294967296 * (rh : Int) + (L0 : Int) < (p : Int)) = false := decide_eq_false (by have := mt hP.out.1 ht; omega)
          have hb' : decide ((4294967296 : Int) ≤ (qh : Int)) = false := decide_eq_false (by omega)
          have hE := Lib.hid he
          clear ht hlt hge he
          go_wp2
          go_meet
          exact ⟨by rw [hE.out], rfl⟩
    case rest =>
      obtain ⟨rfl, rfl⟩ := hcut
      obtain ⟨q0, hQ0⟩ : ∃ q0, Hid (q0 = (R1 * 4294967296 + L0) / Y) := ⟨_, Lib.hid rfl⟩
      have hq0 : q0 < 4294967296 := by rw [hQ0.out]; exact dg_lt r1 b6
      rw [← hQ0.out]
      go_wp2
      (apply hR.out; clear hR; go_tidy)
      refine ⟨q1 * 4294967296 + q0, _, rfl, by omega, Lib.hid (two_digits (by omega) hQ1.out hR1.out (by rw [hQ0.out, hN.out.2.1]) hN.out.2.2), by (repeat' (first | exact Below.refl _ _ | (with_reducible assumption) | refine bl_alloc ?_ _ | refine bl_drewN ?_ _ | refine bl_drew ?_ | refine blw ?_ (by with_reducible assumption)))⟩
theorem div64_any (hi lo z : Nat) (hz : hi < z) (h2 : z < 18446744073709551616) (h1 : lo < 18446744073709551616) (w : World) :
    Calls Tryd.prog 68 #[.int .u64 hi, .int .u64 lo, .int .u64 z] w fun e w' => ∃ (q : Nat) (r : Int), e = .returned (.tuple #[.int .u64 q, .int .u64 r]) ∧ q < 18446744073709551616 ∧ Hid (q = (hi * 18446744073709551616 + lo) / z) ∧ Below w.heap.size w w' := by
  rcases Nat.eq_zero_or_pos hi with rfl | h0
  · simpa using div64_low lo z hz h2 h1 w
  · exact div64_high hi lo z h0 hz h2 h1 w
end Go.Proofs.YtdlmcgflgdmjgaaDoor
