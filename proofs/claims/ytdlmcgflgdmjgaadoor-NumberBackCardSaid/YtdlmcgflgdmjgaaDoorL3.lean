/- NumberBack: its walk. -/
import Derived.Test.YtdlmcgflgdmjgaaDoorRk
import Derived.Deep.DeepCutAuto
set_option linter.unusedVariables false
set_option linter.unusedSimpArgs false
namespace Go.Proofs.YtdlmcgflgdmjgaaDoor
open Go.RowKit
theorem kok2 : (2 : Int) = 2 ∨ (2 : Int) = 3 := .inl rfl
theorem kok3 : (3 : Int) = 2 ∨ (3 : Int) = 3 := .inr rfl
set_option maxHeartbeats 4000000 in
set_option maxRecDepth 100000 in
theorem back_w (a b : Int) (a0 : -9223372036854775808 ≤ a) (a1 : a ≤ 9223372036854775807) (b0 : -9223372036854775808 ≤ b) (b1 : b ≤ 9223372036854775807) (w : World) (hl : Laid w) :
    Calls Tryd.prog 10 #[.int .i64 a, .int .i64 b, .bool false] w fun e w' => e = .returned (.bool true) ∧ Below w.heap.size w w' := by
  have HLd := Lib.hid hl
  clear hl
  have heqV := eqV
  have fa : fits a = true := fits_of a0 a1
  have HA : Hid (Num 2 a) := Lib.hid (num_of kok2 fa)
  have HB : Hid (Num 2 b) := Lib.hid (num_of kok2 (fits_of b0 b1))
  have HA2 : Hid (Num 2 a) := Lib.hid (num2 a0 a1)
  have HB2 : Hid (Num 2 b) := Lib.hid (num2 b0 b1)
  have HF : Hid (fits a = true) := Lib.hid fa
  have HBB : Hid (-9223372036854775808 ≤ b ∧ b ≤ 9223372036854775807) := Lib.hid ⟨b0, b1⟩
  clear fa a0 a1 b0 b1
  refine calls_hide ?_; intro R hR; go_enter Tryd.func10, Tryd.ntmps10
  go_wp2_with fail
  refine (whole_any _ _).mono ?_; rintro e x1 ⟨rfl, hx1⟩
  go_wp2_with fail
  refine (whole_any _ _).mono ?_; rintro e x2 ⟨rfl, hx2⟩
  have k1 := (Bx.new _ _ _).below hx2
  go_upto_region 6 with (fail)
  have k2 := Bx.new x2 #[.int .i64 (2), .int .i64 (b), .string ⟨#[]⟩] 51
  replace k1 := k1.alloc (.cells #[.int .i64 (2), .int .i64 (b), .string ⟨#[]⟩] 51)
  have hBW : Below w.heap.size w (x2.alloc (.cells #[.int .i64 (2), .int .i64 (b), .string ⟨#[]⟩] 51)) := by (repeat' (first | exact Below.refl _ _ | refine bl_set ?_ (by first | (simp; done) | (simp; omega)) _ | (with_reducible assumption) | refine bl_alloc ?_ _ | refine bl_drewN ?_ _ | refine bl_drew ?_ | refine bl ?_ (by with_reducible assumption)))
  generalize hgen : x2.alloc (.cells #[.int .i64 (2), .int .i64 (b), .string ⟨#[]⟩] 51) = W at k1 k2 hBW ⊢
  clear hgen
  clear hx1 hx2
  generalize x1.heap.size = A at k1 ⊢
  generalize x2.heap.size = B at k2 ⊢
  have k1 : Bx W A #[.int .i64 (2), .int .i64 (a), .string ⟨#[]⟩] := k1
  have k2 : Bx W B #[.int .i64 (2), .int .i64 (b), .string ⟨#[]⟩] := k2
  have HLW := Lib.hid (HLd.out.below hBW)
  have ck1 := k1.cell; have lk1 := k1.lt
  have ck2 := k2.cell; have lk2 := k2.lt
  go_wp2_with fail
  refine (reckon_any 3 2 a 2 b HA.out HB.out _).mono ?_; rintro e y1 ⟨⟨K1, N1, o1, er1, rfl, hn1, hq1⟩, hy1⟩
  have r1a := hn1.eql; have r1b := hn1.neq; have r1c := hn1.guard
  replace k1 := k1.below hy1
  replace k2 := k2.below hy1
  clear ck1 ck2 lk1 lk2
  go_upto_if 38 with (fail)
  have k3 := Bx.new y1 #[.int .i64 (K1), .int .i64 (N1), .string ⟨#[]⟩] 51
  replace k1 := k1.alloc (.cells #[.int .i64 (K1), .int .i64 (N1), .string ⟨#[]⟩] 51)
  replace k2 := k2.alloc (.cells #[.int .i64 (K1), .int .i64 (N1), .string ⟨#[]⟩] 51)
  have hBU : Below W.heap.size W (y1.alloc (.cells #[.int .i64 (K1), .int .i64 (N1), .string ⟨#[]⟩] 51)) := by (repeat' (first | exact Below.refl _ _ | refine bl_set ?_ (by first | (simp; done) | (simp; omega)) _ | (with_reducible assumption) | refine bl_alloc ?_ _ | refine bl_drewN ?_ _ | refine bl_drew ?_ | refine bl ?_ (by with_reducible assumption)))
  generalize hgen : y1.alloc (.cells #[.int .i64 (K1), .int .i64 (N1), .string ⟨#[]⟩] 51) = U at k1 k2 k3 hBU ⊢
  clear hgen
  generalize y1.heap.size = P at k3 ⊢
  replace HLW := Lib.hid (HLW.out.below hBU)
  replace hBW := bl hBW hBU
  clear hBU hy1
  go_cut [11, 12] from 39 to 51 (fun s t wx => Below U.heap.size U wx)
  case first =>
    cases o1
    case false =>
      go_wp2_with fail
      go_meet
      exact Below.refl _ _
    case true =>
      obtain ⟨rfl, rfl, hf⟩ := add_ok kok2 hq1
      have HFx := Lib.hid hf
      clear hf
      have ck1 := k1.cell; have ck2 := k2.cell; have ck3 := k3.cell
      go_wp2_with fail
      refine (rk_ok (add_back kok2 HF.out) (num_of kok2 HFx.out) HB.out _).mono ?_; rintro e z ⟨rfl, hz⟩
      replace k1 := k1.below hz
      clear ck1 ck2 ck3
      have ck1 := k1.cell; have lk1 := k1.lt
      go_wp2_with fail
      go_meet
      exact by (repeat' (first | exact Below.refl _ _ | refine bl_set ?_ (by first | (simp; done) | (simp; omega)) _ | (with_reducible assumption) | refine bl_alloc ?_ _ | refine bl_drewN ?_ _ | refine bl_drew ?_ | refine bl ?_ (by with_reducible assumption)))
  case rest =>
    replace k1 := k1.below hcut; replace k2 := k2.below hcut
    replace HLW := Lib.hid (HLW.out.below hcut)
    replace hBW := bl hBW hcut
    clear hcut k3 r1a r1b r1c hn1 hq1
    have ck1 := k1.cell; have lk1 := k1.lt
    have ck2 := k2.cell; have lk2 := k2.lt
    go_wp2_with fail
    refine (reckon_any 4 2 a 2 b HA.out HB.out _).mono ?_; rintro e y2 ⟨⟨K2, N2, o2, er2, rfl, hn2, hq2⟩, hy2⟩
    have r2a := hn2.eql; have r2b := hn2.neq; have r2c := hn2.guard
    replace k1 := k1.below hy2
    replace k2 := k2.below hy2
    clear ck1 ck2 lk1 lk2
    go_upto_if 59 with (fail)
    have k3 := Bx.new y2 #[.int .i64 (K2), .int .i64 (N2), .string ⟨#[]⟩] 51
    replace k1 := k1.alloc (.cells #[.int .i64 (K2), .int .i64 (N2), .string ⟨#[]⟩] 51)
    replace k2 := k2.alloc (.cells #[.int .i64 (K2), .int .i64 (N2), .string ⟨#[]⟩] 51)
    have hBU : Below wc.heap.size wc (y2.alloc (.cells #[.int .i64 (K2), .int .i64 (N2), .string ⟨#[]⟩] 51)) := by (repeat' (first | exact Below.refl _ _ | refine bl_set ?_ (by first | (simp; done) | (simp; omega)) _ | (with_reducible assumption) | refine bl_alloc ?_ _ | refine bl_drewN ?_ _ | refine bl_drew ?_ | refine bl ?_ (by with_reducible assumption)))
    generalize hgen : y2.alloc (.cells #[.int .i64 (K2), .int .i64 (N2), .string ⟨#[]⟩] 51) = U2 at k1 k2 k3 hBU ⊢
    clear hgen
    generalize y2.heap.size = P at k3 ⊢
    replace HLW := Lib.hid (HLW.out.below hBU)
    replace hBW := bl hBW hBU
    clear hBU hy2
    go_cut [14, 15] from 60 to 72 (fun s t wx => Below U2.heap.size U2 wx)
    case first =>
      cases o2
      case false =>
        go_wp2_with fail
        go_meet
        exact Below.refl _ _
      case true =>
        obtain ⟨rfl, rfl, hf⟩ := sub_ok kok2 hq2
        have HFx := Lib.hid hf
        clear hf
        have ck1 := k1.cell; have ck2 := k2.cell; have ck3 := k3.cell
        go_wp2_with fail
        refine (rk_ok (sub_back kok2 HF.out) (num_of kok2 HFx.out) HB.out _).mono ?_; rintro e z ⟨rfl, hz⟩
        replace k1 := k1.below hz
        clear ck1 ck2 ck3
        have ck1 := k1.cell; have lk1 := k1.lt
        go_wp2_with fail
        go_meet
        exact by (repeat' (first | exact Below.refl _ _ | refine bl_set ?_ (by first | (simp; done) | (simp; omega)) _ | (with_reducible assumption) | refine bl_alloc ?_ _ | refine bl_drewN ?_ _ | refine bl_drew ?_ | refine bl ?_ (by with_reducible assumption)))
    case rest =>
      replace k1 := k1.below hcut; replace k2 := k2.below hcut
      replace HLW := Lib.hid (HLW.out.below hcut)
      replace hBW := bl hBW hcut
      clear hcut k3 r2a r2b r2c hn2 hq2
      have ck1 := k1.cell; have lk1 := k1.lt
      have ck2 := k2.cell; have lk2 := k2.lt
      go_wp2_with fail
      refine (whole_any _ _).mono ?_; rintro e z1 ⟨rfl, hz1⟩
      go_wp2_with fail
      refine (whole_any _ _).mono ?_; rintro e z2 ⟨rfl, hz2⟩
      go_wp2_with fail
      refine (reckon_any 5 2 a 2 b HA2.out HB2.out _).mono ?_; rintro e y3 ⟨⟨K3, N3, o3, er3, rfl, hn3, hq3⟩, hy3⟩
      have r3a := hn3.eql; have r3b := hn3.neq; have r3c := hn3.guard
      replace k1 := ((k1.below hz1).below hz2).below hy3
      replace k2 := ((k2.below hz1).below hz2).below hy3
      clear ck1 ck2 lk1 lk2
      go_upto_region 17 with (fail)
      have k3 := Bx.new y3 #[.int .i64 (K3), .int .i64 (N3), .string ⟨#[]⟩] 51
      replace k1 := k1.alloc (.cells #[.int .i64 (K3), .int .i64 (N3), .string ⟨#[]⟩] 51)
      replace k2 := k2.alloc (.cells #[.int .i64 (K3), .int .i64 (N3), .string ⟨#[]⟩] 51)
      have hBU : Below wc.heap.size wc (y3.alloc (.cells #[.int .i64 (K3), .int .i64 (N3), .string ⟨#[]⟩] 51)) := by (repeat' (first | exact Below.refl _ _ | refine bl_set ?_ (by first | (simp; done) | (simp; omega)) _ | (with_reducible assumption) | refine bl_alloc ?_ _ | refine bl_drewN ?_ _ | refine bl_drew ?_ | refine bl ?_ (by with_reducible assumption)))
      generalize hgen : y3.alloc (.cells #[.int .i64 (K3), .int .i64 (N3), .string ⟨#[]⟩] 51) = U3 at k1 k2 k3 hBU ⊢
      clear hgen
      generalize y3.heap.size = P at k3 ⊢
      replace HLW := Lib.hid (HLW.out.below hBU)
      replace hBW := bl hBW hBU
      clear hBU hz1 hz2 hy3
      go_cut [86] from 82 to 85 (fun t wx => t = .bool (o3 && (b != 0)) ∧ U3 = wx)
      case first =>
        cases o3
        case false =>
          go_wp2_with fail
          go_meet
          exact ⟨rfl, rfl⟩
        case true =>
          go_wp2_with fail
          go_meet
          exact ⟨rfl, rfl⟩
      case rest =>
        obtain ⟨rfl, rfl⟩ := hcut
        have hcb : (o3 && (b != 0)) = true → o3 = true ∧ b ≠ 0 := fun h => by simpa using h
        have HCB := Lib.hid hcb
        clear hcb
        generalize hcc : (o3 && (b != 0)) = cc at HCB ⊢
        clear hcc
        go_upto_if 86 with (fail)
        go_cut [17, 18] from 87 to 101 (fun s t wx => Below U3.heap.size U3 wx)
        case first =>
          cases cc
          case false =>
            go_wp2_with fail
            go_meet
            exact Below.refl _ _
          case true =>
            obtain ⟨rfl, hb⟩ := HCB.out rfl
            obtain ⟨rfl, rfl, hf⟩ := mul_ok hq3
            have HFx := Lib.hid hf
            clear hf
            have HBN := Lib.hid hb
            clear hb r3a r3b r3c
            go_upto_region 18 with (fail)
            have hmk : Hid (∀ w', Below U3.heap.size U3 w' → (fun w' => (∀ i : Nat, w'.cell? ⟨P, i, none⟩ = (#[.int .i64 (2), .int .i64 (a * b), .string ⟨#[]⟩] : Array Value)[i]?) ∧ Below U3.heap.size U3 w') w') := Lib.hid fun w' h => ⟨(k3.below h).cell, h⟩
            have ck3 : ∀ i : Nat, U3.cell? ⟨P, i, none⟩ = (#[.int .i64 (2), .int .i64 (a * b), .string ⟨#[]⟩] : Array Value)[i]? := k3.cell; have lk3 := k3.lt; have hdr := size_drew
            go_cut [17, 18] from 87 to 93 (fun s t wx => t = .nilIface ∧ (∃ p, s = .pointer (some ⟨p, 0, none⟩) ∧ Bx wx p #[.int .i64 (2), .int .i64 (a), .string ⟨#[]⟩]) ∧ Below U3.heap.size U3 wx)
            case first =>
              go_region_held3 (fun w' => (∀ i : Nat, w'.cell? ⟨P, i, none⟩ = (#[.int .i64 (2), .int .i64 (a * b), .string ⟨#[]⟩] : Array Value)[i]?) ∧ Below U3.heap.size U3 w') ((refine hmk.out _ ?_; exact by (repeat' (first | exact Below.refl _ _ | refine bl_set ?_ (by first | (simp; done) | (simp; omega)) _ | (with_reducible assumption) | refine bl_alloc ?_ _ | refine bl_drewN ?_ _ | refine bl_drew ?_ | refine bl ?_ (by with_reducible assumption))))) (first | (go_at_call 30; refine (whole_any _ _).mono ?_; rintro e w2 ⟨rfl, hw2⟩; (obtain ⟨hcw2, hfw2⟩ := bcell hw2; have hsw2 := (hw2).size; (try simp only [World.size_alloc, World.size_setCell, World.heap_drewN, size_drew, Nat.add_one_le_iff] at hsw2))) | (go_at_call 29; refine (rk_ok (mul_back HBN.out HF.out) (num_of kok2 HFx.out) HB2.out _).mono ?_; rintro e w3 ⟨rfl, hw3⟩; (obtain ⟨hcw3, hfw3⟩ := bcell hw3; have hsw3 := (hw3).size; (try simp only [World.size_alloc, World.size_setCell, World.heap_drewN, size_drew, Nat.add_one_le_iff] at hsw3))))
              all_goals (go_wp2_with fail; go_meet; refine ⟨rfl, ⟨_, rfl, ?_⟩, by (repeat' (first | exact Below.refl _ _ | refine bl_set ?_ (by first | (simp; done) | (simp; omega)) _ | (with_reducible assumption) | refine bl_alloc ?_ _ | refine bl_drewN ?_ _ | refine bl_drew ?_ | refine bl ?_ (by with_reducible assumption)))⟩; first | exact Bx.new _ _ _ | exact ((((Bx.new _ _ _).below hw3).set 0 (by simp) (.int .i64 2)).set 1 (by simp) (.int .i64 a)).set 2 (by simp) (.string ⟨#[]⟩) | exact (((((bx_drew (Bx.new _ _ _)).below hw2).below hw3).set 0 (by simp) (.int .i64 2)).set 1 (by simp) (.int .i64 a)).set 2 (by simp) (.string ⟨#[]⟩))
            case rest =>
              obtain ⟨rfl, ⟨P4, rfl, k4⟩, hc2⟩ := hcut
              clear ck3 lk3 hmk
              generalize wc = U4 at k4 hc2 ⊢
              have hmk : Hid (∀ w', Below U4.heap.size U4 w' → (fun w' => (∀ i : Nat, w'.cell? ⟨P4, i, none⟩ = (#[.int .i64 (2), .int .i64 (a), .string ⟨#[]⟩] : Array Value)[i]?) ∧ Below U4.heap.size U4 w') w') := Lib.hid fun w' h => ⟨(k4.below h).cell, h⟩
              have ck4 : ∀ i : Nat, U4.cell? ⟨P4, i, none⟩ = (#[.int .i64 (2), .int .i64 (a), .string ⟨#[]⟩] : Array Value)[i]? := k4.cell
              go_upto_region 19 with (fail)
              go_cut [101] from 94 to 100 (fun t wx => t = .bool false ∧ Below U4.heap.size U4 wx)
              case first =>
                go_region_held3 (fun w' => (∀ i : Nat, w'.cell? ⟨P4, i, none⟩ = (#[.int .i64 (2), .int .i64 (a), .string ⟨#[]⟩] : Array Value)[i]?) ∧ Below U4.heap.size U4 w') ((refine hmk.out _ ?_; exact by (repeat' (first | exact Below.refl _ _ | refine bl_set ?_ (by first | (simp; done) | (simp; omega)) _ | (with_reducible assumption) | refine bl_alloc ?_ _ | refine bl_drewN ?_ _ | refine bl_drew ?_ | refine bl ?_ (by with_reducible assumption))))) (first | (go_at_call 30; refine (whole_any _ _).mono ?_; rintro e w2 ⟨rfl, hw2⟩))
                all_goals (go_wp2_with fail; go_meet; exact ⟨rfl, by (repeat' (first | exact Below.refl _ _ | refine bl_set ?_ (by first | (simp; done) | (simp; omega)) _ | (with_reducible assumption) | refine bl_alloc ?_ _ | refine bl_drewN ?_ _ | refine bl_drew ?_ | refine bl ?_ (by with_reducible assumption)))⟩)
              case rest =>
                obtain ⟨rfl, hc3⟩ := hcut
                go_wp2_with fail
                go_meet
                exact bl hc2 hc3
        case rest =>
          replace k1 := k1.below hcut
          replace HLW := Lib.hid (HLW.out.below hcut)
          replace hBW := bl hBW hcut
          clear hcut k2 k3 r3a r3b r3c hn3 hq3 HCB
          generalize wc = X at k1 HLW hBW ⊢
          have ck1 := k1.cell
          go_wp2_with fail
          refine (neg_any 2 a HA.out _).mono ?_; rintro e y4 ⟨⟨K4, N4, o4, er4, rfl, hn4, hq4⟩, hy4⟩
          have r4a := hn4.eql; have r4b := hn4.neq; have r4c := hn4.guard
          replace k1 := k1.below hy4
          clear ck1
          go_upto_if 108 with (fail)
          have k3 := Bx.new y4 #[.int .i64 (K4), .int .i64 (N4), .string ⟨#[]⟩] 51
          replace k1 := k1.alloc (.cells #[.int .i64 (K4), .int .i64 (N4), .string ⟨#[]⟩] 51)
          have hBU : Below X.heap.size X (y4.alloc (.cells #[.int .i64 (K4), .int .i64 (N4), .string ⟨#[]⟩] 51)) := by (repeat' (first | exact Below.refl _ _ | refine bl_set ?_ (by first | (simp; done) | (simp; omega)) _ | (with_reducible assumption) | refine bl_alloc ?_ _ | refine bl_drewN ?_ _ | refine bl_drew ?_ | refine bl ?_ (by with_reducible assumption)))
          generalize hgen : y4.alloc (.cells #[.int .i64 (K4), .int .i64 (N4), .string ⟨#[]⟩] 51) = X2 at k1 k3 hBU ⊢
          clear hgen
          generalize y4.heap.size = P5 at k3 ⊢
          replace HLW := Lib.hid (HLW.out.below hBU)
          replace hBW := bl hBW hBU
          clear hBU hy4
          go_cut [20, 21] from 109 to 120 (fun s t wx => Below X2.heap.size X2 wx)
          case first =>
            cases o4
            case false =>
              go_wp2_with fail
              go_meet
              exact Below.refl _ _
            case true =>
              have hq5 := neg_okm hq4
              obtain ⟨rfl, rfl⟩ := hq5.2 rfl
              have hne : a ≠ -9223372036854775808 := by simpa using hq5.1.symm
              have HNE := Lib.hid hne
              clear hne hq5
              have ck1 := k1.cell; have ck3 := k3.cell
              go_wp2_with fail
              refine (neg_ok (neg_back HF.out HNE.out) (num_neg kok2 HF.out HNE.out) _).mono ?_; rintro e z ⟨rfl, hz⟩
              replace k1 := k1.below hz
              clear ck1 ck3
              have ck1 := k1.cell; have lk1 := k1.lt
              go_wp2_with fail
              go_meet
              exact by (repeat' (first | exact Below.refl _ _ | refine bl_set ?_ (by first | (simp; done) | (simp; omega)) _ | (with_reducible assumption) | refine bl_alloc ?_ _ | refine bl_drewN ?_ _ | refine bl_drew ?_ | refine bl ?_ (by with_reducible assumption)))
          case rest =>
            replace HLW := Lib.hid (HLW.out.below hcut)
            replace hBW := bl hBW hcut
            clear hcut k1 k3
            have ho4 := (neg_okm hq4).1
            clear hq4 hn4 r4b
            go_wp2_with fail
            refine (alive_true _ HLW.out).mono ?_; rintro e z ⟨rfl, hz⟩
            go_wp2
            (apply hR.out; clear hR; go_tidy)
            exact ⟨by first | rfl | (simp [ho4]; done) | (simp [ho4]; rw [Bool.eq_iff_iff]; simp), bl hBW (by (repeat' (first | exact Below.refl _ _ | refine bl_set ?_ (by first | (simp; done) | (simp; omega)) _ | (with_reducible assumption) | refine bl_alloc ?_ _ | refine bl_drewN ?_ _ | refine bl_drew ?_ | refine bl ?_ (by with_reducible assumption))))⟩
set_option maxHeartbeats 4000000 in
set_option maxRecDepth 100000 in
theorem back_d (a b : Int) (a0 : -9223372036854775808 ≤ a) (a1 : a ≤ 9223372036854775807) (b0 : -9223372036854775808 ≤ b) (b1 : b ≤ 9223372036854775807) (w : World) (hl : Laid w) :
    Calls Tryd.prog 10 #[.int .i64 a, .int .i64 b, .bool true] w fun e w' => e = .returned (.bool true) ∧ Below w.heap.size w w' := by
  have HLd := Lib.hid hl
  clear hl
  have heqV := eqV
  have fa : fits a = true := fits_of a0 a1
  have HA : Hid (Num 3 a) := Lib.hid (num_of kok3 fa)
  have HB : Hid (Num 3 b) := Lib.hid (num_of kok3 (fits_of b0 b1))
  have HA2 : Hid (Num 2 a) := Lib.hid (num2 a0 a1)
  have HB2 : Hid (Num 2 b) := Lib.hid (num2 b0 b1)
  have HF : Hid (fits a = true) := Lib.hid fa
  have HBB : Hid (-9223372036854775808 ≤ b ∧ b ≤ 9223372036854775807) := Lib.hid ⟨b0, b1⟩
  clear fa a0 a1 b0 b1
  refine calls_hide ?_; intro R hR; go_enter Tryd.func10, Tryd.ntmps10
  go_wp2_with fail
  refine (whole_any _ _).mono ?_; rintro e x1 ⟨rfl, hx1⟩
  go_wp2_with fail
  refine (whole_any _ _).mono ?_; rintro e x2 ⟨rfl, hx2⟩
  have k1 := (Bx.new _ _ _).below hx2
  go_wp2_with fail
  refine (dec_any _ _).mono ?_; rintro e x3 ⟨rfl, hx3⟩
  replace k1 := (k1.alloc _).below hx3
  have k2 := (Bx.new _ _ _).below hx3
  have hAB : x1.heap.size ≠ x2.heap.size := by have := hx2.size; simp at this; omega
  have ck1 := k1.cell; have fk1 := k1.free; have ck2 := k2.cell; have fk2 := k2.free; have lk1 := k1.lt; have lk2 := k2.lt
  go_wp2_with fail
  refine (dec_any _ _).mono ?_; rintro e x4 ⟨rfl, hx4⟩
  have k1 := (((k1.set 0 (by simp) (.int .i64 3)).set 1 (by simp) (.int .i64 a)).set 2 (by simp) (.string ⟨#[]⟩)).below hx4
  have k2 := (((k2.far (p := ⟨x1.heap.size, 0, none⟩) hAB (.int .i64 3)).far (p := ⟨x1.heap.size, 1, none⟩) hAB (.int .i64 a)).far (p := ⟨x1.heap.size, 2, none⟩) hAB (.string ⟨#[]⟩)).below hx4
  clear ck1 fk1 ck2 fk2 lk1 lk2
  have ck1 := k1.cell; have fk1 := k1.free; have ck2 := k2.cell; have fk2 := k2.free; have lk1 := k1.lt; have lk2 := k2.lt
  go_upto_region 6 with (fail)
  have k2 := ((k2.set 0 (by simp) (.int .i64 3)).set 1 (by simp) (.int .i64 b)).set 2 (by simp) (.string ⟨#[]⟩)
  have k1 := ((k1.far (p := ⟨x2.heap.size, 0, none⟩) hAB.symm (.int .i64 3)).far (p := ⟨x2.heap.size, 1, none⟩) hAB.symm (.int .i64 b)).far (p := ⟨x2.heap.size, 2, none⟩) hAB.symm (.string ⟨#[]⟩)
  have hs1 : w.heap.size ≤ x1.heap.size := hx1.size
  have hs2 : w.heap.size ≤ x2.heap.size := by have := hx2.size; simp at this; omega
  have hBW : Below w.heap.size w (((x4.setCell ⟨x2.heap.size, 0, none⟩ (.int .i64 3)).setCell ⟨x2.heap.size, 1, none⟩ (.int .i64 b)).setCell ⟨x2.heap.size, 2, none⟩ (.string ⟨#[]⟩)) := by (repeat' (first | exact Below.refl _ _ | refine bl_set ?_ (by first | (simp; done) | (simp; omega)) _ | (with_reducible assumption) | refine bl_alloc ?_ _ | refine bl_drewN ?_ _ | refine bl_drew ?_ | refine bl ?_ (by with_reducible assumption)))
  generalize hgen : (((x4.setCell ⟨x2.heap.size, 0, none⟩ (.int .i64 3)).setCell ⟨x2.heap.size, 1, none⟩ (.int .i64 b)).setCell ⟨x2.heap.size, 2, none⟩ (.string ⟨#[]⟩)) = W at k1 k2 hBW ⊢
  clear hgen ck1 fk1 ck2 fk2 lk1 lk2 hs1 hs2 hAB hx3 hx4
  clear hx1 hx2
  generalize x1.heap.size = A at k1 ⊢
  generalize x2.heap.size = B at k2 ⊢
  have k1 : Bx W A #[.int .i64 (3), .int .i64 (a), .string ⟨#[]⟩] := k1
  have k2 : Bx W B #[.int .i64 (3), .int .i64 (b), .string ⟨#[]⟩] := k2
  have HLW := Lib.hid (HLd.out.below hBW)
  have ck1 := k1.cell; have lk1 := k1.lt
  have ck2 := k2.cell; have lk2 := k2.lt
  go_wp2_with fail
  refine (reckon_any 3 3 a 3 b HA.out HB.out _).mono ?_; rintro e y1 ⟨⟨K1, N1, o1, er1, rfl, hn1, hq1⟩, hy1⟩
  have r1a := hn1.eql; have r1b := hn1.neq; have r1c := hn1.guard
  replace k1 := k1.below hy1
  replace k2 := k2.below hy1
  clear ck1 ck2 lk1 lk2
  go_upto_if 38 with (fail)
  have k3 := Bx.new y1 #[.int .i64 (K1), .int .i64 (N1), .string ⟨#[]⟩] 51
  replace k1 := k1.alloc (.cells #[.int .i64 (K1), .int .i64 (N1), .string ⟨#[]⟩] 51)
  replace k2 := k2.alloc (.cells #[.int .i64 (K1), .int .i64 (N1), .string ⟨#[]⟩] 51)
  have hBU : Below W.heap.size W (y1.alloc (.cells #[.int .i64 (K1), .int .i64 (N1), .string ⟨#[]⟩] 51)) := by (repeat' (first | exact Below.refl _ _ | refine bl_set ?_ (by first | (simp; done) | (simp; omega)) _ | (with_reducible assumption) | refine bl_alloc ?_ _ | refine bl_drewN ?_ _ | refine bl_drew ?_ | refine bl ?_ (by with_reducible assumption)))
  generalize hgen : y1.alloc (.cells #[.int .i64 (K1), .int .i64 (N1), .string ⟨#[]⟩] 51) = U at k1 k2 k3 hBU ⊢
  clear hgen
  generalize y1.heap.size = P at k3 ⊢
  replace HLW := Lib.hid (HLW.out.below hBU)
  replace hBW := bl hBW hBU
  clear hBU hy1
  go_cut [11, 12] from 39 to 51 (fun s t wx => Below U.heap.size U wx)
  case first =>
    cases o1
    case false =>
      go_wp2_with fail
      go_meet
      exact Below.refl _ _
    case true =>
      obtain ⟨rfl, rfl, hf⟩ := add_ok kok3 hq1
      have HFx := Lib.hid hf
      clear hf
      have ck1 := k1.cell; have ck2 := k2.cell; have ck3 := k3.cell
      go_wp2_with fail
      refine (rk_ok (add_back kok3 HF.out) (num_of kok3 HFx.out) HB.out _).mono ?_; rintro e z ⟨rfl, hz⟩
      replace k1 := k1.below hz
      clear ck1 ck2 ck3
      have ck1 := k1.cell; have lk1 := k1.lt
      go_wp2_with fail
      go_meet
      exact by (repeat' (first | exact Below.refl _ _ | refine bl_set ?_ (by first | (simp; done) | (simp; omega)) _ | (with_reducible assumption) | refine bl_alloc ?_ _ | refine bl_drewN ?_ _ | refine bl_drew ?_ | refine bl ?_ (by with_reducible assumption)))
  case rest =>
    replace k1 := k1.below hcut; replace k2 := k2.below hcut
    replace HLW := Lib.hid (HLW.out.below hcut)
    replace hBW := bl hBW hcut
    clear hcut k3 r1a r1b r1c hn1 hq1
    have ck1 := k1.cell; have lk1 := k1.lt
    have ck2 := k2.cell; have lk2 := k2.lt
    go_wp2_with fail
    refine (reckon_any 4 3 a 3 b HA.out HB.out _).mono ?_; rintro e y2 ⟨⟨K2, N2, o2, er2, rfl, hn2, hq2⟩, hy2⟩
    have r2a := hn2.eql; have r2b := hn2.neq; have r2c := hn2.guard
    replace k1 := k1.below hy2
    replace k2 := k2.below hy2
    clear ck1 ck2 lk1 lk2
    go_upto_if 59 with (fail)
    have k3 := Bx.new y2 #[.int .i64 (K2), .int .i64 (N2), .string ⟨#[]⟩] 51
    replace k1 := k1.alloc (.cells #[.int .i64 (K2), .int .i64 (N2), .string ⟨#[]⟩] 51)
    replace k2 := k2.alloc (.cells #[.int .i64 (K2), .int .i64 (N2), .string ⟨#[]⟩] 51)
    have hBU : Below wc.heap.size wc (y2.alloc (.cells #[.int .i64 (K2), .int .i64 (N2), .string ⟨#[]⟩] 51)) := by (repeat' (first | exact Below.refl _ _ | refine bl_set ?_ (by first | (simp; done) | (simp; omega)) _ | (with_reducible assumption) | refine bl_alloc ?_ _ | refine bl_drewN ?_ _ | refine bl_drew ?_ | refine bl ?_ (by with_reducible assumption)))
    generalize hgen : y2.alloc (.cells #[.int .i64 (K2), .int .i64 (N2), .string ⟨#[]⟩] 51) = U2 at k1 k2 k3 hBU ⊢
    clear hgen
    generalize y2.heap.size = P at k3 ⊢
    replace HLW := Lib.hid (HLW.out.below hBU)
    replace hBW := bl hBW hBU
    clear hBU hy2
    go_cut [14, 15] from 60 to 72 (fun s t wx => Below U2.heap.size U2 wx)
    case first =>
      cases o2
      case false =>
        go_wp2_with fail
        go_meet
        exact Below.refl _ _
      case true =>
        obtain ⟨rfl, rfl, hf⟩ := sub_ok kok3 hq2
        have HFx := Lib.hid hf
        clear hf
        have ck1 := k1.cell; have ck2 := k2.cell; have ck3 := k3.cell
        go_wp2_with fail
        refine (rk_ok (sub_back kok3 HF.out) (num_of kok3 HFx.out) HB.out _).mono ?_; rintro e z ⟨rfl, hz⟩
        replace k1 := k1.below hz
        clear ck1 ck2 ck3
        have ck1 := k1.cell; have lk1 := k1.lt
        go_wp2_with fail
        go_meet
        exact by (repeat' (first | exact Below.refl _ _ | refine bl_set ?_ (by first | (simp; done) | (simp; omega)) _ | (with_reducible assumption) | refine bl_alloc ?_ _ | refine bl_drewN ?_ _ | refine bl_drew ?_ | refine bl ?_ (by with_reducible assumption)))
    case rest =>
      replace k1 := k1.below hcut; replace k2 := k2.below hcut
      replace HLW := Lib.hid (HLW.out.below hcut)
      replace hBW := bl hBW hcut
      clear hcut k3 r2a r2b r2c hn2 hq2
      have ck1 := k1.cell; have lk1 := k1.lt
      have ck2 := k2.cell; have lk2 := k2.lt
      go_wp2_with fail
      refine (whole_any _ _).mono ?_; rintro e z1 ⟨rfl, hz1⟩
      go_wp2_with fail
      refine (whole_any _ _).mono ?_; rintro e z2 ⟨rfl, hz2⟩
      go_wp2_with fail
      refine (reckon_any 5 2 a 2 b HA2.out HB2.out _).mono ?_; rintro e y3 ⟨⟨K3, N3, o3, er3, rfl, hn3, hq3⟩, hy3⟩
      have r3a := hn3.eql; have r3b := hn3.neq; have r3c := hn3.guard
      replace k1 := ((k1.below hz1).below hz2).below hy3
      replace k2 := ((k2.below hz1).below hz2).below hy3
      clear ck1 ck2 lk1 lk2
      go_upto_region 17 with (fail)
      have k3 := Bx.new y3 #[.int .i64 (K3), .int .i64 (N3), .string ⟨#[]⟩] 51
      replace k1 := k1.alloc (.cells #[.int .i64 (K3), .int .i64 (N3), .string ⟨#[]⟩] 51)
      replace k2 := k2.alloc (.cells #[.int .i64 (K3), .int .i64 (N3), .string ⟨#[]⟩] 51)
      have hBU : Below wc.heap.size wc (y3.alloc (.cells #[.int .i64 (K3), .int .i64 (N3), .string ⟨#[]⟩] 51)) := by (repeat' (first | exact Below.refl _ _ | refine bl_set ?_ (by first | (simp; done) | (simp; omega)) _ | (with_reducible assumption) | refine bl_alloc ?_ _ | refine bl_drewN ?_ _ | refine bl_drew ?_ | refine bl ?_ (by with_reducible assumption)))
      generalize hgen : y3.alloc (.cells #[.int .i64 (K3), .int .i64 (N3), .string ⟨#[]⟩] 51) = U3 at k1 k2 k3 hBU ⊢
      clear hgen
      generalize y3.heap.size = P at k3 ⊢
      replace HLW := Lib.hid (HLW.out.below hBU)
      replace hBW := bl hBW hBU
      clear hBU hz1 hz2 hy3
      go_cut [86] from 82 to 85 (fun t wx => t = .bool (o3 && (b != 0)) ∧ U3 = wx)
      case first =>
        cases o3
        case false =>
          go_wp2_with fail
          go_meet
          exact ⟨rfl, rfl⟩
        case true =>
          go_wp2_with fail
          go_meet
          exact ⟨rfl, rfl⟩
      case rest =>
        obtain ⟨rfl, rfl⟩ := hcut
        have hcb : (o3 && (b != 0)) = true → o3 = true ∧ b ≠ 0 := fun h => by simpa using h
        have HCB := Lib.hid hcb
        clear hcb
        generalize hcc : (o3 && (b != 0)) = cc at HCB ⊢
        clear hcc
        go_upto_if 86 with (fail)
        go_cut [17, 18] from 87 to 101 (fun s t wx => Below U3.heap.size U3 wx)
        case first =>
          cases cc
          case false =>
            go_wp2_with fail
            go_meet
            exact Below.refl _ _
          case true =>
            obtain ⟨rfl, hb⟩ := HCB.out rfl
            obtain ⟨rfl, rfl, hf⟩ := mul_ok hq3
            have HFx := Lib.hid hf
            clear hf
            have HBN := Lib.hid hb
            clear hb r3a r3b r3c
            go_upto_region 18 with (fail)
            have hmk : Hid (∀ w', Below U3.heap.size U3 w' → (fun w' => (∀ i : Nat, w'.cell? ⟨P, i, none⟩ = (#[.int .i64 (2), .int .i64 (a * b), .string ⟨#[]⟩] : Array Value)[i]?) ∧ Below U3.heap.size U3 w') w') := Lib.hid fun w' h => ⟨(k3.below h).cell, h⟩
            have ck3 : ∀ i : Nat, U3.cell? ⟨P, i, none⟩ = (#[.int .i64 (2), .int .i64 (a * b), .string ⟨#[]⟩] : Array Value)[i]? := k3.cell; have lk3 := k3.lt; have hdr := size_drew
            go_cut [17, 18] from 87 to 93 (fun s t wx => t = .nilIface ∧ (∃ p, s = .pointer (some ⟨p, 0, none⟩) ∧ Bx wx p #[.int .i64 (2), .int .i64 (a), .string ⟨#[]⟩]) ∧ Below U3.heap.size U3 wx)
            case first =>
              go_region_held3 (fun w' => (∀ i : Nat, w'.cell? ⟨P, i, none⟩ = (#[.int .i64 (2), .int .i64 (a * b), .string ⟨#[]⟩] : Array Value)[i]?) ∧ Below U3.heap.size U3 w') ((refine hmk.out _ ?_; exact by (repeat' (first | exact Below.refl _ _ | refine bl_set ?_ (by first | (simp; done) | (simp; omega)) _ | (with_reducible assumption) | refine bl_alloc ?_ _ | refine bl_drewN ?_ _ | refine bl_drew ?_ | refine bl ?_ (by with_reducible assumption))))) (first | (go_at_call 30; refine (whole_any _ _).mono ?_; rintro e w2 ⟨rfl, hw2⟩; (obtain ⟨hcw2, hfw2⟩ := bcell hw2; have hsw2 := (hw2).size; (try simp only [World.size_alloc, World.size_setCell, World.heap_drewN, size_drew, Nat.add_one_le_iff] at hsw2))) | (go_at_call 29; refine (rk_ok (mul_back HBN.out HF.out) (num_of kok2 HFx.out) HB2.out _).mono ?_; rintro e w3 ⟨rfl, hw3⟩; (obtain ⟨hcw3, hfw3⟩ := bcell hw3; have hsw3 := (hw3).size; (try simp only [World.size_alloc, World.size_setCell, World.heap_drewN, size_drew, Nat.add_one_le_iff] at hsw3))))
              all_goals (go_wp2_with fail; go_meet; refine ⟨rfl, ⟨_, rfl, ?_⟩, by (repeat' (first | exact Below.refl _ _ | refine bl_set ?_ (by first | (simp; done) | (simp; omega)) _ | (with_reducible assumption) | refine bl_alloc ?_ _ | refine bl_drewN ?_ _ | refine bl_drew ?_ | refine bl ?_ (by with_reducible assumption)))⟩; first | exact Bx.new _ _ _ | exact ((((Bx.new _ _ _).below hw3).set 0 (by simp) (.int .i64 2)).set 1 (by simp) (.int .i64 a)).set 2 (by simp) (.string ⟨#[]⟩) | exact (((((bx_drew (Bx.new _ _ _)).below hw2).below hw3).set 0 (by simp) (.int .i64 2)).set 1 (by simp) (.int .i64 a)).set 2 (by simp) (.string ⟨#[]⟩))
            case rest =>
              obtain ⟨rfl, ⟨P4, rfl, k4⟩, hc2⟩ := hcut
              clear ck3 lk3 hmk
              generalize wc = U4 at k4 hc2 ⊢
              have hmk : Hid (∀ w', Below U4.heap.size U4 w' → (fun w' => (∀ i : Nat, w'.cell? ⟨P4, i, none⟩ = (#[.int .i64 (2), .int .i64 (a), .string ⟨#[]⟩] : Array Value)[i]?) ∧ Below U4.heap.size U4 w') w') := Lib.hid fun w' h => ⟨(k4.below h).cell, h⟩
              have ck4 : ∀ i : Nat, U4.cell? ⟨P4, i, none⟩ = (#[.int .i64 (2), .int .i64 (a), .string ⟨#[]⟩] : Array Value)[i]? := k4.cell
              go_upto_region 19 with (fail)
              go_cut [101] from 94 to 100 (fun t wx => t = .bool false ∧ Below U4.heap.size U4 wx)
              case first =>
                go_region_held3 (fun w' => (∀ i : Nat, w'.cell? ⟨P4, i, none⟩ = (#[.int .i64 (2), .int .i64 (a), .string ⟨#[]⟩] : Array Value)[i]?) ∧ Below U4.heap.size U4 w') ((refine hmk.out _ ?_; exact by (repeat' (first | exact Below.refl _ _ | refine bl_set ?_ (by first | (simp; done) | (simp; omega)) _ | (with_reducible assumption) | refine bl_alloc ?_ _ | refine bl_drewN ?_ _ | refine bl_drew ?_ | refine bl ?_ (by with_reducible assumption))))) (first | (go_at_call 30; refine (whole_any _ _).mono ?_; rintro e w2 ⟨rfl, hw2⟩))
                all_goals (go_wp2_with fail; go_meet; exact ⟨rfl, by (repeat' (first | exact Below.refl _ _ | refine bl_set ?_ (by first | (simp; done) | (simp; omega)) _ | (with_reducible assumption) | refine bl_alloc ?_ _ | refine bl_drewN ?_ _ | refine bl_drew ?_ | refine bl ?_ (by with_reducible assumption)))⟩)
              case rest =>
                obtain ⟨rfl, hc3⟩ := hcut
                go_wp2_with fail
                go_meet
                exact bl hc2 hc3
        case rest =>
          replace k1 := k1.below hcut
          replace HLW := Lib.hid (HLW.out.below hcut)
          replace hBW := bl hBW hcut
          clear hcut k2 k3 r3a r3b r3c hn3 hq3 HCB
          generalize wc = X at k1 HLW hBW ⊢
          have ck1 := k1.cell
          go_wp2_with fail
          refine (neg_any 3 a HA.out _).mono ?_; rintro e y4 ⟨⟨K4, N4, o4, er4, rfl, hn4, hq4⟩, hy4⟩
          have r4a := hn4.eql; have r4b := hn4.neq; have r4c := hn4.guard
          replace k1 := k1.below hy4
          clear ck1
          go_upto_if 108 with (fail)
          have k3 := Bx.new y4 #[.int .i64 (K4), .int .i64 (N4), .string ⟨#[]⟩] 51
          replace k1 := k1.alloc (.cells #[.int .i64 (K4), .int .i64 (N4), .string ⟨#[]⟩] 51)
          have hBU : Below X.heap.size X (y4.alloc (.cells #[.int .i64 (K4), .int .i64 (N4), .string ⟨#[]⟩] 51)) := by (repeat' (first | exact Below.refl _ _ | refine bl_set ?_ (by first | (simp; done) | (simp; omega)) _ | (with_reducible assumption) | refine bl_alloc ?_ _ | refine bl_drewN ?_ _ | refine bl_drew ?_ | refine bl ?_ (by with_reducible assumption)))
          generalize hgen : y4.alloc (.cells #[.int .i64 (K4), .int .i64 (N4), .string ⟨#[]⟩] 51) = X2 at k1 k3 hBU ⊢
          clear hgen
          generalize y4.heap.size = P5 at k3 ⊢
          replace HLW := Lib.hid (HLW.out.below hBU)
          replace hBW := bl hBW hBU
          clear hBU hy4
          go_cut [20, 21] from 109 to 120 (fun s t wx => Below X2.heap.size X2 wx)
          case first =>
            cases o4
            case false =>
              go_wp2_with fail
              go_meet
              exact Below.refl _ _
            case true =>
              have hq5 := neg_okm hq4
              obtain ⟨rfl, rfl⟩ := hq5.2 rfl
              have hne : a ≠ -9223372036854775808 := by simpa using hq5.1.symm
              have HNE := Lib.hid hne
              clear hne hq5
              have ck1 := k1.cell; have ck3 := k3.cell
              go_wp2_with fail
              refine (neg_ok (neg_back HF.out HNE.out) (num_neg kok3 HF.out HNE.out) _).mono ?_; rintro e z ⟨rfl, hz⟩
              replace k1 := k1.below hz
              clear ck1 ck3
              have ck1 := k1.cell; have lk1 := k1.lt
              go_wp2_with fail
              go_meet
              exact by (repeat' (first | exact Below.refl _ _ | refine bl_set ?_ (by first | (simp; done) | (simp; omega)) _ | (with_reducible assumption) | refine bl_alloc ?_ _ | refine bl_drewN ?_ _ | refine bl_drew ?_ | refine bl ?_ (by with_reducible assumption)))
          case rest =>
            replace HLW := Lib.hid (HLW.out.below hcut)
            replace hBW := bl hBW hcut
            clear hcut k1 k3
            have ho4 := (neg_okm hq4).1
            clear hq4 hn4 r4b
            go_wp2_with fail
            refine (alive_true _ HLW.out).mono ?_; rintro e z ⟨rfl, hz⟩
            go_wp2
            (apply hR.out; clear hR; go_tidy)
            exact ⟨by first | rfl | (simp [ho4]; done) | (simp [ho4]; rw [Bool.eq_iff_iff]; simp), bl hBW (by (repeat' (first | exact Below.refl _ _ | refine bl_set ?_ (by first | (simp; done) | (simp; omega)) _ | (with_reducible assumption) | refine bl_alloc ?_ _ | refine bl_drewN ?_ _ | refine bl_drew ?_ | refine bl ?_ (by with_reducible assumption))))⟩
theorem back_true (a b : Int) (d : Bool) (a0 : -9223372036854775808 ≤ a) (a1 : a ≤ 9223372036854775807) (b0 : -9223372036854775808 ≤ b) (b1 : b ≤ 9223372036854775807) (w : World) (hl : Laid w) :
    Calls Tryd.prog 10 #[.int .i64 a, .int .i64 b, .bool d] w fun e w' => e = .returned (.bool true) ∧ Below w.heap.size w w' := by
  cases d
  · exact back_w a b a0 a1 b0 b1 w hl
  · exact back_d a b a0 a1 b0 b1 w hl
end Go.Proofs.YtdlmcgflgdmjgaaDoor
