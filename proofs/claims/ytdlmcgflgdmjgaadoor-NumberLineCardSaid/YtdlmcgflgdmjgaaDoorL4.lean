/- NumberLine: its walk. -/
import Derived.Test.YtdlmcgflgdmjgaaDoorRk
import Derived.Deep.DeepCutAuto
import Derived.Deep.CutBlock
set_option linter.unusedVariables false
set_option linter.unusedSimpArgs false
namespace Go.Proofs.YtdlmcgflgdmjgaaDoor
open Go.RowKit
theorem cmp3_trans {a b c : Int} : cmp3 a b ≤ 0 → cmp3 b c ≤ 0 → cmp3 a c ≤ 0 := by unfold cmp3; split <;> split <;> split <;> (try split) <;> (try split) <;> (try split) <;> omega
theorem cmp3_neg {a b : Int} : decide (cmp3 a b < 0) = decide (a < b) := by
  rw [Bool.eq_iff_iff]; unfold cmp3; simp; split <;> (try split) <;> simp <;> omega
theorem cmp_line (op k n l m c : Int) (b : Bool) (h0 : 8 ≤ op) (h1 : op ≤ 13) (hk : k = 2 ∨ k = 3) (hl : l = 2 ∨ l = 3) (hn : -9223372036854775808 ≤ n ∧ n ≤ 9223372036854775807) (hm : -9223372036854775808 ≤ m ∧ m ≤ 9223372036854775807)
    (hc : Hid (c = cmp3 (scl k n) (scl l m))) (hb : opB op c = b) (w : World) :
    Calls Tryd.prog 34 #[.int .i64 op, valV k n, valV l m] w fun e w' => (∃ N, e = .returned (.tuple #[valV 1 N, .nilIface]) ∧ Hid (N = if b then 1 else 0)) ∧ Below w.heap.size w w' := by
  refine (compare_num op k n l m (.inr ⟨hk, hn⟩) (.inr ⟨hl, hm⟩) w).mono fun e w' ⟨h, hw⟩ => ⟨?_, hw⟩
  unfold cmpM at h
  rw [if_neg (by omega), if_neg (by omega), ← hc.out, hb] at h
  exact ⟨_, h, Lib.hid rfl⟩
def kd (d : Bool) : Int := if d then 3 else 2
theorem kd_or (d : Bool) : kd d = 2 ∨ kd d = 3 := by cases d <;> simp [kd]
def arr (n0 n1 n2 : Int) (d0 d1 d2 : Bool) : Nat → Array Value
  | 0 => #[.int .i64 0, .int .i64 0, .string ⟨#[]⟩, .int .i64 0, .int .i64 0, .string ⟨#[]⟩, .int .i64 0, .int .i64 0, .string ⟨#[]⟩]
  | 1 => #[.int .i64 (kd d0), .int .i64 n0, .string ⟨#[]⟩, .int .i64 0, .int .i64 0, .string ⟨#[]⟩, .int .i64 0, .int .i64 0, .string ⟨#[]⟩]
  | 2 => #[.int .i64 (kd d0), .int .i64 n0, .string ⟨#[]⟩, .int .i64 (kd d1), .int .i64 n1, .string ⟨#[]⟩, .int .i64 0, .int .i64 0, .string ⟨#[]⟩]
  | _ => #[.int .i64 (kd d0), .int .i64 n0, .string ⟨#[]⟩, .int .i64 (kd d1), .int .i64 n1, .string ⟨#[]⟩, .int .i64 (kd d2), .int .i64 n2, .string ⟨#[]⟩]
set_option maxHeartbeats 4000000 in
set_option maxRecDepth 100000 in
theorem line_true (n0 n1 n2 : Int) (d0 d1 d2 : Bool) (hb0 : -9223372036854775808 ≤ n0 ∧ n0 ≤ 9223372036854775807) (hb1 : -9223372036854775808 ≤ n1 ∧ n1 ≤ 9223372036854775807) (hb2 : -9223372036854775808 ≤ n2 ∧ n2 ≤ 9223372036854775807) (w : World) (hl : Laid w) :
    Calls Tryd.prog 11 #[.agg #[.int .i64 n0, .int .i64 n1, .int .i64 n2], .agg #[.bool d0, .bool d1, .bool d2]] w fun e w' => e = .returned (.bool true) ∧ Below w.heap.size w w' := by
  have HLd := Lib.hid hl
  have HB0 := Lib.hid hb0; have HB1 := Lib.hid hb1; have HB2 := Lib.hid hb2
  clear hl hb0 hb1 hb2
  refine calls_hide ?_; intro R hR; go_enter Tryd.func11, Tryd.ntmps11
  go_upto_block 0 with (fail)
  have ka : Bx (((w.alloc (.cells #[.int .i64 n0, .int .i64 n1, .int .i64 n2] 57)).alloc (.cells #[.bool d0, .bool d1, .bool d2] 63)).alloc (.cells #[.int .i64 0, .int .i64 0, .string ⟨#[]⟩, .int .i64 0, .int .i64 0, .string ⟨#[]⟩, .int .i64 0, .int .i64 0, .string ⟨#[]⟩] 64)) w.heap.size #[.int .i64 n0, .int .i64 n1, .int .i64 n2] := ((Bx.new _ _ _).alloc _).alloc _
  have kb : Bx (((w.alloc (.cells #[.int .i64 n0, .int .i64 n1, .int .i64 n2] 57)).alloc (.cells #[.bool d0, .bool d1, .bool d2] 63)).alloc (.cells #[.int .i64 0, .int .i64 0, .string ⟨#[]⟩, .int .i64 0, .int .i64 0, .string ⟨#[]⟩, .int .i64 0, .int .i64 0, .string ⟨#[]⟩] 64)) (w.heap.size + 1) #[.bool d0, .bool d1, .bool d2] := by have h := (Bx.new (w.alloc (.cells #[.int .i64 n0, .int .i64 n1, .int .i64 n2] 57)) #[.bool d0, .bool d1, .bool d2] 63).alloc (.cells #[.int .i64 0, .int .i64 0, .string ⟨#[]⟩, .int .i64 0, .int .i64 0, .string ⟨#[]⟩, .int .i64 0, .int .i64 0, .string ⟨#[]⟩] 64); simpa using h
  have kc : Bx (((w.alloc (.cells #[.int .i64 n0, .int .i64 n1, .int .i64 n2] 57)).alloc (.cells #[.bool d0, .bool d1, .bool d2] 63)).alloc (.cells #[.int .i64 0, .int .i64 0, .string ⟨#[]⟩, .int .i64 0, .int .i64 0, .string ⟨#[]⟩, .int .i64 0, .int .i64 0, .string ⟨#[]⟩] 64)) (w.heap.size + 1 + 1) (arr n0 n1 n2 d0 d1 d2 0) := by show Bx _ _ #[.int .i64 0, .int .i64 0, .string ⟨#[]⟩, .int .i64 0, .int .i64 0, .string ⟨#[]⟩, .int .i64 0, .int .i64 0, .string ⟨#[]⟩]; have h := Bx.new ((w.alloc (.cells #[.int .i64 n0, .int .i64 n1, .int .i64 n2] 57)).alloc (.cells #[.bool d0, .bool d1, .bool d2] 63)) #[.int .i64 0, .int .i64 0, .string ⟨#[]⟩, .int .i64 0, .int .i64 0, .string ⟨#[]⟩, .int .i64 0, .int .i64 0, .string ⟨#[]⟩] 64; simpa using h
  have hBW : Below w.heap.size w (((w.alloc (.cells #[.int .i64 n0, .int .i64 n1, .int .i64 n2] 57)).alloc (.cells #[.bool d0, .bool d1, .bool d2] 63)).alloc (.cells #[.int .i64 0, .int .i64 0, .string ⟨#[]⟩, .int .i64 0, .int .i64 0, .string ⟨#[]⟩, .int .i64 0, .int .i64 0, .string ⟨#[]⟩] 64)) := by (repeat' (first | exact Below.refl _ _ | refine bl_set ?_ (by first | (simp; done) | (simp; omega)) _ | (with_reducible assumption) | refine bl_alloc ?_ _ | refine bl_drewN ?_ _ | refine bl_drew ?_ | refine bl ?_ (by with_reducible assumption)))
  generalize hgen : (((w.alloc (.cells #[.int .i64 n0, .int .i64 n1, .int .i64 n2] 57)).alloc (.cells #[.bool d0, .bool d1, .bool d2] 63)).alloc (.cells #[.int .i64 0, .int .i64 0, .string ⟨#[]⟩, .int .i64 0, .int .i64 0, .string ⟨#[]⟩, .int .i64 0, .int .i64 0, .string ⟨#[]⟩] 64)) = W at ka kb kc hBW ⊢
  clear hgen
  have hAC : w.heap.size + 1 + 1 ≠ w.heap.size := by omega
  have hBC : w.heap.size + 1 + 1 ≠ w.heap.size + 1 := by omega
  have hwC : w.heap.size ≤ w.heap.size + 1 + 1 := by omega
  generalize w.heap.size + 1 + 1 = C at kc hAC hBC hwC ⊢
  generalize w.heap.size + 1 = B at kb hBC ⊢
  generalize hA : w.heap.size = A at ka hAC ⊢
  clear hA
  go_cut [6] (fun t wx => Bx wx A #[.int .i64 n0, .int .i64 n1, .int .i64 n2] ∧ Bx wx B #[.bool d0, .bool d1, .bool d2] ∧ Bx wx C (arr n0 n1 n2 d0 d1 d2 3) ∧ Below w.heap.size w wx)
  case first =>
    go_wp2_with fail
    go_loopw [6] (fun t wr => ∃ i : Nat, i ≤ 3 ∧ t = .int .i64 i ∧ Bx wr A #[.int .i64 n0, .int .i64 n1, .int .i64 n2] ∧ Bx wr B #[.bool d0, .bool d1, .bool d2] ∧ Bx wr C (arr n0 n1 n2 d0 d1 d2 i) ∧ Below w.heap.size w wr) (fun t _ => 3 - (intOf t).toNat)
    case atStart => exact ⟨0, by omega, rfl, ka, kb, kc, hBW⟩
    case round =>
      obtain ⟨i, hi, rfl, ka, kb, kc, hbw⟩ := hrel
      rcases (show i = 0 ∨ i = 1 ∨ i = 2 ∨ i = 3 from by omega) with rfl | rfl | rfl | rfl
      · cases d0
        case false =>
          have ca := ka.cell; have cb := kb.cell
          go_wp2_with fail
          refine (whole_any _ _).mono ?_; rintro e x1 ⟨rfl, hx1⟩
          replace ka := ka.below hx1; replace kb := kb.below hx1; replace kc := kc.below hx1; replace hbw := bl hbw hx1
          clear ca cb hx1
          have kc : Bx x1 C #[.int .i64 0, .int .i64 0, .string ⟨#[]⟩, .int .i64 0, .int .i64 0, .string ⟨#[]⟩, .int .i64 0, .int .i64 0, .string ⟨#[]⟩] := kc
          have ca := ka.cell; have cb := kb.cell; have cc := kc.cell; have fc := kc.free
          go_wp2_with fail
          go_roundw
          case rel => first | exact ⟨1, by omega, by first | rfl | simp, (((ka.far (p := ⟨C, 0, none⟩) hAC (.int .i64 2)).far (p := ⟨C, 1, none⟩) hAC (.int .i64 n0)).far (p := ⟨C, 2, none⟩) hAC (.string ⟨#[]⟩)), (((kb.far (p := ⟨C, 0, none⟩) hBC (.int .i64 2)).far (p := ⟨C, 1, none⟩) hBC (.int .i64 n0)).far (p := ⟨C, 2, none⟩) hBC (.string ⟨#[]⟩)), (((kc.set 0 (by simp) (.int .i64 2)).set 1 (by simp) (.int .i64 n0)).set 2 (by simp) (.string ⟨#[]⟩)), bl_set (bl_set (bl_set hbw (p := ⟨C, 0, none⟩) hwC _) (p := ⟨C, 1, none⟩) hwC _) (p := ⟨C, 2, none⟩) hwC _⟩ | ((repeat apply Exists.intro); exact ⟨⟨1, by omega, by first | rfl | simp, (((ka.far (p := ⟨C, 0, none⟩) hAC (.int .i64 2)).far (p := ⟨C, 1, none⟩) hAC (.int .i64 n0)).far (p := ⟨C, 2, none⟩) hAC (.string ⟨#[]⟩)), (((kb.far (p := ⟨C, 0, none⟩) hBC (.int .i64 2)).far (p := ⟨C, 1, none⟩) hBC (.int .i64 n0)).far (p := ⟨C, 2, none⟩) hBC (.string ⟨#[]⟩)), (((kc.set 0 (by simp) (.int .i64 2)).set 1 (by simp) (.int .i64 n0)).set 2 (by simp) (.string ⟨#[]⟩)), bl_set (bl_set (bl_set hbw (p := ⟨C, 0, none⟩) hwC _) (p := ⟨C, 1, none⟩) hwC _) (p := ⟨C, 2, none⟩) hwC _⟩, rfl⟩)
          case measure => simp [intOf]
        case true =>
          have ca := ka.cell; have cb := kb.cell
          go_wp2_with fail
          refine (whole_any _ _).mono ?_; rintro e x1 ⟨rfl, hx1⟩
          replace ka := ka.below hx1; replace kb := kb.below hx1; replace kc := kc.below hx1; replace hbw := bl hbw hx1
          clear ca cb hx1
          have kc : Bx x1 C #[.int .i64 0, .int .i64 0, .string ⟨#[]⟩, .int .i64 0, .int .i64 0, .string ⟨#[]⟩, .int .i64 0, .int .i64 0, .string ⟨#[]⟩] := kc
          have ca := ka.cell; have cb := kb.cell; have cc := kc.cell; have fc := kc.free
          go_wp2_with fail
          refine (dec_any _ _).mono ?_; rintro e x2 ⟨rfl, hx2⟩
          replace ka := (((ka.far (p := ⟨C, 0, none⟩) hAC (.int .i64 2)).far (p := ⟨C, 1, none⟩) hAC (.int .i64 n0)).far (p := ⟨C, 2, none⟩) hAC (.string ⟨#[]⟩)).below hx2; replace kb := (((kb.far (p := ⟨C, 0, none⟩) hBC (.int .i64 2)).far (p := ⟨C, 1, none⟩) hBC (.int .i64 n0)).far (p := ⟨C, 2, none⟩) hBC (.string ⟨#[]⟩)).below hx2; replace kc := (((kc.set 0 (by simp) (.int .i64 2)).set 1 (by simp) (.int .i64 n0)).set 2 (by simp) (.string ⟨#[]⟩)).below hx2
          replace hbw := bl (bl_set (bl_set (bl_set hbw (p := ⟨C, 0, none⟩) hwC _) (p := ⟨C, 1, none⟩) hwC _) (p := ⟨C, 2, none⟩) hwC _) hx2
          clear ca cb cc fc hx2
          have cc := kc.cell; have fc := kc.free
          go_wp2_with fail
          go_roundw
          case rel => first | exact ⟨1, by omega, by first | rfl | simp, (((ka.far (p := ⟨C, 0, none⟩) hAC (.int .i64 3)).far (p := ⟨C, 1, none⟩) hAC (.int .i64 n0)).far (p := ⟨C, 2, none⟩) hAC (.string ⟨#[]⟩)), (((kb.far (p := ⟨C, 0, none⟩) hBC (.int .i64 3)).far (p := ⟨C, 1, none⟩) hBC (.int .i64 n0)).far (p := ⟨C, 2, none⟩) hBC (.string ⟨#[]⟩)), (((kc.set 0 (by simp) (.int .i64 3)).set 1 (by simp) (.int .i64 n0)).set 2 (by simp) (.string ⟨#[]⟩)), bl_set (bl_set (bl_set hbw (p := ⟨C, 0, none⟩) hwC _) (p := ⟨C, 1, none⟩) hwC _) (p := ⟨C, 2, none⟩) hwC _⟩ | ((repeat apply Exists.intro); exact ⟨⟨1, by omega, by first | rfl | simp, (((ka.far (p := ⟨C, 0, none⟩) hAC (.int .i64 3)).far (p := ⟨C, 1, none⟩) hAC (.int .i64 n0)).far (p := ⟨C, 2, none⟩) hAC (.string ⟨#[]⟩)), (((kb.far (p := ⟨C, 0, none⟩) hBC (.int .i64 3)).far (p := ⟨C, 1, none⟩) hBC (.int .i64 n0)).far (p := ⟨C, 2, none⟩) hBC (.string ⟨#[]⟩)), (((kc.set 0 (by simp) (.int .i64 3)).set 1 (by simp) (.int .i64 n0)).set 2 (by simp) (.string ⟨#[]⟩)), bl_set (bl_set (bl_set hbw (p := ⟨C, 0, none⟩) hwC _) (p := ⟨C, 1, none⟩) hwC _) (p := ⟨C, 2, none⟩) hwC _⟩, rfl⟩)
          case measure => simp [intOf]
      · cases d1
        case false =>
          have ca := ka.cell; have cb := kb.cell
          go_wp2_with fail
          refine (whole_any _ _).mono ?_; rintro e x1 ⟨rfl, hx1⟩
          replace ka := ka.below hx1; replace kb := kb.below hx1; replace kc := kc.below hx1; replace hbw := bl hbw hx1
          clear ca cb hx1
          have kc : Bx x1 C #[.int .i64 (kd d0), .int .i64 n0, .string ⟨#[]⟩, .int .i64 0, .int .i64 0, .string ⟨#[]⟩, .int .i64 0, .int .i64 0, .string ⟨#[]⟩] := kc
          have ca := ka.cell; have cb := kb.cell; have cc := kc.cell; have fc := kc.free
          go_wp2_with fail
          go_roundw
          case rel => first | exact ⟨2, by omega, by first | rfl | simp, (((ka.far (p := ⟨C, 3, none⟩) hAC (.int .i64 2)).far (p := ⟨C, 4, none⟩) hAC (.int .i64 n1)).far (p := ⟨C, 5, none⟩) hAC (.string ⟨#[]⟩)), (((kb.far (p := ⟨C, 3, none⟩) hBC (.int .i64 2)).far (p := ⟨C, 4, none⟩) hBC (.int .i64 n1)).far (p := ⟨C, 5, none⟩) hBC (.string ⟨#[]⟩)), (((kc.set 3 (by simp) (.int .i64 2)).set 4 (by simp) (.int .i64 n1)).set 5 (by simp) (.string ⟨#[]⟩)), bl_set (bl_set (bl_set hbw (p := ⟨C, 3, none⟩) hwC _) (p := ⟨C, 4, none⟩) hwC _) (p := ⟨C, 5, none⟩) hwC _⟩ | ((repeat apply Exists.intro); exact ⟨⟨2, by omega, by first | rfl | simp, (((ka.far (p := ⟨C, 3, none⟩) hAC (.int .i64 2)).far (p := ⟨C, 4, none⟩) hAC (.int .i64 n1)).far (p := ⟨C, 5, none⟩) hAC (.string ⟨#[]⟩)), (((kb.far (p := ⟨C, 3, none⟩) hBC (.int .i64 2)).far (p := ⟨C, 4, none⟩) hBC (.int .i64 n1)).far (p := ⟨C, 5, none⟩) hBC (.string ⟨#[]⟩)), (((kc.set 3 (by simp) (.int .i64 2)).set 4 (by simp) (.int .i64 n1)).set 5 (by simp) (.string ⟨#[]⟩)), bl_set (bl_set (bl_set hbw (p := ⟨C, 3, none⟩) hwC _) (p := ⟨C, 4, none⟩) hwC _) (p := ⟨C, 5, none⟩) hwC _⟩, rfl⟩)
          case measure => simp [intOf]
        case true =>
          have ca := ka.cell; have cb := kb.cell
          go_wp2_with fail
          refine (whole_any _ _).mono ?_; rintro e x1 ⟨rfl, hx1⟩
          replace ka := ka.below hx1; replace kb := kb.below hx1; replace kc := kc.below hx1; replace hbw := bl hbw hx1
          clear ca cb hx1
          have kc : Bx x1 C #[.int .i64 (kd d0), .int .i64 n0, .string ⟨#[]⟩, .int .i64 0, .int .i64 0, .string ⟨#[]⟩, .int .i64 0, .int .i64 0, .string ⟨#[]⟩] := kc
          have ca := ka.cell; have cb := kb.cell; have cc := kc.cell; have fc := kc.free
          go_wp2_with fail
          refine (dec_any _ _).mono ?_; rintro e x2 ⟨rfl, hx2⟩
          replace ka := (((ka.far (p := ⟨C, 3, none⟩) hAC (.int .i64 2)).far (p := ⟨C, 4, none⟩) hAC (.int .i64 n1)).far (p := ⟨C, 5, none⟩) hAC (.string ⟨#[]⟩)).below hx2; replace kb := (((kb.far (p := ⟨C, 3, none⟩) hBC (.int .i64 2)).far (p := ⟨C, 4, none⟩) hBC (.int .i64 n1)).far (p := ⟨C, 5, none⟩) hBC (.string ⟨#[]⟩)).below hx2; replace kc := (((kc.set 3 (by simp) (.int .i64 2)).set 4 (by simp) (.int .i64 n1)).set 5 (by simp) (.string ⟨#[]⟩)).below hx2
          replace hbw := bl (bl_set (bl_set (bl_set hbw (p := ⟨C, 3, none⟩) hwC _) (p := ⟨C, 4, none⟩) hwC _) (p := ⟨C, 5, none⟩) hwC _) hx2
          clear ca cb cc fc hx2
          have cc := kc.cell; have fc := kc.free
          go_wp2_with fail
          go_roundw
          case rel => first | exact ⟨2, by omega, by first | rfl | simp, (((ka.far (p := ⟨C, 3, none⟩) hAC (.int .i64 3)).far (p := ⟨C, 4, none⟩) hAC (.int .i64 n1)).far (p := ⟨C, 5, none⟩) hAC (.string ⟨#[]⟩)), (((kb.far (p := ⟨C, 3, none⟩) hBC (.int .i64 3)).far (p := ⟨C, 4, none⟩) hBC (.int .i64 n1)).far (p := ⟨C, 5, none⟩) hBC (.string ⟨#[]⟩)), (((kc.set 3 (by simp) (.int .i64 3)).set 4 (by simp) (.int .i64 n1)).set 5 (by simp) (.string ⟨#[]⟩)), bl_set (bl_set (bl_set hbw (p := ⟨C, 3, none⟩) hwC _) (p := ⟨C, 4, none⟩) hwC _) (p := ⟨C, 5, none⟩) hwC _⟩ | ((repeat apply Exists.intro); exact ⟨⟨2, by omega, by first | rfl | simp, (((ka.far (p := ⟨C, 3, none⟩) hAC (.int .i64 3)).far (p := ⟨C, 4, none⟩) hAC (.int .i64 n1)).far (p := ⟨C, 5, none⟩) hAC (.string ⟨#[]⟩)), (((kb.far (p := ⟨C, 3, none⟩) hBC (.int .i64 3)).far (p := ⟨C, 4, none⟩) hBC (.int .i64 n1)).far (p := ⟨C, 5, none⟩) hBC (.string ⟨#[]⟩)), (((kc.set 3 (by simp) (.int .i64 3)).set 4 (by simp) (.int .i64 n1)).set 5 (by simp) (.string ⟨#[]⟩)), bl_set (bl_set (bl_set hbw (p := ⟨C, 3, none⟩) hwC _) (p := ⟨C, 4, none⟩) hwC _) (p := ⟨C, 5, none⟩) hwC _⟩, rfl⟩)
          case measure => simp [intOf]
      · cases d2
        case false =>
          have ca := ka.cell; have cb := kb.cell
          go_wp2_with fail
          refine (whole_any _ _).mono ?_; rintro e x1 ⟨rfl, hx1⟩
          replace ka := ka.below hx1; replace kb := kb.below hx1; replace kc := kc.below hx1; replace hbw := bl hbw hx1
          clear ca cb hx1
          have kc : Bx x1 C #[.int .i64 (kd d0), .int .i64 n0, .string ⟨#[]⟩, .int .i64 (kd d1), .int .i64 n1, .string ⟨#[]⟩, .int .i64 0, .int .i64 0, .string ⟨#[]⟩] := kc
          have ca := ka.cell; have cb := kb.cell; have cc := kc.cell; have fc := kc.free
          go_wp2_with fail
          go_roundw
          case rel => first | exact ⟨3, by omega, by first | rfl | simp, (((ka.far (p := ⟨C, 6, none⟩) hAC (.int .i64 2)).far (p := ⟨C, 7, none⟩) hAC (.int .i64 n2)).far (p := ⟨C, 8, none⟩) hAC (.string ⟨#[]⟩)), (((kb.far (p := ⟨C, 6, none⟩) hBC (.int .i64 2)).far (p := ⟨C, 7, none⟩) hBC (.int .i64 n2)).far (p := ⟨C, 8, none⟩) hBC (.string ⟨#[]⟩)), (((kc.set 6 (by simp) (.int .i64 2)).set 7 (by simp) (.int .i64 n2)).set 8 (by simp) (.string ⟨#[]⟩)), bl_set (bl_set (bl_set hbw (p := ⟨C, 6, none⟩) hwC _) (p := ⟨C, 7, none⟩) hwC _) (p := ⟨C, 8, none⟩) hwC _⟩ | ((repeat apply Exists.intro); exact ⟨⟨3, by omega, by first | rfl | simp, (((ka.far (p := ⟨C, 6, none⟩) hAC (.int .i64 2)).far (p := ⟨C, 7, none⟩) hAC (.int .i64 n2)).far (p := ⟨C, 8, none⟩) hAC (.string ⟨#[]⟩)), (((kb.far (p := ⟨C, 6, none⟩) hBC (.int .i64 2)).far (p := ⟨C, 7, none⟩) hBC (.int .i64 n2)).far (p := ⟨C, 8, none⟩) hBC (.string ⟨#[]⟩)), (((kc.set 6 (by simp) (.int .i64 2)).set 7 (by simp) (.int .i64 n2)).set 8 (by simp) (.string ⟨#[]⟩)), bl_set (bl_set (bl_set hbw (p := ⟨C, 6, none⟩) hwC _) (p := ⟨C, 7, none⟩) hwC _) (p := ⟨C, 8, none⟩) hwC _⟩, rfl⟩)
          case measure => simp [intOf]
        case true =>
          have ca := ka.cell; have cb := kb.cell
          go_wp2_with fail
          refine (whole_any _ _).mono ?_; rintro e x1 ⟨rfl, hx1⟩
          replace ka := ka.below hx1; replace kb := kb.below hx1; replace kc := kc.below hx1; replace hbw := bl hbw hx1
          clear ca cb hx1
          have kc : Bx x1 C #[.int .i64 (kd d0), .int .i64 n0, .string ⟨#[]⟩, .int .i64 (kd d1), .int .i64 n1, .string ⟨#[]⟩, .int .i64 0, .int .i64 0, .string ⟨#[]⟩] := kc
          have ca := ka.cell; have cb := kb.cell; have cc := kc.cell; have fc := kc.free
          go_wp2_with fail
          refine (dec_any _ _).mono ?_; rintro e x2 ⟨rfl, hx2⟩
          replace ka := (((ka.far (p := ⟨C, 6, none⟩) hAC (.int .i64 2)).far (p := ⟨C, 7, none⟩) hAC (.int .i64 n2)).far (p := ⟨C, 8, none⟩) hAC (.string ⟨#[]⟩)).below hx2; replace kb := (((kb.far (p := ⟨C, 6, none⟩) hBC (.int .i64 2)).far (p := ⟨C, 7, none⟩) hBC (.int .i64 n2)).far (p := ⟨C, 8, none⟩) hBC (.string ⟨#[]⟩)).below hx2; replace kc := (((kc.set 6 (by simp) (.int .i64 2)).set 7 (by simp) (.int .i64 n2)).set 8 (by simp) (.string ⟨#[]⟩)).below hx2
          replace hbw := bl (bl_set (bl_set (bl_set hbw (p := ⟨C, 6, none⟩) hwC _) (p := ⟨C, 7, none⟩) hwC _) (p := ⟨C, 8, none⟩) hwC _) hx2
          clear ca cb cc fc hx2
          have cc := kc.cell; have fc := kc.free
          go_wp2_with fail
          go_roundw
          case rel => first | exact ⟨3, by omega, by first | rfl | simp, (((ka.far (p := ⟨C, 6, none⟩) hAC (.int .i64 3)).far (p := ⟨C, 7, none⟩) hAC (.int .i64 n2)).far (p := ⟨C, 8, none⟩) hAC (.string ⟨#[]⟩)), (((kb.far (p := ⟨C, 6, none⟩) hBC (.int .i64 3)).far (p := ⟨C, 7, none⟩) hBC (.int .i64 n2)).far (p := ⟨C, 8, none⟩) hBC (.string ⟨#[]⟩)), (((kc.set 6 (by simp) (.int .i64 3)).set 7 (by simp) (.int .i64 n2)).set 8 (by simp) (.string ⟨#[]⟩)), bl_set (bl_set (bl_set hbw (p := ⟨C, 6, none⟩) hwC _) (p := ⟨C, 7, none⟩) hwC _) (p := ⟨C, 8, none⟩) hwC _⟩ | ((repeat apply Exists.intro); exact ⟨⟨3, by omega, by first | rfl | simp, (((ka.far (p := ⟨C, 6, none⟩) hAC (.int .i64 3)).far (p := ⟨C, 7, none⟩) hAC (.int .i64 n2)).far (p := ⟨C, 8, none⟩) hAC (.string ⟨#[]⟩)), (((kb.far (p := ⟨C, 6, none⟩) hBC (.int .i64 3)).far (p := ⟨C, 7, none⟩) hBC (.int .i64 n2)).far (p := ⟨C, 8, none⟩) hBC (.string ⟨#[]⟩)), (((kc.set 6 (by simp) (.int .i64 3)).set 7 (by simp) (.int .i64 n2)).set 8 (by simp) (.string ⟨#[]⟩)), bl_set (bl_set (bl_set hbw (p := ⟨C, 6, none⟩) hwC _) (p := ⟨C, 7, none⟩) hwC _) (p := ⟨C, 8, none⟩) hwC _⟩, rfl⟩)
          case measure => simp [intOf]
      · go_wp2_with fail
        go_meet
        exact ⟨ka, kb, kc, hbw⟩
  case rest =>
    obtain ⟨ka, kb, kc, hbw⟩ := hcut
    have kc : Bx wc C #[.int .i64 (kd d0), .int .i64 n0, .string ⟨#[]⟩, .int .i64 (kd d1), .int .i64 n1, .string ⟨#[]⟩, .int .i64 (kd d2), .int .i64 n2, .string ⟨#[]⟩] := kc
    clear hBW
    generalize wc = W0 at ka kb kc hbw ⊢
    have HLW := Lib.hid (HLd.out.below hbw)
    have ca := kc.cell
    go_wp2_with fail
    refine (sign_num (kd d0) n0 (kd d1) n1 (kd_or _) (kd_or _) HB0.out.1 HB0.out.2 HB1.out.1 HB1.out.2 _).mono ?_; rintro e y0 ⟨c0, rfl, hc0, hl0, hu0, hy0⟩
    replace ka := ka.below hy0; replace kb := kb.below hy0; replace kc := kc.below hy0; replace hbw := bl hbw hy0; clear ca
    have ca := kc.cell
    go_wp2_with fail
    refine (sign_num (kd d1) n1 (kd d2) n2 (kd_or _) (kd_or _) HB1.out.1 HB1.out.2 HB2.out.1 HB2.out.2 _).mono ?_; rintro e y1 ⟨c1, rfl, hc1, hl1, hu1, hy1⟩
    replace ka := ka.below hy1; replace kb := kb.below hy1; replace kc := kc.below hy1; replace hbw := bl hbw hy1; clear ca
    have ca := kc.cell
    go_wp2_with fail
    refine (sign_num (kd d0) n0 (kd d2) n2 (kd_or _) (kd_or _) HB0.out.1 HB0.out.2 HB2.out.1 HB2.out.2 _).mono ?_; rintro e y2 ⟨c2, rfl, hc2, hl2, hu2, hy2⟩
    replace ka := ka.below hy2; replace kb := kb.below hy2; replace kc := kc.below hy2; replace hbw := bl hbw hy2; clear ca
    have ca := kc.cell
    go_wp2_with fail
    refine (sign_num (kd d1) n1 (kd d0) n0 (kd_or _) (kd_or _) HB1.out.1 HB1.out.2 HB0.out.1 HB0.out.2 _).mono ?_; rintro e y3 ⟨c3, rfl, hc3, hl3, hu3, hy3⟩
    replace ka := ka.below hy3; replace kb := kb.below hy3; replace kc := kc.below hy3; replace hbw := bl hbw hy3; clear ca
    replace HLW := Lib.hid (HLd.out.below hbw)
    clear hy0 hy1 hy2 hy3
    go_upto_region 12 with (fail)
    generalize y3 = W1 at ka kb kc hbw HLW ⊢
    have hsw : c3 = -c0 := by rw [hc0.out, hc3.out]; exact (cmp3_swap _ _).symm
    subst hsw
    have htr : c0 ≤ 0 → c1 ≤ 0 → c2 ≤ 0 := by rw [hc0.out, hc1.out, hc2.out]; exact cmp3_trans
    have hsm : d0 = d1 → (decide (c0 < 0)) = decide (n0 < n1) := by rintro rfl; rw [hc0.out, ← cmp3_scl]; exact cmp3_neg
    have HTR := Lib.hid htr; have HSM := Lib.hid hsm; clear htr hsm
    have HC0 : Hid (-1 ≤ c0 ∧ c0 ≤ 1) := Lib.hid ⟨hl0, hu0⟩
    clear hl0 hu0 hl1 hu1 hl2 hu2 hl3 hu3 hc1 hc2 hc3
    go_cut [119] from 72 to 118 (fun t wx => t = .bool false ∧ W1 = wx)
    case first =>
      have ew : IntKind.i64.wrap c0 = c0 := by have := HC0.out; simp only [IntKind.wrap_i64, wrap64]; omega
      have cb := kb.cell; have ca := ka.cell
      have fin : ∀ g : Prop, g → g := fun _ h => h
      clear fin
      rcases (by omega : (c0 ≤ 0 ∧ c1 ≤ 0) ∨ (c0 ≤ 0 ∧ ¬ c1 ≤ 0) ∨ ¬ c0 ≤ 0) with ⟨h0, h1⟩ | ⟨h0, h1⟩ | h0
      · have t0 : decide (c0 ≤ 0) = true := decide_eq_true h0; have t1 : decide (c1 ≤ 0) = true := decide_eq_true h1; have t2 : decide (0 < c2) = false := decide_eq_false (by have := HTR.out h0 h1; omega)
        clear h0 h1
        cases hd : (d0 == d1)
        case false => go_wp2_with fail; go_meet; exact ⟨rfl, rfl⟩
        case true =>
          have t3 := HSM.out (by simpa using hd)
          go_wp2_with fail; go_meet; exact ⟨rfl, rfl⟩
      · have t0 : decide (c0 ≤ 0) = true := decide_eq_true h0; have t1 : decide (c1 ≤ 0) = false := decide_eq_false h1
        clear h0 h1
        cases hd : (d0 == d1)
        case false => go_wp2_with fail; go_meet; exact ⟨rfl, rfl⟩
        case true =>
          have t3 := HSM.out (by simpa using hd)
          go_wp2_with fail; go_meet; exact ⟨rfl, rfl⟩
      · have t0 : decide (c0 ≤ 0) = false := decide_eq_false h0
        clear h0
        cases hd : (d0 == d1)
        case false => go_wp2_with fail; go_meet; exact ⟨rfl, rfl⟩
        case true =>
          have t3 := HSM.out (by simpa using hd)
          go_wp2_with fail; go_meet; exact ⟨rfl, rfl⟩
    case rest =>
      obtain ⟨rfl, rfl⟩ := hcut
      go_upto_region 16 with (fail)
      have ko : Bx ((W1.alloc (.cells #[.int .i64 8, .int .i64 9, .int .i64 10, .int .i64 11, .int .i64 12, .int .i64 13] 54)).alloc (.cells #[.bool (c0 == 0), .bool (c0 != 0), .bool (decide (c0 < 0)), .bool (decide (c0 ≤ 0)), .bool (decide (0 < c0)), .bool (decide (0 ≤ c0))] 4)) W1.heap.size #[.int .i64 8, .int .i64 9, .int .i64 10, .int .i64 11, .int .i64 12, .int .i64 13] := (Bx.new _ _ _).alloc _
      have kw : Bx ((W1.alloc (.cells #[.int .i64 8, .int .i64 9, .int .i64 10, .int .i64 11, .int .i64 12, .int .i64 13] 54)).alloc (.cells #[.bool (c0 == 0), .bool (c0 != 0), .bool (decide (c0 < 0)), .bool (decide (c0 ≤ 0)), .bool (decide (0 < c0)), .bool (decide (0 ≤ c0))] 4)) (W1.heap.size + 1) #[.bool (c0 == 0), .bool (c0 != 0), .bool (decide (c0 < 0)), .bool (decide (c0 ≤ 0)), .bool (decide (0 < c0)), .bool (decide (0 ≤ c0))] := by have h := Bx.new (W1.alloc (.cells #[.int .i64 8, .int .i64 9, .int .i64 10, .int .i64 11, .int .i64 12, .int .i64 13] 54)) #[.bool (c0 == 0), .bool (c0 != 0), .bool (decide (c0 < 0)), .bool (decide (c0 ≤ 0)), .bool (decide (0 < c0)), .bool (decide (0 ≤ c0))] 4; simpa using h
      have kc : Bx ((W1.alloc (.cells #[.int .i64 8, .int .i64 9, .int .i64 10, .int .i64 11, .int .i64 12, .int .i64 13] 54)).alloc (.cells #[.bool (c0 == 0), .bool (c0 != 0), .bool (decide (c0 < 0)), .bool (decide (c0 ≤ 0)), .bool (decide (0 < c0)), .bool (decide (0 ≤ c0))] 4)) C #[.int .i64 (kd d0), .int .i64 n0, .string ⟨#[]⟩, .int .i64 (kd d1), .int .i64 n1, .string ⟨#[]⟩, .int .i64 (kd d2), .int .i64 n2, .string ⟨#[]⟩] := (kc.alloc _).alloc _
      have hbw : Below w.heap.size w ((W1.alloc (.cells #[.int .i64 8, .int .i64 9, .int .i64 10, .int .i64 11, .int .i64 12, .int .i64 13] 54)).alloc (.cells #[.bool (c0 == 0), .bool (c0 != 0), .bool (decide (c0 < 0)), .bool (decide (c0 ≤ 0)), .bool (decide (0 < c0)), .bool (decide (0 ≤ c0))] 4)) := by (repeat' (first | exact Below.refl _ _ | refine bl_set ?_ (by first | (simp; done) | (simp; omega)) _ | (with_reducible assumption) | refine bl_alloc ?_ _ | refine bl_drewN ?_ _ | refine bl_drew ?_ | refine bl ?_ (by with_reducible assumption)))
      generalize hgen : ((W1.alloc (.cells #[.int .i64 8, .int .i64 9, .int .i64 10, .int .i64 11, .int .i64 12, .int .i64 13] 54)).alloc (.cells #[.bool (c0 == 0), .bool (c0 != 0), .bool (decide (c0 < 0)), .bool (decide (c0 ≤ 0)), .bool (decide (0 < c0)), .bool (decide (0 ≤ c0))] 4)) = W2 at ko kw kc hbw ⊢
      clear hgen ka kb HLW HSM HTR
      generalize W1.heap.size + 1 = O2 at kw ⊢
      generalize W1.heap.size = O1 at ko ⊢
      obtain ⟨w0, hw0⟩ : ∃ b : Bool, b = (c0 == 0) := ⟨_, rfl⟩
      obtain ⟨w1, hw1⟩ : ∃ b : Bool, b = (c0 != 0) := ⟨_, rfl⟩
      obtain ⟨w2, hw2⟩ : ∃ b : Bool, b = (decide (c0 < 0)) := ⟨_, rfl⟩
      obtain ⟨w3, hw3⟩ : ∃ b : Bool, b = (decide (c0 ≤ 0)) := ⟨_, rfl⟩
      obtain ⟨w4, hw4⟩ : ∃ b : Bool, b = (decide (0 < c0)) := ⟨_, rfl⟩
      obtain ⟨w5, hw5⟩ : ∃ b : Bool, b = (decide (0 ≤ c0)) := ⟨_, rfl⟩
      rw [← hw0, ← hw1, ← hw2, ← hw3, ← hw4, ← hw5] at kw
      have HQ0 : Hid (opB 8 c0 = w0) := Lib.hid hw0.symm
      have HQ1 : Hid (opB 9 c0 = w1) := Lib.hid hw1.symm
      have HQ2 : Hid (opB 10 c0 = w2) := Lib.hid hw2.symm
      have HQ3 : Hid (opB 11 c0 = w3) := Lib.hid hw3.symm
      have HQ4 : Hid (opB 12 c0 = w4) := Lib.hid hw4.symm
      have HQ5 : Hid (opB 13 c0 = w5) := Lib.hid hw5.symm
      clear hw0 hw1 hw2 hw3 hw4 hw5
      go_upto_block 2 with (fail)
      go_cut [17] (fun t wx => Below w.heap.size w wx)
      case first =>
        go_wp2_with fail
        go_loopw [17] (fun t wr => ∃ i : Nat, i ≤ 6 ∧ t = .int .i64 i ∧ Bx wr O1 #[.int .i64 8, .int .i64 9, .int .i64 10, .int .i64 11, .int .i64 12, .int .i64 13] ∧ Bx wr O2 #[.bool w0, .bool w1, .bool w2, .bool w3, .bool w4, .bool w5] ∧ Bx wr C #[.int .i64 (kd d0), .int .i64 n0, .string ⟨#[]⟩, .int .i64 (kd d1), .int .i64 n1, .string ⟨#[]⟩, .int .i64 (kd d2), .int .i64 n2, .string ⟨#[]⟩] ∧ Below w.heap.size w wr) (fun t _ => 6 - (intOf t).toNat)
        case atStart => exact ⟨0, by omega, rfl, ko, kw, kc, hbw⟩
        case round =>
          clear ko kw kc hbw
          obtain ⟨i, hi, rfl, ko, kw, kc, hbw⟩ := hrel
          rcases (show i = 0 ∨ i = 1 ∨ i = 2 ∨ i = 3 ∨ i = 4 ∨ i = 5 ∨ i = 6 from by omega) with rfl | rfl | rfl | rfl | rfl | rfl | rfl
          · go_upto_region 19 with (fail)
            have ck := ko.cell; have cc := kc.cell
            have hmk : Hid (∀ w', Below wr.heap.size wr w' → (fun w' => (∀ i : Nat, w'.cell? ⟨O1, i, none⟩ = (#[.int .i64 8, .int .i64 9, .int .i64 10, .int .i64 11, .int .i64 12, .int .i64 13] : Array Value)[i]?) ∧ (∀ i : Nat, w'.cell? ⟨C, i, none⟩ = (#[.int .i64 (kd d0), .int .i64 n0, .string ⟨#[]⟩, .int .i64 (kd d1), .int .i64 n1, .string ⟨#[]⟩, .int .i64 (kd d2), .int .i64 n2, .string ⟨#[]⟩] : Array Value)[i]?) ∧ Below wr.heap.size wr w') w') := Lib.hid fun w' h => ⟨(ko.below h).cell, (kc.below h).cell, h⟩
            have hdr := size_drew
            go_cut [18, 19] from 138 to 149 (fun s t wx => t = .nilIface ∧ (∃ p N, s = .pointer (some ⟨p, 0, none⟩) ∧ Hid (N = if w0 then (1 : Int) else 0) ∧ Bx wx p #[.int .i64 1, .int .i64 N, .string ⟨#[]⟩]) ∧ Below wr.heap.size wr wx)
            case first =>
              go_region_held3 (fun w' => (∀ i : Nat, w'.cell? ⟨O1, i, none⟩ = (#[.int .i64 8, .int .i64 9, .int .i64 10, .int .i64 11, .int .i64 12, .int .i64 13] : Array Value)[i]?) ∧ (∀ i : Nat, w'.cell? ⟨C, i, none⟩ = (#[.int .i64 (kd d0), .int .i64 n0, .string ⟨#[]⟩, .int .i64 (kd d1), .int .i64 n1, .string ⟨#[]⟩, .int .i64 (kd d2), .int .i64 n2, .string ⟨#[]⟩] : Array Value)[i]?) ∧ Below wr.heap.size wr w') ((refine hmk.out _ ?_; exact by (repeat' (first | exact Below.refl _ _ | refine bl_set ?_ (by first | (simp; done) | (simp; omega)) _ | (with_reducible assumption) | refine bl_alloc ?_ _ | refine bl_drewN ?_ _ | refine bl_drew ?_ | refine bl ?_ (by with_reducible assumption))))) (first | (go_at_call 34; refine (cmp_line 8 (kd d0) n0 (kd d1) n1 c0 w0 (by omega) (by omega) (kd_or _) (kd_or _) HB0.out HB1.out hc0 HQ0.out _).mono ?_; rintro e x2 ⟨⟨N, rfl, hN⟩, hx2⟩; (obtain ⟨hcx2, hfx2⟩ := bcell hx2; have hsx2 := (hx2).size; (try simp only [World.size_alloc, World.size_setCell, World.heap_drewN, size_drew, Nat.add_one_le_iff] at hsx2))))
              all_goals (go_wp2_with fail; go_meet; refine ⟨rfl, ⟨_, N, rfl, hN, ?_⟩, by (repeat' (first | exact Below.refl _ _ | refine bl_set ?_ (by first | (simp; done) | (simp; omega)) _ | (with_reducible assumption) | refine bl_alloc ?_ _ | refine bl_drewN ?_ _ | refine bl_drew ?_ | refine bl ?_ (by with_reducible assumption)))⟩; first | exact Bx.new _ _ _ | exact ((((Bx.new _ _ _).below hx2).set 0 (by simp) (.int .i64 1)).set 1 (by simp) (.int .i64 N)).set 2 (by simp) (.string ⟨#[]⟩) | exact ((((bx_drew (Bx.new _ _ _)).below hx2).set 0 (by simp) (.int .i64 1)).set 1 (by simp) (.int .i64 N)).set 2 (by simp) (.string ⟨#[]⟩))
            case rest =>
              obtain ⟨rfl, ⟨p, N, rfl, hN, kp⟩, hcw⟩ := hcut
              clear ck cc hmk
              replace ko := ko.below hcw; replace kw := kw.below hcw; replace kc := kc.below hcw; replace hbw := bl hbw hcw; clear hcw
              generalize wc = W4 at ko kw kc kp hbw ⊢
              go_upto_region 20 with (fail)
              have cp := kp.cell; have cw := kw.cell
              go_cut [166] from 150 to 165 (fun t wx => t = .bool false ∧ ∃ q, wx = W4.drewN q)
              case first => cases w0 <;> (have hN2 := hN.out; simp at hN2; subst hN2; clear hN; go_quiet (fail); go_wp2_with fail; go_meet; exact ⟨rfl, _, rfl⟩)
              case rest =>
                obtain ⟨rfl, nq, rfl⟩ := hcut
                clear cp cw kp
                replace ko := ko.drewN nq; replace kw := kw.drewN nq; replace kc := kc.drewN nq; replace hbw := bl_drewN hbw nq
                generalize W4.drewN nq = W5 at ko kw kc hbw ⊢
                go_wp2_with fail
                go_roundw
                case rel => first | exact ⟨1, by omega, by first | rfl | simp, ko, kw, kc, hbw⟩ | ((repeat apply Exists.intro); exact ⟨⟨1, by omega, by first | rfl | simp, ko, kw, kc, hbw⟩, rfl⟩)
                case measure => simp [intOf]
          · go_upto_region 19 with (fail)
            have ck := ko.cell; have cc := kc.cell
            have hmk : Hid (∀ w', Below wr.heap.size wr w' → (fun w' => (∀ i : Nat, w'.cell? ⟨O1, i, none⟩ = (#[.int .i64 8, .int .i64 9, .int .i64 10, .int .i64 11, .int .i64 12, .int .i64 13] : Array Value)[i]?) ∧ (∀ i : Nat, w'.cell? ⟨C, i, none⟩ = (#[.int .i64 (kd d0), .int .i64 n0, .string ⟨#[]⟩, .int .i64 (kd d1), .int .i64 n1, .string ⟨#[]⟩, .int .i64 (kd d2), .int .i64 n2, .string ⟨#[]⟩] : Array Value)[i]?) ∧ Below wr.heap.size wr w') w') := Lib.hid fun w' h => ⟨(ko.below h).cell, (kc.below h).cell, h⟩
            have hdr := size_drew
            go_cut [18, 19] from 138 to 149 (fun s t wx => t = .nilIface ∧ (∃ p N, s = .pointer (some ⟨p, 0, none⟩) ∧ Hid (N = if w1 then (1 : Int) else 0) ∧ Bx wx p #[.int .i64 1, .int .i64 N, .string ⟨#[]⟩]) ∧ Below wr.heap.size wr wx)
            case first =>
              go_region_held3 (fun w' => (∀ i : Nat, w'.cell? ⟨O1, i, none⟩ = (#[.int .i64 8, .int .i64 9, .int .i64 10, .int .i64 11, .int .i64 12, .int .i64 13] : Array Value)[i]?) ∧ (∀ i : Nat, w'.cell? ⟨C, i, none⟩ = (#[.int .i64 (kd d0), .int .i64 n0, .string ⟨#[]⟩, .int .i64 (kd d1), .int .i64 n1, .string ⟨#[]⟩, .int .i64 (kd d2), .int .i64 n2, .string ⟨#[]⟩] : Array Value)[i]?) ∧ Below wr.heap.size wr w') ((refine hmk.out _ ?_; exact by (repeat' (first | exact Below.refl _ _ | refine bl_set ?_ (by first | (simp; done) | (simp; omega)) _ | (with_reducible assumption) | refine bl_alloc ?_ _ | refine bl_drewN ?_ _ | refine bl_drew ?_ | refine bl ?_ (by with_reducible assumption))))) (first | (go_at_call 34; refine (cmp_line 9 (kd d0) n0 (kd d1) n1 c0 w1 (by omega) (by omega) (kd_or _) (kd_or _) HB0.out HB1.out hc0 HQ1.out _).mono ?_; rintro e x2 ⟨⟨N, rfl, hN⟩, hx2⟩; (obtain ⟨hcx2, hfx2⟩ := bcell hx2; have hsx2 := (hx2).size; (try simp only [World.size_alloc, World.size_setCell, World.heap_drewN, size_drew, Nat.add_one_le_iff] at hsx2))))
              all_goals (go_wp2_with fail; go_meet; refine ⟨rfl, ⟨_, N, rfl, hN, ?_⟩, by (repeat' (first | exact Below.refl _ _ | refine bl_set ?_ (by first | (simp; done) | (simp; omega)) _ | (with_reducible assumption) | refine bl_alloc ?_ _ | refine bl_drewN ?_ _ | refine bl_drew ?_ | refine bl ?_ (by with_reducible assumption)))⟩; first | exact Bx.new _ _ _ | exact ((((Bx.new _ _ _).below hx2).set 0 (by simp) (.int .i64 1)).set 1 (by simp) (.int .i64 N)).set 2 (by simp) (.string ⟨#[]⟩) | exact ((((bx_drew (Bx.new _ _ _)).below hx2).set 0 (by simp) (.int .i64 1)).set 1 (by simp) (.int .i64 N)).set 2 (by simp) (.string ⟨#[]⟩))
            case rest =>
              obtain ⟨rfl, ⟨p, N, rfl, hN, kp⟩, hcw⟩ := hcut
              clear ck cc hmk
              replace ko := ko.below hcw; replace kw := kw.below hcw; replace kc := kc.below hcw; replace hbw := bl hbw hcw; clear hcw
              generalize wc = W4 at ko kw kc kp hbw ⊢
              go_upto_region 20 with (fail)
              have cp := kp.cell; have cw := kw.cell
              go_cut [166] from 150 to 165 (fun t wx => t = .bool false ∧ ∃ q, wx = W4.drewN q)
              case first => cases w1 <;> (have hN2 := hN.out; simp at hN2; subst hN2; clear hN; go_quiet (fail); go_wp2_with fail; go_meet; exact ⟨rfl, _, rfl⟩)
              case rest =>
                obtain ⟨rfl, nq, rfl⟩ := hcut
                clear cp cw kp
                replace ko := ko.drewN nq; replace kw := kw.drewN nq; replace kc := kc.drewN nq; replace hbw := bl_drewN hbw nq
                generalize W4.drewN nq = W5 at ko kw kc hbw ⊢
                go_wp2_with fail
                go_roundw
                case rel => first | exact ⟨2, by omega, by first | rfl | simp, ko, kw, kc, hbw⟩ | ((repeat apply Exists.intro); exact ⟨⟨2, by omega, by first | rfl | simp, ko, kw, kc, hbw⟩, rfl⟩)
                case measure => simp [intOf]
          · go_upto_region 19 with (fail)
            have ck := ko.cell; have cc := kc.cell
            have hmk : Hid (∀ w', Below wr.heap.size wr w' → (fun w' => (∀ i : Nat, w'.cell? ⟨O1, i, none⟩ = (#[.int .i64 8, .int .i64 9, .int .i64 10, .int .i64 11, .int .i64 12, .int .i64 13] : Array Value)[i]?) ∧ (∀ i : Nat, w'.cell? ⟨C, i, none⟩ = (#[.int .i64 (kd d0), .int .i64 n0, .string ⟨#[]⟩, .int .i64 (kd d1), .int .i64 n1, .string ⟨#[]⟩, .int .i64 (kd d2), .int .i64 n2, .string ⟨#[]⟩] : Array Value)[i]?) ∧ Below wr.heap.size wr w') w') := Lib.hid fun w' h => ⟨(ko.below h).cell, (kc.below h).cell, h⟩
            have hdr := size_drew
            go_cut [18, 19] from 138 to 149 (fun s t wx => t = .nilIface ∧ (∃ p N, s = .pointer (some ⟨p, 0, none⟩) ∧ Hid (N = if w2 then (1 : Int) else 0) ∧ Bx wx p #[.int .i64 1, .int .i64 N, .string ⟨#[]⟩]) ∧ Below wr.heap.size wr wx)
            case first =>
              go_region_held3 (fun w' => (∀ i : Nat, w'.cell? ⟨O1, i, none⟩ = (#[.int .i64 8, .int .i64 9, .int .i64 10, .int .i64 11, .int .i64 12, .int .i64 13] : Array Value)[i]?) ∧ (∀ i : Nat, w'.cell? ⟨C, i, none⟩ = (#[.int .i64 (kd d0), .int .i64 n0, .string ⟨#[]⟩, .int .i64 (kd d1), .int .i64 n1, .string ⟨#[]⟩, .int .i64 (kd d2), .int .i64 n2, .string ⟨#[]⟩] : Array Value)[i]?) ∧ Below wr.heap.size wr w') ((refine hmk.out _ ?_; exact by (repeat' (first | exact Below.refl _ _ | refine bl_set ?_ (by first | (simp; done) | (simp; omega)) _ | (with_reducible assumption) | refine bl_alloc ?_ _ | refine bl_drewN ?_ _ | refine bl_drew ?_ | refine bl ?_ (by with_reducible assumption))))) (first | (go_at_call 34; refine (cmp_line 10 (kd d0) n0 (kd d1) n1 c0 w2 (by omega) (by omega) (kd_or _) (kd_or _) HB0.out HB1.out hc0 HQ2.out _).mono ?_; rintro e x2 ⟨⟨N, rfl, hN⟩, hx2⟩; (obtain ⟨hcx2, hfx2⟩ := bcell hx2; have hsx2 := (hx2).size; (try simp only [World.size_alloc, World.size_setCell, World.heap_drewN, size_drew, Nat.add_one_le_iff] at hsx2))))
              all_goals (go_wp2_with fail; go_meet; refine ⟨rfl, ⟨_, N, rfl, hN, ?_⟩, by (repeat' (first | exact Below.refl _ _ | refine bl_set ?_ (by first | (simp; done) | (simp; omega)) _ | (with_reducible assumption) | refine bl_alloc ?_ _ | refine bl_drewN ?_ _ | refine bl_drew ?_ | refine bl ?_ (by with_reducible assumption)))⟩; first | exact Bx.new _ _ _ | exact ((((Bx.new _ _ _).below hx2).set 0 (by simp) (.int .i64 1)).set 1 (by simp) (.int .i64 N)).set 2 (by simp) (.string ⟨#[]⟩) | exact ((((bx_drew (Bx.new _ _ _)).below hx2).set 0 (by simp) (.int .i64 1)).set 1 (by simp) (.int .i64 N)).set 2 (by simp) (.string ⟨#[]⟩))
            case rest =>
              obtain ⟨rfl, ⟨p, N, rfl, hN, kp⟩, hcw⟩ := hcut
              clear ck cc hmk
              replace ko := ko.below hcw; replace kw := kw.below hcw; replace kc := kc.below hcw; replace hbw := bl hbw hcw; clear hcw
              generalize wc = W4 at ko kw kc kp hbw ⊢
              go_upto_region 20 with (fail)
              have cp := kp.cell; have cw := kw.cell
              go_cut [166] from 150 to 165 (fun t wx => t = .bool false ∧ ∃ q, wx = W4.drewN q)
              case first => cases w2 <;> (have hN2 := hN.out; simp at hN2; subst hN2; clear hN; go_quiet (fail); go_wp2_with fail; go_meet; exact ⟨rfl, _, rfl⟩)
              case rest =>
                obtain ⟨rfl, nq, rfl⟩ := hcut
                clear cp cw kp
                replace ko := ko.drewN nq; replace kw := kw.drewN nq; replace kc := kc.drewN nq; replace hbw := bl_drewN hbw nq
                generalize W4.drewN nq = W5 at ko kw kc hbw ⊢
                go_wp2_with fail
                go_roundw
                case rel => first | exact ⟨3, by omega, by first | rfl | simp, ko, kw, kc, hbw⟩ | ((repeat apply Exists.intro); exact ⟨⟨3, by omega, by first | rfl | simp, ko, kw, kc, hbw⟩, rfl⟩)
                case measure => simp [intOf]
          · go_upto_region 19 with (fail)
            have ck := ko.cell; have cc := kc.cell
            have hmk : Hid (∀ w', Below wr.heap.size wr w' → (fun w' => (∀ i : Nat, w'.cell? ⟨O1, i, none⟩ = (#[.int .i64 8, .int .i64 9, .int .i64 10, .int .i64 11, .int .i64 12, .int .i64 13] : Array Value)[i]?) ∧ (∀ i : Nat, w'.cell? ⟨C, i, none⟩ = (#[.int .i64 (kd d0), .int .i64 n0, .string ⟨#[]⟩, .int .i64 (kd d1), .int .i64 n1, .string ⟨#[]⟩, .int .i64 (kd d2), .int .i64 n2, .string ⟨#[]⟩] : Array Value)[i]?) ∧ Below wr.heap.size wr w') w') := Lib.hid fun w' h => ⟨(ko.below h).cell, (kc.below h).cell, h⟩
            have hdr := size_drew
            go_cut [18, 19] from 138 to 149 (fun s t wx => t = .nilIface ∧ (∃ p N, s = .pointer (some ⟨p, 0, none⟩) ∧ Hid (N = if w3 then (1 : Int) else 0) ∧ Bx wx p #[.int .i64 1, .int .i64 N, .string ⟨#[]⟩]) ∧ Below wr.heap.size wr wx)
            case first =>
              go_region_held3 (fun w' => (∀ i : Nat, w'.cell? ⟨O1, i, none⟩ = (#[.int .i64 8, .int .i64 9, .int .i64 10, .int .i64 11, .int .i64 12, .int .i64 13] : Array Value)[i]?) ∧ (∀ i : Nat, w'.cell? ⟨C, i, none⟩ = (#[.int .i64 (kd d0), .int .i64 n0, .string ⟨#[]⟩, .int .i64 (kd d1), .int .i64 n1, .string ⟨#[]⟩, .int .i64 (kd d2), .int .i64 n2, .string ⟨#[]⟩] : Array Value)[i]?) ∧ Below wr.heap.size wr w') ((refine hmk.out _ ?_; exact by (repeat' (first | exact Below.refl _ _ | refine bl_set ?_ (by first | (simp; done) | (simp; omega)) _ | (with_reducible assumption) | refine bl_alloc ?_ _ | refine bl_drewN ?_ _ | refine bl_drew ?_ | refine bl ?_ (by with_reducible assumption))))) (first | (go_at_call 34; refine (cmp_line 11 (kd d0) n0 (kd d1) n1 c0 w3 (by omega) (by omega) (kd_or _) (kd_or _) HB0.out HB1.out hc0 HQ3.out _).mono ?_; rintro e x2 ⟨⟨N, rfl, hN⟩, hx2⟩; (obtain ⟨hcx2, hfx2⟩ := bcell hx2; have hsx2 := (hx2).size; (try simp only [World.size_alloc, World.size_setCell, World.heap_drewN, size_drew, Nat.add_one_le_iff] at hsx2))))
              all_goals (go_wp2_with fail; go_meet; refine ⟨rfl, ⟨_, N, rfl, hN, ?_⟩, by (repeat' (first | exact Below.refl _ _ | refine bl_set ?_ (by first | (simp; done) | (simp; omega)) _ | (with_reducible assumption) | refine bl_alloc ?_ _ | refine bl_drewN ?_ _ | refine bl_drew ?_ | refine bl ?_ (by with_reducible assumption)))⟩; first | exact Bx.new _ _ _ | exact ((((Bx.new _ _ _).below hx2).set 0 (by simp) (.int .i64 1)).set 1 (by simp) (.int .i64 N)).set 2 (by simp) (.string ⟨#[]⟩) | exact ((((bx_drew (Bx.new _ _ _)).below hx2).set 0 (by simp) (.int .i64 1)).set 1 (by simp) (.int .i64 N)).set 2 (by simp) (.string ⟨#[]⟩))
            case rest =>
              obtain ⟨rfl, ⟨p, N, rfl, hN, kp⟩, hcw⟩ := hcut
              clear ck cc hmk
              replace ko := ko.below hcw; replace kw := kw.below hcw; replace kc := kc.below hcw; replace hbw := bl hbw hcw; clear hcw
              generalize wc = W4 at ko kw kc kp hbw ⊢
              go_upto_region 20 with (fail)
              have cp := kp.cell; have cw := kw.cell
              go_cut [166] from 150 to 165 (fun t wx => t = .bool false ∧ ∃ q, wx = W4.drewN q)
              case first => cases w3 <;> (have hN2 := hN.out; simp at hN2; subst hN2; clear hN; go_quiet (fail); go_wp2_with fail; go_meet; exact ⟨rfl, _, rfl⟩)
              case rest =>
                obtain ⟨rfl, nq, rfl⟩ := hcut
                clear cp cw kp
                replace ko := ko.drewN nq; replace kw := kw.drewN nq; replace kc := kc.drewN nq; replace hbw := bl_drewN hbw nq
                generalize W4.drewN nq = W5 at ko kw kc hbw ⊢
                go_wp2_with fail
                go_roundw
                case rel => first | exact ⟨4, by omega, by first | rfl | simp, ko, kw, kc, hbw⟩ | ((repeat apply Exists.intro); exact ⟨⟨4, by omega, by first | rfl | simp, ko, kw, kc, hbw⟩, rfl⟩)
                case measure => simp [intOf]
          · go_upto_region 19 with (fail)
            have ck := ko.cell; have cc := kc.cell
            have hmk : Hid (∀ w', Below wr.heap.size wr w' → (fun w' => (∀ i : Nat, w'.cell? ⟨O1, i, none⟩ = (#[.int .i64 8, .int .i64 9, .int .i64 10, .int .i64 11, .int .i64 12, .int .i64 13] : Array Value)[i]?) ∧ (∀ i : Nat, w'.cell? ⟨C, i, none⟩ = (#[.int .i64 (kd d0), .int .i64 n0, .string ⟨#[]⟩, .int .i64 (kd d1), .int .i64 n1, .string ⟨#[]⟩, .int .i64 (kd d2), .int .i64 n2, .string ⟨#[]⟩] : Array Value)[i]?) ∧ Below wr.heap.size wr w') w') := Lib.hid fun w' h => ⟨(ko.below h).cell, (kc.below h).cell, h⟩
            have hdr := size_drew
            go_cut [18, 19] from 138 to 149 (fun s t wx => t = .nilIface ∧ (∃ p N, s = .pointer (some ⟨p, 0, none⟩) ∧ Hid (N = if w4 then (1 : Int) else 0) ∧ Bx wx p #[.int .i64 1, .int .i64 N, .string ⟨#[]⟩]) ∧ Below wr.heap.size wr wx)
            case first =>
              go_region_held3 (fun w' => (∀ i : Nat, w'.cell? ⟨O1, i, none⟩ = (#[.int .i64 8, .int .i64 9, .int .i64 10, .int .i64 11, .int .i64 12, .int .i64 13] : Array Value)[i]?) ∧ (∀ i : Nat, w'.cell? ⟨C, i, none⟩ = (#[.int .i64 (kd d0), .int .i64 n0, .string ⟨#[]⟩, .int .i64 (kd d1), .int .i64 n1, .string ⟨#[]⟩, .int .i64 (kd d2), .int .i64 n2, .string ⟨#[]⟩] : Array Value)[i]?) ∧ Below wr.heap.size wr w') ((refine hmk.out _ ?_; exact by (repeat' (first | exact Below.refl _ _ | refine bl_set ?_ (by first | (simp; done) | (simp; omega)) _ | (with_reducible assumption) | refine bl_alloc ?_ _ | refine bl_drewN ?_ _ | refine bl_drew ?_ | refine bl ?_ (by with_reducible assumption))))) (first | (go_at_call 34; refine (cmp_line 12 (kd d0) n0 (kd d1) n1 c0 w4 (by omega) (by omega) (kd_or _) (kd_or _) HB0.out HB1.out hc0 HQ4.out _).mono ?_; rintro e x2 ⟨⟨N, rfl, hN⟩, hx2⟩; (obtain ⟨hcx2, hfx2⟩ := bcell hx2; have hsx2 := (hx2).size; (try simp only [World.size_alloc, World.size_setCell, World.heap_drewN, size_drew, Nat.add_one_le_iff] at hsx2))))
              all_goals (go_wp2_with fail; go_meet; refine ⟨rfl, ⟨_, N, rfl, hN, ?_⟩, by (repeat' (first | exact Below.refl _ _ | refine bl_set ?_ (by first | (simp; done) | (simp; omega)) _ | (with_reducible assumption) | refine bl_alloc ?_ _ | refine bl_drewN ?_ _ | refine bl_drew ?_ | refine bl ?_ (by with_reducible assumption)))⟩; first | exact Bx.new _ _ _ | exact ((((Bx.new _ _ _).below hx2).set 0 (by simp) (.int .i64 1)).set 1 (by simp) (.int .i64 N)).set 2 (by simp) (.string ⟨#[]⟩) | exact ((((bx_drew (Bx.new _ _ _)).below hx2).set 0 (by simp) (.int .i64 1)).set 1 (by simp) (.int .i64 N)).set 2 (by simp) (.string ⟨#[]⟩))
            case rest =>
              obtain ⟨rfl, ⟨p, N, rfl, hN, kp⟩, hcw⟩ := hcut
              clear ck cc hmk
              replace ko := ko.below hcw; replace kw := kw.below hcw; replace kc := kc.below hcw; replace hbw := bl hbw hcw; clear hcw
              generalize wc = W4 at ko kw kc kp hbw ⊢
              go_upto_region 20 with (fail)
              have cp := kp.cell; have cw := kw.cell
              go_cut [166] from 150 to 165 (fun t wx => t = .bool false ∧ ∃ q, wx = W4.drewN q)
              case first => cases w4 <;> (have hN2 := hN.out; simp at hN2; subst hN2; clear hN; go_quiet (fail); go_wp2_with fail; go_meet; exact ⟨rfl, _, rfl⟩)
              case rest =>
                obtain ⟨rfl, nq, rfl⟩ := hcut
                clear cp cw kp
                replace ko := ko.drewN nq; replace kw := kw.drewN nq; replace kc := kc.drewN nq; replace hbw := bl_drewN hbw nq
                generalize W4.drewN nq = W5 at ko kw kc hbw ⊢
                go_wp2_with fail
                go_roundw
                case rel => first | exact ⟨5, by omega, by first | rfl | simp, ko, kw, kc, hbw⟩ | ((repeat apply Exists.intro); exact ⟨⟨5, by omega, by first | rfl | simp, ko, kw, kc, hbw⟩, rfl⟩)
                case measure => simp [intOf]
          · go_upto_region 19 with (fail)
            have ck := ko.cell; have cc := kc.cell
            have hmk : Hid (∀ w', Below wr.heap.size wr w' → (fun w' => (∀ i : Nat, w'.cell? ⟨O1, i, none⟩ = (#[.int .i64 8, .int .i64 9, .int .i64 10, .int .i64 11, .int .i64 12, .int .i64 13] : Array Value)[i]?) ∧ (∀ i : Nat, w'.cell? ⟨C, i, none⟩ = (#[.int .i64 (kd d0), .int .i64 n0, .string ⟨#[]⟩, .int .i64 (kd d1), .int .i64 n1, .string ⟨#[]⟩, .int .i64 (kd d2), .int .i64 n2, .string ⟨#[]⟩] : Array Value)[i]?) ∧ Below wr.heap.size wr w') w') := Lib.hid fun w' h => ⟨(ko.below h).cell, (kc.below h).cell, h⟩
            have hdr := size_drew
            go_cut [18, 19] from 138 to 149 (fun s t wx => t = .nilIface ∧ (∃ p N, s = .pointer (some ⟨p, 0, none⟩) ∧ Hid (N = if w5 then (1 : Int) else 0) ∧ Bx wx p #[.int .i64 1, .int .i64 N, .string ⟨#[]⟩]) ∧ Below wr.heap.size wr wx)
            case first =>
              go_region_held3 (fun w' => (∀ i : Nat, w'.cell? ⟨O1, i, none⟩ = (#[.int .i64 8, .int .i64 9, .int .i64 10, .int .i64 11, .int .i64 12, .int .i64 13] : Array Value)[i]?) ∧ (∀ i : Nat, w'.cell? ⟨C, i, none⟩ = (#[.int .i64 (kd d0), .int .i64 n0, .string ⟨#[]⟩, .int .i64 (kd d1), .int .i64 n1, .string ⟨#[]⟩, .int .i64 (kd d2), .int .i64 n2, .string ⟨#[]⟩] : Array Value)[i]?) ∧ Below wr.heap.size wr w') ((refine hmk.out _ ?_; exact by (repeat' (first | exact Below.refl _ _ | refine bl_set ?_ (by first | (simp; done) | (simp; omega)) _ | (with_reducible assumption) | refine bl_alloc ?_ _ | refine bl_drewN ?_ _ | refine bl_drew ?_ | refine bl ?_ (by with_reducible assumption))))) (first | (go_at_call 34; refine (cmp_line 13 (kd d0) n0 (kd d1) n1 c0 w5 (by omega) (by omega) (kd_or _) (kd_or _) HB0.out HB1.out hc0 HQ5.out _).mono ?_; rintro e x2 ⟨⟨N, rfl, hN⟩, hx2⟩; (obtain ⟨hcx2, hfx2⟩ := bcell hx2; have hsx2 := (hx2).size; (try simp only [World.size_alloc, World.size_setCell, World.heap_drewN, size_drew, Nat.add_one_le_iff] at hsx2))))
              all_goals (go_wp2_with fail; go_meet; refine ⟨rfl, ⟨_, N, rfl, hN, ?_⟩, by (repeat' (first | exact Below.refl _ _ | refine bl_set ?_ (by first | (simp; done) | (simp; omega)) _ | (with_reducible assumption) | refine bl_alloc ?_ _ | refine bl_drewN ?_ _ | refine bl_drew ?_ | refine bl ?_ (by with_reducible assumption)))⟩; first | exact Bx.new _ _ _ | exact ((((Bx.new _ _ _).below hx2).set 0 (by simp) (.int .i64 1)).set 1 (by simp) (.int .i64 N)).set 2 (by simp) (.string ⟨#[]⟩) | exact ((((bx_drew (Bx.new _ _ _)).below hx2).set 0 (by simp) (.int .i64 1)).set 1 (by simp) (.int .i64 N)).set 2 (by simp) (.string ⟨#[]⟩))
            case rest =>
              obtain ⟨rfl, ⟨p, N, rfl, hN, kp⟩, hcw⟩ := hcut
              clear ck cc hmk
              replace ko := ko.below hcw; replace kw := kw.below hcw; replace kc := kc.below hcw; replace hbw := bl hbw hcw; clear hcw
              generalize wc = W4 at ko kw kc kp hbw ⊢
              go_upto_region 20 with (fail)
              have cp := kp.cell; have cw := kw.cell
              go_cut [166] from 150 to 165 (fun t wx => t = .bool false ∧ ∃ q, wx = W4.drewN q)
              case first => cases w5 <;> (have hN2 := hN.out; simp at hN2; subst hN2; clear hN; go_quiet (fail); go_wp2_with fail; go_meet; exact ⟨rfl, _, rfl⟩)
              case rest =>
                obtain ⟨rfl, nq, rfl⟩ := hcut
                clear cp cw kp
                replace ko := ko.drewN nq; replace kw := kw.drewN nq; replace kc := kc.drewN nq; replace hbw := bl_drewN hbw nq
                generalize W4.drewN nq = W5 at ko kw kc hbw ⊢
                go_wp2_with fail
                go_roundw
                case rel => first | exact ⟨6, by omega, by first | rfl | simp, ko, kw, kc, hbw⟩ | ((repeat apply Exists.intro); exact ⟨⟨6, by omega, by first | rfl | simp, ko, kw, kc, hbw⟩, rfl⟩)
                case measure => simp [intOf]
          · go_wp2_with fail
            go_meet
            exact hbw
      case rest =>
        go_wp2_with fail
        refine (alive_true _ (HLd.out.below hcut)).mono ?_; rintro e z ⟨rfl, hz⟩
        go_wp2
        (apply hR.out; clear hR; go_tidy)
        exact ⟨rfl, bl hcut (by (repeat' (first | exact Below.refl _ _ | refine bl_set ?_ (by first | (simp; done) | (simp; omega)) _ | (with_reducible assumption) | refine bl_alloc ?_ _ | refine bl_drewN ?_ _ | refine bl_drew ?_ | refine bl ?_ (by with_reducible assumption))))⟩
end Go.Proofs.YtdlmcgflgdmjgaaDoor
