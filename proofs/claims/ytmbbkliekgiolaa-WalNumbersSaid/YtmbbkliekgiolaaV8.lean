/- The document's log (ref07): frames, what a scan finds. -/
import Derived.Test.YtmbbkliekgiolaaV7
import Derived.Test.YtmbbkliekgiolaaSm
set_option linter.unusedVariables false
set_option linter.unusedSimpArgs false
namespace Go.Proofs.Ytmbbkliekgiolaa
open Go.RowKit
/-- What Scan asks of bytes is what taken asks. -/
theorem fr_scan {d : List Nat} (hd : Bytes d) (h5 : 5 < d.length) (h1 : ¬ (4096 < d.getD 1 0 * 2 ^ 8 + d.getD 2 0 + 1 ∨ d.length < 5 + (d.getD 1 0 * 2 ^ 8 + d.getD 2 0 + 1))) :
    (fr ((d.drop 5).take (d.getD 1 0 * 2 ^ 8 + d.getD 2 0 + 1)) = d.take (5 + (d.getD 1 0 * 2 ^ 8 + d.getD 2 0 + 1))) ↔ tkN d = some (d.getD 1 0 * 2 ^ 8 + d.getD 2 0 + 1) := by
  obtain ⟨a0, a1, a2, a3, a4, r, rfl⟩ : ∃ a0 a1 a2 a3 a4 r, d = a0 :: a1 :: a2 :: a3 :: a4 :: r := by
    rcases d with _ | ⟨a0, _ | ⟨a1, _ | ⟨a2, _ | ⟨a3, _ | ⟨a4, r⟩⟩⟩⟩⟩
    · exact absurd h5 (by decide)
    · exact absurd h5 (by simp)
    · exact absurd h5 (by simp)
    · exact absurd h5 (by simp)
    · exact absurd h5 (by simp)
    · exact ⟨a0, a1, a2, a3, a4, r, rfl⟩
  have b1 : a1 < 256 := hd a1 (by simp)
  have b2 : a2 < 256 := hd a2 (by simp)
  unfold tkN
  simp only [List.getD_cons_succ, List.getD_cons_zero] at h1 ⊢
  generalize hn : a1 * 2 ^ 8 + a2 + 1 = n at *
  have hdr : (a0 :: a1 :: a2 :: a3 :: a4 :: r).drop 5 = r := rfl
  rw [hdr]
  have hln : (r.take n).length = n := by
    rw [List.length_take]
    simp only [List.length_cons] at h1; omega
  have e1 : ((r.take n).length - 1) / 2 ^ 8 % 256 = a1 := by rw [hln]; omega
  have e2 : ((r.take n).length - 1) % 256 = a2 := by rw [hln]; omega
  have e3 : (a0 :: a1 :: a2 :: a3 :: a4 :: r).take (5 + n) = a0 :: a1 :: a2 :: a3 :: a4 :: r.take n := by rw [Nat.add_comm]; rfl
  rw [e3]
  unfold fr fb
  rw [e1, e2]
  by_cases h0 : a0 = 76
  · rw [if_neg (show ¬ ((a0 :: a1 :: a2 :: a3 :: a4 :: r).length ≤ 5 ∨ a0 ≠ 76) by omega), if_neg h1]
    constructor
    · intro h
      simp only [List.cons.injEq, true_and, and_true] at h
      exact if_pos ⟨h.2.1, h.2.2⟩
    · intro h
      by_cases hc : crc 65535 (a1 :: a2 :: r.take n) / 2 ^ 8 % 256 = a3 ∧ crc 65535 (a1 :: a2 :: r.take n) % 256 = a4
      · rw [hc.1, hc.2, h0]
      · rw [if_neg hc] at h; cases h
  · rw [if_pos (Or.inr h0)]
    constructor
    · intro h; simp only [List.cons.injEq] at h; exact absurd h.1.symm h0
    · intro h; cases h
theorem tk_no1 {d : List Nat} (h : d.length ≤ 5) : tkN d = none := by unfold tkN; exact if_pos (.inl h)
theorem tk_no2 {d : List Nat} (h : 4096 < d.getD 1 0 * 2 ^ 8 + d.getD 2 0 + 1 ∨ d.length < 5 + (d.getD 1 0 * 2 ^ 8 + d.getD 2 0 + 1)) : tkN d = none := by
  unfold tkN
  by_cases h0 : d.length ≤ 5 ∨ d.getD 0 0 ≠ 76
  · exact if_pos h0
  · rw [if_neg h0]; exact if_pos h
theorem tk_no3 {d : List Nat} (hd : Bytes d) (h5 : 5 < d.length) (h1 : ¬ (4096 < d.getD 1 0 * 2 ^ 8 + d.getD 2 0 + 1 ∨ d.length < 5 + (d.getD 1 0 * 2 ^ 8 + d.getD 2 0 + 1))) (h : fr ((d.drop 5).take (d.getD 1 0 * 2 ^ 8 + d.getD 2 0 + 1)) ≠ d.take (5 + (d.getD 1 0 * 2 ^ 8 + d.getD 2 0 + 1))) : tkN d = none := by
  cases ht : tkN d with
  | none => rfl
  | some m =>
    exfalso
    apply h
    rw [fr_scan hd h5 h1, ht]
    unfold tkN at ht
    by_cases h0 : d.length ≤ 5 ∨ d.getD 0 0 ≠ 76
    · rw [if_pos h0] at ht; cases ht
    · rw [if_neg h0, if_neg h1] at ht
      split at ht
      · exact ht.symm
      · cases ht
attribute [local irreducible] crc
attribute [local irreducible] Oper.wp Sem.run Code.wp wpList wpAnyO callFunc execOp Calls

set_option maxRecDepth 100000 in
theorem rframe_ok (l : List Nat) (hl : Bytes l) (m : Nat) (hm : l.length = m) (h1 : 1 ≤ m) (hn : m ≤ 65536) (ad : Option Addr) (cap : Nat) (w : World) (hG : SlG (hw w) ad (bv l)) : Calls Try.prog 81 #[.slice ad m cap] w (PostN w fun v G => ∃ ad' cap', v = .slice ad' (fr l).length cap' ∧ G = [.ow 5 1 ad' (fr l).length cap' (bv (fr l))]) := by
  have hS := St.start w
  refine c_enter Try.func81 rfl rfl rfl ?_
  refine wp_seq_k (fun K1 hK1 => ?_)
  refine wp_region_lit ?_
  refine l_q rfl rfl (q_assignS rfl) ?_
  refine l_nil ?_
  refine hK1 _ _ ?_
  refine wp_seq_k (fun K2 hK2 => ?_)
  refine wp_region_lit ?_
  refine l_q rfl rfl (q_moveS rfl) ?_
  refine l_q rfl rfl (q_lenSl (e := 5) rfl (by kernel_rfl)) ?_
  refine l_q rfl rfl (q_subx rfl rfl (by first | decide | omega) (by first | decide | omega)) ?_
  refine l_q rfl rfl (q_assignI rfl) ?_
  refine l_nil ?_
  refine hK2 _ _ ?_
  refine wp_seq_k (fun K3 hK3 => ?_)
  refine wp_region_lit ?_
  refine l_q rfl rfl (q_moveI rfl) ?_
  refine l_q rfl rfl (q_quoN (k := .i64) (a := (l.length - 1)) (b := 256) (int_nat (by omega) rfl) rfl (by first | decide | omega) (wrap_fit_i64 (by omega))) ?_
  refine l_q rfl rfl (u_conv (a := ((l.length - 1) / 256)) (k' := .u8) (M := 256) rfl (by kernel_rfl) (by kernel_rfl) rfl (by decide)) ?_
  refine l_q rfl rfl (q_moveI rfl) ?_
  refine l_q rfl rfl (u_conv (a := (l.length - 1)) (k' := .u8) (M := 256) (int_nat (by omega) rfl) (by kernel_rfl) (by kernel_rfl) rfl (by decide)) ?_
  refine l_e rfl (fun K hK => ?_)
  refine e_buildSlice1 (e := 5) (zv := .int .u8 0) (xs := [.tmp 12, .tmp 14]) hS (by kernel_rfl) (by kernel_rfl) (by kernel_rfl) rfl rfl rfl rfl (allone (by repeat' (first | exact trivial | refine ⟨by first | rfl | assumption, ?_⟩))) rfl (fun b4 w4 (hS4 : St _ _ [.blk b4 (.cells #[.int .u8 (((((l.length - 1) / 256) % 256) : Nat) : Int), .int .u8 ((((l.length - 1) % 256) : Nat) : Int)] 5)] _) => ?_)
  clear hS
  have hB4 : Bytes [(((l.length - 1) / 256) % 256), ((l.length - 1) % 256)] := by intro q hq; simp only [List.mem_cons, List.not_mem_nil, or_false] at hq; omega
  have hS4o : St _ _ [.ow 5 1 (some ⟨b4, 0, none⟩) 2 2 (bv [(((l.length - 1) / 256) % 256), ((l.length - 1) % 256)])] _ := hS4.blkOw' (i := 0) (m := 2) (size := 1) (xs := bv [(((l.length - 1) / 256) % 256), ((l.length - 1) % 256)]) rfl rfl rfl (by decide); clear hS4
  refine hK _ _ ?_; clear hK K
  refine l_q rfl rfl (q_moveS rfl) ?_
  refine l_e rfl (fun K hK => ?_)
  have hB5 : Bytes ([(((l.length - 1) / 256) % 256), ((l.length - 1) % 256)] ++ l) := Bytes.app hB4 hl
  refine e_app (e := 5) (size := 1) (bytes := 1) (i := 0) (m' := (2 + m)) (by kernel_rfl) hS4o rfl rfl rfl (SlG.src (e := 5) (by kernel_rfl) (hG.mono hS4o.base) (by first | (simp only [List.length_append, List.length_map, List.length_cons, List.length_nil, List.length_take, List.length_drop, List.length_set, Nat.mul_one]; done) | (simp only [List.length_append, List.length_map, List.length_cons, List.length_nil, List.length_take, List.length_drop, List.length_set]; omega) | rfl | (simp; done)) (by decide) (bv_one _)) (by first | omega | (simp only [List.length_append, List.length_map, List.length_cons, List.length_nil, List.length_take, List.length_drop, List.length_set] <;> omega) | (simp; done)) bv_app (by first | omega | (simp only [maxLen, List.length_append, List.length_map, List.length_cons, List.length_nil, List.length_take, List.length_drop, List.length_set] <;> omega) | (simp only [maxLen]; omega)) (by first | omega | (simp only [List.length_append, List.length_map, List.length_cons, List.length_nil, List.length_take, List.length_drop, List.length_set] <;> omega)) (fun ad5 cp5 w5 (hS5 : St _ _ [.ow 5 1 ad5 (2 + m) cp5 (bv ([(((l.length - 1) / 256) % 256), ((l.length - 1) % 256)] ++ l))] _) => ?_)
  clear hS4o
  refine hK _ _ ?_; clear hK K
  refine l_q rfl rfl (q_assignS rfl) ?_
  refine l_nil ?_
  refine hK3 _ _ ?_
  refine wp_seq_k (fun K6 hK6 => ?_)
  refine wp_region_lit ?_
  refine l_q rfl rfl (q_moveS rfl) ?_
  refine l_e rfl (fun K hK => ?_)
  refine e_call (by kernel_rfl) (rchk_ok ([(((l.length - 1) / 256) % 256), ((l.length - 1) % 256)] ++ l) hB5 (2 + m) (by first | omega | (simp only [List.length_append, List.length_map, List.length_cons, List.length_nil, List.length_take, List.length_drop, List.length_set] <;> omega)) (by first | omega | (simp only [List.length_append, List.length_map, List.length_cons, List.length_nil, List.length_take, List.length_drop, List.length_set] <;> omega)) _ _ _ (hS5.owG (i := 0) rfl)) rfl (after_R hS5 (fun v7 w7 hv7 hS7 => ?_))
  clear hS5
  obtain rfl := hv7
  refine hK _ _ ?_; clear hK K
  refine l_q rfl rfl (q_assignI rfl) ?_
  refine l_nil ?_
  refine hK6 _ _ ?_
  refine wp_seq_k (fun K8 hK8 => ?_)
  refine r_any (by kernel_rfl) hS7 (fun w9 hS9 => ?_)
  clear hS7
  refine o_pure (i := 0) (fun _ _ => trivial) rfl rfl (by kernel_rfl) (goes0 rfl) (QOk.then QOk.body) (fun w => q_moveS rfl) ?_
  refine o_pure (i := 1) (fun _ _ => trivial) rfl rfl (by kernel_rfl) (goes0 rfl) (QOk.then QOk.body) (fun w => q_ixG (e := 5) (m := 1) (j := 0) rfl rfl (by kernel_rfl) (by kernel_rfl) (by first | rfl | omega) (by omega) (hS9.owG (i := 0) rfl) (by rw [bv_len]; first | omega | (simp only [List.length_append, List.length_map, List.length_cons, List.length_nil, List.length_take, List.length_drop, List.length_set] <;> omega))) ?_
  obtain ⟨x0, hx0⟩ : ∃ x, (([(((l.length - 1) / 256) % 256), ((l.length - 1) % 256)] ++ l))[0]? = some x := ⟨_, List.getElem?_eq_getElem (by first | omega | (simp only [List.length_append, List.length_map, List.length_cons, List.length_nil, List.length_take, List.length_drop, List.length_set] <;> omega) | (simp <;> omega))⟩
  have hb0 : x0 < 256 := hB5 x0 (List.mem_of_getElem? hx0)
  refine o_held (i := 2) [11, 12] (fun _ _ => trivial) rfl rfl (by kernel_rfl) (goes0 rfl) (QOk.then QOk.body) (q_load1 rfl (by kernel_rfl) (SlG.cell (hS9.owG (i := 0) rfl) (Gle.refl _) (at1 (bv_at hx0)))) ?_
  have ex0 : x0 = (l.length - 1) / 256 % 256 := Option.some.inj (hx0.symm.trans rfl)
  refine o_pure (i := 3) (fun j w => ⟨(fun _ _ => trivial) j w, fun _ h => h⟩) rfl rfl (by kernel_rfl) (goes0 rfl) (QOk.then QOk.body) (fun w => q_moveS rfl) ?_
  refine o_pure (i := 4) (fun j w => ⟨(fun _ _ => trivial) j w, fun _ h => h⟩) rfl rfl (by kernel_rfl) (goes0 rfl) (QOk.then QOk.body) (fun w => q_ixG (e := 5) (m := 1) (j := 1) rfl rfl (by kernel_rfl) (by kernel_rfl) (by first | rfl | omega) (by omega) (hS9.owG (i := 0) rfl) (by rw [bv_len]; first | omega | (simp only [List.length_append, List.length_map, List.length_cons, List.length_nil, List.length_take, List.length_drop, List.length_set] <;> omega))) ?_
  obtain ⟨x1, hx1⟩ : ∃ x, (([(((l.length - 1) / 256) % 256), ((l.length - 1) % 256)] ++ l))[1]? = some x := ⟨_, List.getElem?_eq_getElem (by first | omega | (simp only [List.length_append, List.length_map, List.length_cons, List.length_nil, List.length_take, List.length_drop, List.length_set] <;> omega) | (simp <;> omega))⟩
  have hb1 : x1 < 256 := hB5 x1 (List.mem_of_getElem? hx1)
  refine o_held (i := 5) [11, 12] (fun j w => ⟨(fun _ _ => trivial) j w, fun _ h => h⟩) rfl rfl (by kernel_rfl) (goes0 rfl) (QOk.then QOk.body) (q_load1 rfl (by kernel_rfl) (SlG.cell (hS9.owG (i := 0) rfl) (Gle.refl _) (at1 (bv_at hx1)))) ?_
  have ex1 : x1 = (l.length - 1) % 256 := Option.some.inj (hx1.symm.trans rfl)
  refine o_pure (i := 6) (fun j w => ⟨(fun j w => ⟨(fun _ _ => trivial) j w, fun _ h => h⟩) j w, fun _ h => h⟩) rfl rfl (by kernel_rfl) (goes0 rfl) (QOk.then QOk.body) (fun w => q_moveI rfl) ?_
  refine o_pure (i := 7) (fun j w => ⟨(fun j w => ⟨(fun _ _ => trivial) j w, fun _ h => h⟩) j w, fun _ h => h⟩) rfl rfl (by kernel_rfl) (goes0 rfl) (QOk.then QOk.body) (fun w => q_shrN (k := .u16) (a := (crc 65535 ([(((l.length - 1) / 256) % 256), ((l.length - 1) % 256)] ++ l))) (b := 8) rfl rfl (by decide)) ?_
  refine o_pure (i := 8) (fun j w => ⟨(fun j w => ⟨(fun _ _ => trivial) j w, fun _ h => h⟩) j w, fun _ h => h⟩) rfl rfl (by kernel_rfl) (goes0 rfl) (QOk.then QOk.body) (fun w => u_conv (a := ((crc 65535 ([(((l.length - 1) / 256) % 256), ((l.length - 1) % 256)] ++ l)) / 2 ^ 8)) (k' := .u8) (M := 256) rfl (by kernel_rfl) (by kernel_rfl) rfl (by decide)) ?_
  refine o_pure (i := 9) (fun j w => ⟨(fun j w => ⟨(fun _ _ => trivial) j w, fun _ h => h⟩) j w, fun _ h => h⟩) rfl rfl (by kernel_rfl) (goes0 rfl) (QOk.then QOk.body) (fun w => q_moveI rfl) ?_
  refine o_pure (i := 10) (fun j w => ⟨(fun j w => ⟨(fun _ _ => trivial) j w, fun _ h => h⟩) j w, fun _ h => h⟩) rfl rfl (by kernel_rfl) (goes0 rfl) (QOk.then QOk.body) (fun w => u_conv (a := (crc 65535 ([(((l.length - 1) / 256) % 256), ((l.length - 1) % 256)] ++ l))) (k' := .u8) (M := 256) rfl (by kernel_rfl) (by kernel_rfl) rfl (by decide)) ?_
  refine o_eff (i := 11) (by kernel_rfl) rfl (goes0 rfl) (fun K hK => ?_)
  refine e_buildSlice1 (e := 5) (zv := .int .u8 0) (xs := [_, .tmp 22, .tmp 25, .tmp 28, .tmp 30]) hS9 (by kernel_rfl) (by kernel_rfl) (by kernel_rfl) rfl rfl rfl rfl (allone (by repeat' (first | exact trivial | refine ⟨by first | rfl | assumption, ?_⟩))) rfl (fun b12 w12 (hS12 : St _ _ [.blk b12 (.cells #[.int .u8 (76 : Int), .int .u8 ((x0 : Nat) : Int), .int .u8 ((x1 : Nat) : Int), .int .u8 (((((crc 65535 ([(((l.length - 1) / 256) % 256), ((l.length - 1) % 256)] ++ l)) / 2 ^ 8) % 256) : Nat) : Int), .int .u8 ((((crc 65535 ([(((l.length - 1) / 256) % 256), ((l.length - 1) % 256)] ++ l)) % 256) : Nat) : Int)] 5), .ow 5 1 ad5 (2 + m) cp5 (bv ([(((l.length - 1) / 256) % 256), ((l.length - 1) % 256)] ++ l))] _) => ?_)
  clear hS9
  have hB12 : Bytes [76, x0, x1, (((crc 65535 ([(((l.length - 1) / 256) % 256), ((l.length - 1) % 256)] ++ l)) / 2 ^ 8) % 256), ((crc 65535 ([(((l.length - 1) / 256) % 256), ((l.length - 1) % 256)] ++ l)) % 256)] := by intro q hq; simp only [List.mem_cons, List.not_mem_nil, or_false] at hq; omega
  have hS12o : St _ _ [.ow 5 1 (some ⟨b12, 0, none⟩) 5 5 (bv [76, x0, x1, (((crc 65535 ([(((l.length - 1) / 256) % 256), ((l.length - 1) % 256)] ++ l)) / 2 ^ 8) % 256), ((crc 65535 ([(((l.length - 1) / 256) % 256), ((l.length - 1) % 256)] ++ l)) % 256)]), .ow 5 1 ad5 (2 + m) cp5 (bv ([(((l.length - 1) / 256) % 256), ((l.length - 1) % 256)] ++ l))] _ := hS12.blkOw' (i := 0) (m := 5) (size := 1) (xs := bv [76, x0, x1, (((crc 65535 ([(((l.length - 1) / 256) % 256), ((l.length - 1) % 256)] ++ l)) / 2 ^ 8) % 256), ((crc 65535 ([(((l.length - 1) / 256) % 256), ((l.length - 1) % 256)] ++ l)) % 256)]) rfl rfl rfl (by decide); clear hS12
  refine hK _ _ ⟨⟨trivial, fun h => absurd h (by decide)⟩, fun h => absurd h (by decide)⟩ ?_; clear hK K
  refine o_pure (i := 12) (fun j w => ⟨(fun j w => ⟨(fun _ _ => trivial) j w, fun _ h => h⟩) j w, fun _ h => h⟩) rfl rfl (by kernel_rfl) (goes0 rfl) (QOk.then QOk.body) (fun w => q_assignS rfl) ?_
  refine o_done (by kernel_rfl) ?_
  refine hK8 _ _ ?_
  refine wp_seq_k (fun K13 hK13 => ?_)
  refine wp_region_lit ?_
  refine l_q rfl rfl (q_moveS rfl) ?_
  refine l_q rfl rfl (q_moveS rfl) ?_
  refine l_e rfl (fun K hK => ?_)
  have hB14 : Bytes ([76, x0, x1, (((crc 65535 ([(((l.length - 1) / 256) % 256), ((l.length - 1) % 256)] ++ l)) / 2 ^ 8) % 256), ((crc 65535 ([(((l.length - 1) / 256) % 256), ((l.length - 1) % 256)] ++ l)) % 256)] ++ l) := Bytes.app hB12 hl
  refine e_app (e := 5) (size := 1) (bytes := 1) (i := 0) (m' := (5 + m)) (by kernel_rfl) hS12o rfl rfl rfl (SlG.src (e := 5) (by kernel_rfl) (hG.mono hS12o.base) (by first | (simp only [List.length_append, List.length_map, List.length_cons, List.length_nil, List.length_take, List.length_drop, List.length_set, Nat.mul_one]; done) | (simp only [List.length_append, List.length_map, List.length_cons, List.length_nil, List.length_take, List.length_drop, List.length_set]; omega) | rfl | (simp; done)) (by decide) (bv_one _)) (by first | omega | (simp only [List.length_append, List.length_map, List.length_cons, List.length_nil, List.length_take, List.length_drop, List.length_set] <;> omega) | (simp; done)) bv_app (by first | omega | (simp only [maxLen, List.length_append, List.length_map, List.length_cons, List.length_nil, List.length_take, List.length_drop, List.length_set] <;> omega) | (simp only [maxLen]; omega)) (by first | omega | (simp only [List.length_append, List.length_map, List.length_cons, List.length_nil, List.length_take, List.length_drop, List.length_set] <;> omega)) (fun ad14 cp14 w14 (hS14 : St _ _ [.ow 5 1 ad14 (5 + m) cp14 (bv ([76, x0, x1, (((crc 65535 ([(((l.length - 1) / 256) % 256), ((l.length - 1) % 256)] ++ l)) / 2 ^ 8) % 256), ((crc 65535 ([(((l.length - 1) / 256) % 256), ((l.length - 1) % 256)] ++ l)) % 256)] ++ l)), .ow 5 1 ad5 (2 + m) cp5 (bv ([(((l.length - 1) / 256) % 256), ((l.length - 1) % 256)] ++ l))] _) => ?_)
  clear hS12o
  refine hK _ _ ?_; clear hK K
  refine l_q rfl rfl (q_assignS rfl) ?_
  refine l_nil ?_
  refine hK13 _ _ ?_
  refine wp_ret ?_
  refine c_ret1 rfl rfl ?_
  have hS15 : St _ _ [.ow 5 1 ad14 (5 + m) cp14 (bv ([76, x0, x1, (((crc 65535 ([(((l.length - 1) / 256) % 256), ((l.length - 1) % 256)] ++ l)) / 2 ^ 8) % 256), ((crc 65535 ([(((l.length - 1) / 256) % 256), ((l.length - 1) % 256)] ++ l)) % 256)] ++ l))] _ := hS14.only 1; clear hS14
  have e1 : ([76, x0, x1, (((crc 65535 ([(((l.length - 1) / 256) % 256), ((l.length - 1) % 256)] ++ l)) / 2 ^ 8) % 256), ((crc 65535 ([(((l.length - 1) / 256) % 256), ((l.length - 1) % 256)] ++ l)) % 256)] ++ l) = fr l := by rw [ex0, ex1]; rfl
  have e2 : (5 + m) = (fr l).length := by rw [fr_len]; omega
  exact ⟨_, _, rfl, ⟨_, _, congrArg (fun z => Value.slice _ z _) e2, by rw [e1, e2]⟩, hS15⟩

set_option maxHeartbeats 2000000 in
set_option maxRecDepth 100000 in
theorem scan_ok (l : List Nat) (hl : Bytes l) (b : Nat) (hb : b + l.length ≤ 1000000000) (ad : Option Addr) (cap : Nat) (hcap : l.length ≤ cap) (w : World) (hG : SlG (hw w) ad (bv l)) : Calls Try.prog 79 #[.slice ad l.length cap, .int .i64 ((b : Nat) : Int)] w (PostN w fun v G => ∃ ad' cap' rs g', v = .tuple #[.slice ad' rs.length cap', .int .i64 (((scan l b).2 : Nat) : Int)] ∧ G = [.ow 96 2 ad' rs.length cap' (List.flatMap rc rs), .fz g'] ∧ RsOk g' rs ∧ rs.map Rc.abs = (scan l b).1) := by
  have hS := St.start w
  refine c_enter Try.func79 rfl rfl rfl ?_
  refine wp_seq_k (fun K1 hK1 => ?_)
  refine wp_region_lit ?_
  refine l_q rfl rfl (q_assignS rfl) ?_
  refine l_q rfl rfl (q_assignI rfl) ?_
  refine l_nil ?_
  refine hK1 _ _ ?_
  refine wp_seq_k (fun K2 hK2 => ?_)
  refine wp_region_lit ?_
  refine l_q rfl rfl (q_assignS rfl) ?_
  refine l_nil ?_
  refine hK2 _ _ ?_
  refine wp_seq_k (fun K3 hK3 => ?_)
  refine wp_region_lit ?_
  refine l_q rfl rfl (q_assignI rfl) ?_
  refine l_nil ?_
  refine hK3 _ _ ?_
  refine wp_seq_k (fun K4 hK4 => ?_)
  refine wp_block ?_
  have hS5 := hS.fz0; clear hS
  have hS6 : St _ _ [.ow 96 2 none 0 0 (List.flatMap rc []), .fz (fun _ => none)] _ := hS5.ow_nil 96 2; clear hS5
  refine c_loop (τ := Gh × Nat × (List Rc) × (Option Addr) × Nat) [(6, 74)] (fun x => (fun (g1 : Gh) (o : Nat) (rs : List Rc) (rad : Option Addr) (rcap : Nat) => [(6, .slice rad rs.length rcap), (7, .int .i64 ((o : Nat) : Int))]) x.1 x.2.1 x.2.2.1 x.2.2.2.1 x.2.2.2.2) (fun x w' => (fun (g1 : Gh) (o : Nat) (rs : List Rc) (rad : Option Addr) (rcap : Nat) => St w (fun _ => False) [.ow 96 2 rad rs.length rcap (List.flatMap rc rs), .fz g1] w' ∧ RsOk g1 rs ∧ o ≤ l.length ∧ rs.map Rc.abs ++ (scan (l.drop o) (b + o)).1 = (scan l b).1 ∧ o + (scan (l.drop o) (b + o)).2 = (scan l b).2 ∧ rs.length ≤ o) x.1 x.2.1 x.2.2.1 x.2.2.2.1 x.2.2.2.2) (fun x => (fun (g1 : Gh) (o : Nat) (rs : List Rc) (rad : Option Addr) (rcap : Nat) => l.length - o) x.1 x.2.1 x.2.2.1 x.2.2.2.1 x.2.2.2.2) (⟨(fun _ => none), 0, [], none, 0⟩) ?_ (by repeat' (first | exact trivial | refine ⟨by first | rfl | exact int_succ _ | assumption, ?_⟩)) (fun x7 j7 w7 hJ7 K7 hK7 => ?_)
  ·
    exact ⟨hS6, RsOk.nil, Nat.zero_le _, rfl, Nat.zero_add _, Nat.zero_le _⟩
  ·
    obtain ⟨g1, o, rs, rad, rcap⟩ := x7
    obtain ⟨hS7, hrs, ho, hsc, hsn, hro⟩ := hJ7
    try dsimp only at hS7 hrs ho hsc hsn hro ⊢
    have hdl : (l.drop o).length = l.length - o := List.length_drop ..
    refine wp_seq_k (fun K8 hK8 => ?_)
    refine wp_seq_k (fun K9 hK9 => ?_)
    refine wp_region_lit ?_
    refine l_q rfl rfl (q_moveS rfl) ?_
    refine l_q rfl rfl (q_lenSl (e := 5) rfl (by kernel_rfl)) ?_
    refine l_q rfl rfl (q_moveI rfl) ?_
    refine l_q rfl rfl (q_subx rfl rfl (by first | decide | omega) (by first | decide | omega)) ?_
    refine l_q rfl rfl (q_gtr rfl rfl) ?_
    refine l_nil ?_
    refine hK9 _ _ ?_
    refine c_cond rfl (fun hc10 => ?_) (fun hc10 => ?_)
    ·
      have hc10b := hc10
      try simp only [decide_eq_true_eq, decide_eq_false_iff_not, Bool.not_eq_true', Bool.not_eq_false', Bool.and_eq_true, Bool.or_eq_true, Int.not_lt, Int.not_le, ne_eq, Decidable.not_not] at hc10
      refine wp_skip ?_
      refine hK8 _ _ ?_
      refine wp_block ?_
      refine wp_seq_k (fun K11 hK11 => ?_)
      refine r_any (by kernel_rfl) hS7 (fun w12 hS12 => ?_)
      clear hS7
      refine o_pure (i := 0) (fun _ _ => trivial) rfl rfl (by kernel_rfl) (goes0 rfl) (QOk.then (QOk.inBlock (QOk.then (QOk.inBlock (QOk.then QOk.body))))) (fun w => q_moveS rfl) ?_
      refine o_pure (i := 1) (fun _ _ => trivial) rfl rfl (by kernel_rfl) (goes0 rfl) (QOk.then (QOk.inBlock (QOk.then (QOk.inBlock (QOk.then QOk.body))))) (fun w => q_moveI rfl) ?_
      refine o_pure (i := 2) (fun _ _ => trivial) rfl rfl (by kernel_rfl) (goes0 rfl) (QOk.then (QOk.inBlock (QOk.then (QOk.inBlock (QOk.then QOk.body))))) (fun w => q_addx rfl rfl (by first | decide | omega) (by first | decide | omega)) ?_
      refine o_pure (i := 3) (fun _ _ => trivial) rfl rfl (by kernel_rfl) (goes0 rfl) (QOk.then (QOk.inBlock (QOk.then (QOk.inBlock (QOk.then QOk.body))))) (fun w => q_ixG (e := 5) (m := 1) (j := (o + 1)) rfl rfl (by kernel_rfl) (by kernel_rfl) (by first | rfl | omega) (by omega) hG (by rw [bv_len]; first | omega | (simp only [List.length_append, List.length_map, List.length_cons, List.length_nil, List.length_take, List.length_drop, List.length_set] <;> omega))) ?_
      obtain ⟨x13, hx13⟩ : ∃ x, (l)[(o + 1)]? = some x := ⟨_, List.getElem?_eq_getElem (by first | omega | (simp only [List.length_append, List.length_map, List.length_cons, List.length_nil, List.length_take, List.length_drop, List.length_set] <;> omega) | (simp <;> omega))⟩
      have hb13 : x13 < 256 := hl x13 (List.mem_of_getElem? hx13)
      refine o_held (i := 4) [5, 6, 13, 14, 15] (fun _ _ => trivial) rfl rfl (by kernel_rfl) (goes0 rfl) (QOk.then (QOk.inBlock (QOk.then (QOk.inBlock (QOk.then QOk.body))))) (q_load1 rfl (by kernel_rfl) (SlG.cell (hG.mono hS12.base) (Gle.refl _) (at1 (bv_at hx13)))) ?_
      refine o_pure (i := 5) (fun j w => ⟨(fun _ _ => trivial) j w, fun _ h => h⟩) rfl rfl (by kernel_rfl) (goes0 rfl) (QOk.then (QOk.inBlock (QOk.then (QOk.inBlock (QOk.then QOk.body))))) (fun w => q_convN (a := x13) rfl (by kernel_rfl) (by kernel_rfl) (wrap_fit_i64 (by omega))) ?_
      refine o_pure (i := 6) (fun j w => ⟨(fun _ _ => trivial) j w, fun _ h => h⟩) rfl rfl (by kernel_rfl) (goes0 rfl) (QOk.then (QOk.inBlock (QOk.then (QOk.inBlock (QOk.then QOk.body))))) (fun w => q_mulx rfl rfl (by first | decide | omega) (by first | decide | omega)) ?_
      refine o_pure (i := 7) (fun j w => ⟨(fun _ _ => trivial) j w, fun _ h => h⟩) rfl rfl (by kernel_rfl) (goes0 rfl) (QOk.then (QOk.inBlock (QOk.then (QOk.inBlock (QOk.then QOk.body))))) (fun w => q_moveS rfl) ?_
      refine o_pure (i := 8) (fun j w => ⟨(fun _ _ => trivial) j w, fun _ h => h⟩) rfl rfl (by kernel_rfl) (goes0 rfl) (QOk.then (QOk.inBlock (QOk.then (QOk.inBlock (QOk.then QOk.body))))) (fun w => q_moveI rfl) ?_
      refine o_pure (i := 9) (fun j w => ⟨(fun _ _ => trivial) j w, fun _ h => h⟩) rfl rfl (by kernel_rfl) (goes0 rfl) (QOk.then (QOk.inBlock (QOk.then (QOk.inBlock (QOk.then QOk.body))))) (fun w => q_addx rfl rfl (by first | decide | omega) (by first | decide | omega)) ?_
      refine o_pure (i := 10) (fun j w => ⟨(fun _ _ => trivial) j w, fun _ h => h⟩) rfl rfl (by kernel_rfl) (goes0 rfl) (QOk.then (QOk.inBlock (QOk.then (QOk.inBlock (QOk.then QOk.body))))) (fun w => q_ixG (e := 5) (m := 1) (j := (o + 2)) rfl rfl (by kernel_rfl) (by kernel_rfl) (by first | rfl | omega) (by omega) hG (by rw [bv_len]; first | omega | (simp only [List.length_append, List.length_map, List.length_cons, List.length_nil, List.length_take, List.length_drop, List.length_set] <;> omega))) ?_
      obtain ⟨x14, hx14⟩ : ∃ x, (l)[(o + 2)]? = some x := ⟨_, List.getElem?_eq_getElem (by first | omega | (simp only [List.length_append, List.length_map, List.length_cons, List.length_nil, List.length_take, List.length_drop, List.length_set] <;> omega) | (simp <;> omega))⟩
      have hb14 : x14 < 256 := hl x14 (List.mem_of_getElem? hx14)
      refine o_held (i := 11) [12, 13, 14, 15] (fun j w => ⟨(fun _ _ => trivial) j w, fun _ h => h⟩) rfl rfl (by kernel_rfl) (goes0 rfl) (QOk.then (QOk.inBlock (QOk.then (QOk.inBlock (QOk.then QOk.body))))) (q_load1 rfl (by kernel_rfl) (SlG.cell (hG.mono hS12.base) (Gle.refl _) (at1 (bv_at hx14)))) ?_
      refine o_pure (i := 12) (fun j w => ⟨(fun j w => ⟨(fun _ _ => trivial) j w, fun _ h => h⟩) j w, fun _ h => h⟩) rfl rfl (by kernel_rfl) (goes0 rfl) (QOk.then (QOk.inBlock (QOk.then (QOk.inBlock (QOk.then QOk.body))))) (fun w => q_convN (a := x14) rfl (by kernel_rfl) (by kernel_rfl) (wrap_fit_i64 (by omega))) ?_
      refine o_pure (i := 13) (fun j w => ⟨(fun j w => ⟨(fun _ _ => trivial) j w, fun _ h => h⟩) j w, fun _ h => h⟩) rfl rfl (by kernel_rfl) (goes0 rfl) (QOk.then (QOk.inBlock (QOk.then (QOk.inBlock (QOk.then QOk.body))))) (fun w => q_addx rfl rfl (by first | decide | omega) (by first | decide | omega)) ?_
      refine o_pure (i := 14) (fun j w => ⟨(fun j w => ⟨(fun _ _ => trivial) j w, fun _ h => h⟩) j w, fun _ h => h⟩) rfl rfl (by kernel_rfl) (goes0 rfl) (QOk.then (QOk.inBlock (QOk.then (QOk.inBlock (QOk.then QOk.body))))) (fun w => q_addx rfl rfl (by first | decide | omega) (by first | decide | omega)) ?_
      have hg1' : (l.drop o).getD 1 0 = x13 := getD_of (by rw [List.getElem?_drop]; exact hx13)
      have hg2' : (l.drop o).getD 2 0 = x14 := getD_of (by rw [List.getElem?_drop]; exact hx14)
      have hnn : (l.drop o).getD 1 0 * 2 ^ 8 + (l.drop o).getD 2 0 + 1 = 256 * x13 + x14 + 1 := by rw [hg1', hg2']; omega
      refine o_pure (i := 15) (fun j w => ⟨(fun j w => ⟨(fun _ _ => trivial) j w, fun _ h => h⟩) j w, fun _ h => h⟩) rfl rfl (by kernel_rfl) (goes0 rfl) (QOk.then (QOk.inBlock (QOk.then (QOk.inBlock (QOk.then QOk.body))))) (fun w => q_assignI rfl) ?_
      refine o_done (by kernel_rfl) ?_
      refine hK11 _ _ ?_
      refine wp_seq_k (fun K15 hK15 => ?_)
      refine wp_seq_k (fun K16 hK16 => ?_)
      refine wp_region_lit ?_
      refine l_q rfl rfl (q_moveI rfl) ?_
      refine l_q rfl rfl (q_gtr rfl rfl) ?_
      refine l_q rfl rfl (q_moveB rfl) ?_
      refine g_splitL (t := 32) rfl (fun hg17 => ?_) (fun hg17 => ?_)
      ·
        have hg17b := hg17
        try simp only [decide_eq_true_eq, decide_eq_false_iff_not, Bool.not_eq_true', Bool.not_eq_false', Bool.and_eq_true, Bool.or_eq_true, Int.not_lt, Int.not_le, ne_eq, Decidable.not_not] at hg17
        have hn : tkN (l.drop o) = none := tk_no2 (by rw [hnn]; omega)
        rw [scan_none hn, List.append_nil] at hsc
        rw [scan_none hn] at hsn
        dsimp only at hsn
        refine l_off rfl rfl rfl hg17b ?_
        refine l_off rfl rfl rfl hg17b ?_
        refine l_off rfl rfl rfl hg17b ?_
        refine l_off rfl rfl rfl hg17b ?_
        refine l_off rfl rfl rfl hg17b ?_
        refine l_off rfl rfl rfl hg17b ?_
        refine l_off rfl rfl rfl hg17b ?_
        refine l_q rfl rfl (q_pickT rfl hg17b rfl) ?_
        refine l_nil ?_
        refine hK16 _ _ ?_
        refine c_condT rfl rfl ?_
        refine wp_exit ?_
        refine hK4 _ _ ?_
        refine wp_seq_k (fun K19 hK19 => ?_)
        refine wp_region_lit ?_
        refine l_q rfl rfl (q_moveS rfl) ?_
        refine l_q rfl rfl (q_moveI rfl) ?_
        refine l_q rfl rfl (q_assignS rfl) ?_
        refine l_q rfl rfl (q_assignI rfl) ?_
        refine l_nil ?_
        refine hK19 _ _ ?_
        refine wp_ret ?_
        refine c_ret2 rfl rfl rfl ?_
        exact ⟨_, _, rfl, ⟨_, _, _, _, by rw [← hsn]; rfl, rfl, hrs, hsc⟩, hS12⟩
      ·
        have hg17b := hg17
        try simp only [decide_eq_true_eq, decide_eq_false_iff_not, Bool.not_eq_true', Bool.not_eq_false', Bool.and_eq_true, Bool.or_eq_true, Int.not_lt, Int.not_le, ne_eq, Decidable.not_not] at hg17
        refine l_on rfl rfl hg17b ?_
        refine l_q rfl rfl (q_moveS rfl) ?_
        refine l_on rfl rfl hg17b ?_
        refine l_q rfl rfl (q_lenSl (e := 5) rfl (by kernel_rfl)) ?_
        refine l_on rfl rfl hg17b ?_
        refine l_q rfl rfl (q_moveI rfl) ?_
        refine l_on rfl rfl hg17b ?_
        refine l_q rfl rfl (q_subx rfl rfl (by first | decide | omega) (by first | decide | omega)) ?_
        refine l_on rfl rfl hg17b ?_
        refine l_q rfl rfl (q_subx rfl rfl (by first | decide | omega) (by first | decide | omega)) ?_
        refine l_on rfl rfl hg17b ?_
        refine l_q rfl rfl (q_moveI rfl) ?_
        refine l_on rfl rfl hg17b ?_
        refine l_q rfl rfl (q_lss rfl rfl) ?_
        refine l_q rfl rfl (q_pickF rfl hg17b rfl) ?_
        refine l_nil ?_
        refine hK16 _ _ ?_
        refine c_cond rfl (fun hc20 => ?_) (fun hc20 => ?_)
        ·
          have hc20b := hc20
          try simp only [decide_eq_true_eq, decide_eq_false_iff_not, Bool.not_eq_true', Bool.not_eq_false', Bool.and_eq_true, Bool.or_eq_true, Int.not_lt, Int.not_le, ne_eq, Decidable.not_not] at hc20
          have hn : tkN (l.drop o) = none := tk_no2 (by rw [hnn]; omega)
          rw [scan_none hn, List.append_nil] at hsc
          rw [scan_none hn] at hsn
          dsimp only at hsn
          refine wp_exit ?_
          refine hK4 _ _ ?_
          refine wp_seq_k (fun K21 hK21 => ?_)
          refine wp_region_lit ?_
          refine l_q rfl rfl (q_moveS rfl) ?_
          refine l_q rfl rfl (q_moveI rfl) ?_
          refine l_q rfl rfl (q_assignS rfl) ?_
          refine l_q rfl rfl (q_assignI rfl) ?_
          refine l_nil ?_
          refine hK21 _ _ ?_
          refine wp_ret ?_
          refine c_ret2 rfl rfl rfl ?_
          exact ⟨_, _, rfl, ⟨_, _, _, _, by rw [← hsn]; rfl, rfl, hrs, hsc⟩, hS12⟩
        ·
          have hc20b := hc20
          try simp only [decide_eq_true_eq, decide_eq_false_iff_not, Bool.not_eq_true', Bool.not_eq_false', Bool.and_eq_true, Bool.or_eq_true, Int.not_lt, Int.not_le, ne_eq, Decidable.not_not] at hc20
          have hk1 : ¬ (4096 < (l.drop o).getD 1 0 * 2 ^ 8 + (l.drop o).getD 2 0 + 1 ∨ (l.drop o).length < 5 + ((l.drop o).getD 1 0 * 2 ^ 8 + (l.drop o).getD 2 0 + 1)) := by rw [hnn]; omega
          refine wp_skip ?_
          refine hK15 _ _ ?_
          refine wp_seq_k (fun K22 hK22 => ?_)
          refine wp_region_lit ?_
          refine l_q rfl rfl (q_moveS rfl) ?_
          refine l_q rfl rfl (q_moveI rfl) ?_
          refine l_q rfl rfl (q_addx rfl rfl (by first | decide | omega) (by first | decide | omega)) ?_
          refine l_q rfl rfl (q_moveI rfl) ?_
          refine l_q rfl rfl (q_addx rfl rfl (by first | decide | omega) (by first | decide | omega)) ?_
          refine l_q rfl rfl (q_moveI rfl) ?_
          refine l_q rfl rfl (q_addx rfl rfl (by first | decide | omega) (by first | decide | omega)) ?_
          refine l_q rfl rfl (q_sliceX (e := 5) (size := 1) (l := (o + 5)) (h := ((o + 5) + (((256 * x13) + x14) + 1))) (m := cap) (ad' := (subS ad (o + 5) 1 cap)) (len' := (((o + 5) + (((256 * x13) + x14) + 1)) - (o + 5))) (cap' := (cap - (o + 5))) rfl (by kernel_rfl) (by kernel_rfl) rfl ⟨_, int_nat (by first | rfl | omega) rfl⟩ ⟨_, int_nat (by first | rfl | omega) rfl⟩ (by omega) (by first | omega | (simp only [List.length_append, List.length_map, List.length_cons, List.length_nil, List.length_take, List.length_drop, List.length_set] <;> omega)) (by first | omega | (simp only [List.length_append, List.length_map, List.length_cons, List.length_nil, List.length_take, List.length_drop, List.length_set] <;> omega)) rfl rfl rfl rfl) ?_
          refine l_q rfl rfl (q_assignS rfl) ?_
          refine l_nil ?_
          refine hK22 _ _ ?_
          refine wp_seq_k (fun K23 hK23 => ?_)
          refine wp_seq_k (fun K24 hK24 => ?_)
          refine r_any (by kernel_rfl) hS12 (fun w25 hS25 => ?_)
          clear hS12
          refine o_pure (i := 0) (fun _ _ => trivial) rfl rfl (by kernel_rfl) (goes0 rfl) (QOk.then (QOk.then (QOk.inBlock (QOk.then (QOk.inBlock (QOk.then QOk.body)))))) (fun w => q_moveS rfl) ?_
          refine o_pure (i := 3) (fun _ _ => trivial) rfl rfl (by kernel_rfl) (goes0 rfl) (QOk.then (QOk.then (QOk.inBlock (QOk.then (QOk.inBlock (QOk.then QOk.body)))))) (fun w => q_moveS rfl) ?_
          refine o_pure (i := 4) (fun _ _ => trivial) rfl rfl (by kernel_rfl) (goes0 rfl) (QOk.then (QOk.then (QOk.inBlock (QOk.then (QOk.inBlock (QOk.then QOk.body)))))) (fun w => q_moveI rfl) ?_
          refine o_pure (i := 5) (fun _ _ => trivial) rfl rfl (by kernel_rfl) (goes0 rfl) (QOk.then (QOk.then (QOk.inBlock (QOk.then (QOk.inBlock (QOk.then QOk.body)))))) (fun w => q_moveI rfl) ?_
          refine o_pure (i := 6) (fun _ _ => trivial) rfl rfl (by kernel_rfl) (goes0 rfl) (QOk.then (QOk.then (QOk.inBlock (QOk.then (QOk.inBlock (QOk.then QOk.body)))))) (fun w => q_addx rfl rfl (by first | decide | omega) (by first | decide | omega)) ?_
          refine o_pure (i := 7) (fun _ _ => trivial) rfl rfl (by kernel_rfl) (goes0 rfl) (QOk.then (QOk.then (QOk.inBlock (QOk.then (QOk.inBlock (QOk.then QOk.body)))))) (fun w => q_moveI rfl) ?_
          refine o_pure (i := 8) (fun _ _ => trivial) rfl rfl (by kernel_rfl) (goes0 rfl) (QOk.then (QOk.then (QOk.inBlock (QOk.then (QOk.inBlock (QOk.then QOk.body)))))) (fun w => q_addx rfl rfl (by first | decide | omega) (by first | decide | omega)) ?_
          refine o_pure (i := 9) (fun _ _ => trivial) rfl rfl (by kernel_rfl) (goes0 rfl) (QOk.then (QOk.then (QOk.inBlock (QOk.then (QOk.inBlock (QOk.then QOk.body)))))) (fun w => q_sliceX (e := 5) (size := 1) (l := o) (h := ((o + 5) + (((256 * x13) + x14) + 1))) (m := cap) (ad' := (subS ad o 1 cap)) (len' := (((o + 5) + (((256 * x13) + x14) + 1)) - o)) (cap' := (cap - o)) rfl (by kernel_rfl) (by kernel_rfl) rfl ⟨_, int_nat (by first | rfl | omega) rfl⟩ ⟨_, int_nat (by first | rfl | omega) rfl⟩ (by omega) (by first | omega | (simp only [List.length_append, List.length_map, List.length_cons, List.length_nil, List.length_take, List.length_drop, List.length_set] <;> omega)) (by first | omega | (simp only [List.length_append, List.length_map, List.length_cons, List.length_nil, List.length_take, List.length_drop, List.length_set] <;> omega)) rfl rfl rfl rfl) ?_
          have hX : (l.drop (o + 5)).take (((o + 5) + (((256 * x13) + x14) + 1)) - (o + 5)) = ((l.drop o).drop 5).take ((l.drop o).getD 1 0 * 2 ^ 8 + (l.drop o).getD 2 0 + 1) := by rw [hnn, List.drop_drop, Nat.add_sub_cancel_left]
          have hY : (l.drop o).take (((o + 5) + (((256 * x13) + x14) + 1)) - o) = (l.drop o).take (5 + ((l.drop o).getD 1 0 * 2 ^ 8 + (l.drop o).getD 2 0 + 1)) := by rw [hnn, show (o + 5) + (((256 * x13) + x14) + 1) - o = 5 + (256 * x13 + x14 + 1) from by omega]
          refine o_held (i := 10) [11] (fun _ _ => trivial) rfl rfl (by kernel_rfl) (goes0 rfl) (QOk.then (QOk.then (QOk.inBlock (QOk.then (QOk.inBlock (QOk.then QOk.body)))))) (q_convBS (l := ((l.drop o).take (((o + 5) + (((256 * x13) + x14) + 1)) - o))) rfl ((bv_sub (SlG.sub (l := o) (size := 1) (m := cap) (n := ((o + 5) + (((256 * x13) + x14) + 1)) - o) hG (by first | omega | (simp only [List.length_append, List.length_map, List.length_cons, List.length_nil, List.length_take, List.length_drop, List.length_set] <;> omega)) (by decide))).mono hS25.base) (by first | omega | (simp only [List.length_append, List.length_map, List.length_cons, List.length_nil, List.length_take, List.length_drop, List.length_set] <;> omega)) (by kernel_rfl) (by kernel_rfl)) ?_
          refine o_eff (i := 1) (by kernel_rfl) rfl (goes0 rfl) (fun K hK => ?_)
          have hB26 : Bytes (fr ((l.drop (o + 5)).take (((o + 5) + (((256 * x13) + x14) + 1)) - (o + 5)))) := fr_bytes (Bytes.sub hl)
          refine e_call (by kernel_rfl) (rframe_ok ((l.drop (o + 5)).take (((o + 5) + (((256 * x13) + x14) + 1)) - (o + 5))) (Bytes.sub hl) (((o + 5) + (((256 * x13) + x14) + 1)) - (o + 5)) (by first | omega | (simp only [List.length_append, List.length_map, List.length_cons, List.length_nil, List.length_take, List.length_drop, List.length_set] <;> omega)) (by first | omega | (simp only [List.length_append, List.length_map, List.length_cons, List.length_nil, List.length_take, List.length_drop, List.length_set] <;> omega)) (by first | omega | (simp only [List.length_append, List.length_map, List.length_cons, List.length_nil, List.length_take, List.length_drop, List.length_set] <;> omega)) _ _ _ ((bv_sub (SlG.sub (l := (o + 5)) (size := 1) (m := cap) (n := ((o + 5) + (((256 * x13) + x14) + 1)) - (o + 5)) hG (by first | omega | (simp only [List.length_append, List.length_map, List.length_cons, List.length_nil, List.length_take, List.length_drop, List.length_set] <;> omega)) (by decide))).mono hS25.base)) rfl (after_N hS25 (fun v26 G26 w26 hv26 hS26 => ?_))
          clear hS25
          obtain ⟨ad26, cp26, rfl, rfl⟩ := hv26
          have hS27 : St _ _ [.ow 5 1 ad26 ((fr ((l.drop (o + 5)).take (((o + 5) + (((256 * x13) + x14) + 1)) - (o + 5)))).length) cp26 (bv (fr ((l.drop (o + 5)).take (((o + 5) + (((256 * x13) + x14) + 1)) - (o + 5))))), .ow 96 2 rad rs.length rcap (List.flatMap rc rs), .fz g1] _ := hS26; clear hS26
          refine hK _ _ ⟨trivial, fun _ _ => by first | exact q_convBS (l := ((l.drop o).take (((o + 5) + (((256 * x13) + x14) + 1)) - o))) rfl ((bv_sub (SlG.sub (l := o) (size := 1) (m := cap) (n := ((o + 5) + (((256 * x13) + x14) + 1)) - o) hG (by first | omega | (simp only [List.length_append, List.length_map, List.length_cons, List.length_nil, List.length_take, List.length_drop, List.length_set] <;> omega)) (by decide))).mono hS27.base) (by first | omega | (simp only [List.length_append, List.length_map, List.length_cons, List.length_nil, List.length_take, List.length_drop, List.length_set] <;> omega)) (by kernel_rfl) (by kernel_rfl)⟩ ?_; clear hK K
          refine o_held (i := 2) [11] (fun j w => ⟨(fun _ _ => trivial) j w, fun _ h => h⟩) rfl rfl (by kernel_rfl) (goes0 rfl) (QOk.then (QOk.then (QOk.inBlock (QOk.then (QOk.inBlock (QOk.then QOk.body)))))) (q_convBS (l := (fr ((l.drop (o + 5)).take (((o + 5) + (((256 * x13) + x14) + 1)) - (o + 5))))) rfl (hS27.owG (i := 0) rfl) (by first | omega | (simp only [List.length_append, List.length_map, List.length_cons, List.length_nil, List.length_take, List.length_drop, List.length_set] <;> omega)) (by kernel_rfl) (by kernel_rfl)) ?_
          refine o_pure (i := 11) (fun j w => ⟨(fun j w => ⟨(fun _ _ => trivial) j w, fun _ h => h⟩) j w, fun _ h => h⟩) rfl rfl (by kernel_rfl) (goes0 rfl) (QOk.then (QOk.then (QOk.inBlock (QOk.then (QOk.inBlock (QOk.then QOk.body)))))) (fun w => q_str_neq (l := (fr ((l.drop (o + 5)).take (((o + 5) + (((256 * x13) + x14) + 1)) - (o + 5))))) (m := ((l.drop o).take (((o + 5) + (((256 * x13) + x14) + 1)) - o))) rfl rfl hB26 (Bytes.sub hl)) ?_
          refine o_done (by kernel_rfl) ?_
          refine hK24 _ _ ?_
          refine c_cond rfl (fun hc28 => ?_) (fun hc28 => ?_)
          ·
            have hc28b := hc28
            try simp only [decide_eq_true_eq, decide_eq_false_iff_not, Bool.not_eq_true', Bool.not_eq_false', Bool.and_eq_true, Bool.or_eq_true, Int.not_lt, Int.not_le, ne_eq, Decidable.not_not] at hc28
            rw [hX, hY] at hc28
            have hn : tkN (l.drop o) = none := tk_no3 (Bytes.drop hl) (by omega) hk1 hc28
            rw [scan_none hn, List.append_nil] at hsc
            rw [scan_none hn] at hsn
            dsimp only at hsn
            refine wp_exit ?_
            refine hK4 _ _ ?_
            refine wp_seq_k (fun K29 hK29 => ?_)
            refine wp_region_lit ?_
            refine l_q rfl rfl (q_moveS rfl) ?_
            refine l_q rfl rfl (q_moveI rfl) ?_
            refine l_q rfl rfl (q_assignS rfl) ?_
            refine l_q rfl rfl (q_assignI rfl) ?_
            refine l_nil ?_
            refine hK29 _ _ ?_
            refine wp_ret ?_
            refine c_ret2 rfl rfl rfl ?_
            have hS30 := hS27.fr2; clear hS27
            have hS31 := hS30.fr2; clear hS30
            have hS32 : St _ _ [.ow 96 2 rad rs.length rcap (List.flatMap rc rs), .fz g1] _ := hS31.only 2; clear hS31
            exact ⟨_, _, rfl, ⟨_, _, _, _, by rw [← hsn]; rfl, rfl, hrs, hsc⟩, hS32⟩
          ·
            have hc28b := hc28
            try simp only [decide_eq_true_eq, decide_eq_false_iff_not, Bool.not_eq_true', Bool.not_eq_false', Bool.and_eq_true, Bool.or_eq_true, Int.not_lt, Int.not_le, ne_eq, Decidable.not_not] at hc28
            rw [hX, hY] at hc28
            have hn := (fr_scan (Bytes.drop hl) (by omega) hk1).1 hc28
            obtain ⟨n, hnE⟩ : ∃ n, n = (l.drop o).getD 1 0 * 2 ^ 8 + (l.drop o).getD 2 0 + 1 := ⟨_, rfl⟩
            rw [← hnE] at hn hX hY
            rw [hnn] at hnE
            have hnl := tkN_le hn
            have hXl : ((l.drop (o + 5)).take (((o + 5) + (((256 * x13) + x14) + 1)) - (o + 5))).length = n := by rw [hX, List.length_take, List.length_drop]; omega
            have hEl : ((o + 5) + (((256 * x13) + x14) + 1)) - (o + 5) = ((l.drop (o + 5)).take (((o + 5) + (((256 * x13) + x14) + 1)) - (o + 5))).length := by rw [hXl]; omega
            refine wp_skip ?_
            refine hK23 _ _ ?_
            refine wp_seq_k (fun K33 hK33 => ?_)
            refine wp_region_lit ?_
            refine l_q rfl rfl (q_moveS rfl) ?_
            refine l_q rfl rfl (q_moveI rfl) ?_
            refine l_q rfl rfl (q_moveI rfl) ?_
            refine l_q rfl rfl (q_addx rfl rfl (by first | decide | omega) (by first | decide | omega)) ?_
            refine l_e rfl (fun K hK => ?_)
            refine e_buildSlice1 (e := 5) (zv := .int .u8 0) (xs := []) hS27 (by kernel_rfl) (by kernel_rfl) (by kernel_rfl) rfl rfl rfl rfl ((by intro u hu; cases hu)) rfl (fun b34 w34 (hS34 : St _ _ [.blk b34 (.cells #[] 5), .ow 5 1 ad26 ((fr ((l.drop (o + 5)).take (((o + 5) + (((256 * x13) + x14) + 1)) - (o + 5)))).length) cp26 (bv (fr ((l.drop (o + 5)).take (((o + 5) + (((256 * x13) + x14) + 1)) - (o + 5))))), .ow 96 2 rad rs.length rcap (List.flatMap rc rs), .fz g1] _) => ?_)
            clear hS27
            have hS34o : St _ _ [.ow 5 1 (some ⟨b34, 0, none⟩) 0 0 (bv []), .ow 5 1 ad26 ((fr ((l.drop (o + 5)).take (((o + 5) + (((256 * x13) + x14) + 1)) - (o + 5)))).length) cp26 (bv (fr ((l.drop (o + 5)).take (((o + 5) + (((256 * x13) + x14) + 1)) - (o + 5))))), .ow 96 2 rad rs.length rcap (List.flatMap rc rs), .fz g1] _ := hS34.blkOw' (i := 0) (m := 0) (size := 1) (xs := bv []) rfl rfl rfl (by decide); clear hS34
            refine hK _ _ ?_; clear hK K
            refine l_q rfl rfl (q_moveS rfl) ?_
            refine l_e rfl (fun K hK => ?_)
            refine e_app (e := 5) (size := 1) (bytes := 1) (i := 0) (m' := (((o + 5) + (((256 * x13) + x14) + 1)) - (o + 5))) (by kernel_rfl) hS34o rfl rfl rfl (SlG.src (e := 5) (by kernel_rfl) ((bv_sub (SlG.sub (l := (o + 5)) (size := 1) (m := cap) (n := ((o + 5) + (((256 * x13) + x14) + 1)) - (o + 5)) hG (by first | omega | (simp only [List.length_append, List.length_map, List.length_cons, List.length_nil, List.length_take, List.length_drop, List.length_set] <;> omega)) (by decide))).mono hS34o.base) (by first | (simp only [List.length_append, List.length_map, List.length_cons, List.length_nil, List.length_take, List.length_drop, List.length_set, Nat.mul_one]; done) | (simp only [List.length_append, List.length_map, List.length_cons, List.length_nil, List.length_take, List.length_drop, List.length_set]; omega) | rfl | (simp; done)) (by decide) (bv_one _)) (by first | omega | (simp only [List.length_append, List.length_map, List.length_cons, List.length_nil, List.length_take, List.length_drop, List.length_set] <;> omega) | (simp; done)) rfl (by first | omega | (simp only [maxLen, List.length_append, List.length_map, List.length_cons, List.length_nil, List.length_take, List.length_drop, List.length_set] <;> omega) | (simp only [maxLen]; omega)) (by first | omega | (simp only [List.length_append, List.length_map, List.length_cons, List.length_nil, List.length_take, List.length_drop, List.length_set] <;> omega)) (fun ad35 cp35 w35 (hS35 : St _ _ [.ow 5 1 ad35 (((o + 5) + (((256 * x13) + x14) + 1)) - (o + 5)) cp35 (bv ((l.drop (o + 5)).take (((o + 5) + (((256 * x13) + x14) + 1)) - (o + 5)))), .ow 5 1 ad26 ((fr ((l.drop (o + 5)).take (((o + 5) + (((256 * x13) + x14) + 1)) - (o + 5)))).length) cp26 (bv (fr ((l.drop (o + 5)).take (((o + 5) + (((256 * x13) + x14) + 1)) - (o + 5))))), .ow 96 2 rad rs.length rcap (List.flatMap rc rs), .fz g1] _) => ?_)
            clear hS34o
            refine hK _ _ ?_; clear hK K
            have hS36 := hS35.fr3; clear hS35
            have hS37 := hS36.fr1; clear hS36
            obtain ⟨g38, hle38, hfz38, hS38⟩ := hS37.freezeOw; clear hS37
            refine l_q rfl rfl (q_build (ps := [(0, 1), (1, 1)]) (zv := .agg #[.int .i64 0, .slice none 0 0]) (by kernel_rfl) (by kernel_rfl) rfl (by repeat' (first | exact trivial | refine ⟨fun _ => by first | rfl | assumption | exact one_if (by assumption), ?_⟩ | refine ⟨fun ⟨_, h⟩ => by simp at h, ?_⟩)) rfl) ?_
            refine l_e rfl (fun K hK => ?_)
            refine e_buildSliceA (e := 96) (m := 2) (zv := .agg #[.int .i64 0, .slice none 0 0]) hS38 (by kernel_rfl) (by kernel_rfl) (by kernel_rfl) rfl rfl rfl rfl (fun b39 w39 (hS39 : St _ _ [.blk b39 (.cells #[.int .i64 (((b : Nat) : Int) + ((o : Nat) : Int)), .slice ad35 (((o + 5) + (((256 * x13) + x14) + 1)) - (o + 5)) cp35] 96), .fz g38, .ow 5 1 ad26 ((fr ((l.drop (o + 5)).take (((o + 5) + (((256 * x13) + x14) + 1)) - (o + 5)))).length) cp26 (bv (fr ((l.drop (o + 5)).take (((o + 5) + (((256 * x13) + x14) + 1)) - (o + 5))))), .ow 96 2 rad rs.length rcap (List.flatMap rc rs)] _) => ?_)
            clear hS38
            have hS39o : St _ _ [.ow 96 2 (some ⟨b39, 0, none⟩) 1 1 (List.flatMap rc [Rc.mk (b + o) ad35 cp35 ((l.drop (o + 5)).take (((o + 5) + (((256 * x13) + x14) + 1)) - (o + 5)))]), .fz g38, .ow 5 1 ad26 ((fr ((l.drop (o + 5)).take (((o + 5) + (((256 * x13) + x14) + 1)) - (o + 5)))).length) cp26 (bv (fr ((l.drop (o + 5)).take (((o + 5) + (((256 * x13) + x14) + 1)) - (o + 5))))), .ow 96 2 rad rs.length rcap (List.flatMap rc rs)] _ := hS39.blkOw' (i := 0) (m := 1) (size := 2) (xs := List.flatMap rc [Rc.mk (b + o) ad35 cp35 ((l.drop (o + 5)).take (((o + 5) + (((256 * x13) + x14) + 1)) - (o + 5)))]) rfl (congrArg (fun z => [Value.int .i64 _, Value.slice _ z _]) hEl) rfl (by decide); clear hS39
            refine hK _ _ ?_; clear hK K
            refine l_e rfl (fun K hK => ?_)
            refine e_app (e := 96) (size := 2) (bytes := 32) (i := 3) (m' := (rs ++ [Rc.mk (b + o) ad35 cp35 ((l.drop (o + 5)).take (((o + 5) + (((256 * x13) + x14) + 1)) - (o + 5)))]).length) (by kernel_rfl) hS39o rfl rfl rfl (SlG.src (e := 96) (by kernel_rfl) (hS39o.owG (i := 0) rfl) ((rows_len (c := rc) (m := 2) (fun _ => rfl) _).trans (by first | rfl | (simp only [List.length_append, List.length_map, List.length_cons, List.length_nil, List.length_take, List.length_drop, List.length_set]; done) | (simp only [List.length_append, List.length_map, List.length_cons, List.length_nil, List.length_take, List.length_drop, List.length_set]; omega) | omega)) (by decide) (rows_one rc_ones)) (by first | omega | (simp only [List.length_append, List.length_map, List.length_cons, List.length_nil, List.length_take, List.length_drop, List.length_set] <;> omega) | (simp; done)) rows_app (by first | omega | (simp only [maxLen, List.length_append, List.length_map, List.length_cons, List.length_nil, List.length_take, List.length_drop, List.length_set] <;> omega) | (simp only [maxLen]; omega)) (by first | omega | (simp only [List.length_append, List.length_map, List.length_cons, List.length_nil, List.length_take, List.length_drop, List.length_set] <;> omega)) (fun ad40 cp40 w40 (hS40 : St _ _ [.ow 96 2 (some ⟨b39, 0, none⟩) 1 1 (List.flatMap rc [Rc.mk (b + o) ad35 cp35 ((l.drop (o + 5)).take (((o + 5) + (((256 * x13) + x14) + 1)) - (o + 5)))]), .fz g38, .ow 5 1 ad26 ((fr ((l.drop (o + 5)).take (((o + 5) + (((256 * x13) + x14) + 1)) - (o + 5)))).length) cp26 (bv (fr ((l.drop (o + 5)).take (((o + 5) + (((256 * x13) + x14) + 1)) - (o + 5))))), .ow 96 2 ad40 ((rs ++ [Rc.mk (b + o) ad35 cp35 ((l.drop (o + 5)).take (((o + 5) + (((256 * x13) + x14) + 1)) - (o + 5)))]).length) cp40 (List.flatMap rc (rs ++ [Rc.mk (b + o) ad35 cp35 ((l.drop (o + 5)).take (((o + 5) + (((256 * x13) + x14) + 1)) - (o + 5)))]))] _) => ?_)
            clear hS39o
            refine hK _ _ ?_; clear hK K
            refine l_q rfl rfl (q_assignS rfl) ?_
            refine l_nil ?_
            refine hK33 _ _ ?_
            refine wp_region_lit ?_
            refine l_q rfl rfl (q_moveI rfl) ?_
            refine l_q rfl rfl (q_addx rfl rfl (by first | decide | omega) (by first | decide | omega)) ?_
            refine l_q rfl rfl (q_moveI rfl) ?_
            refine l_q rfl rfl (q_addx rfl rfl (by first | decide | omega) (by first | decide | omega)) ?_
            refine l_q rfl rfl (q_assignI rfl) ?_
            refine l_nil ?_
            have hdd : (l.drop o).drop (5 + n) = l.drop (o + (5 + n)) := List.drop_drop
            have hsc2 : List.map Rc.abs ((rs ++ [Rc.mk (b + o) ad35 cp35 ((l.drop (o + 5)).take (((o + 5) + (((256 * x13) + x14) + 1)) - (o + 5)))])) ++ (scan (l.drop (o + (5 + n))) (b + (o + (5 + n)))).1 = (scan l b).1 := by rw [← hsc, scan_some hn, ← hX, List.map_append, List.append_assoc, hdd, show b + o + (5 + n) = b + (o + (5 + n)) from Nat.add_assoc _ _ _]; rfl
            have hsn2 : o + (5 + n) + (scan (l.drop (o + (5 + n))) (b + (o + (5 + n)))).2 = (scan l b).2 := by rw [← hsn, scan_some hn, hdd, ← Nat.add_assoc b o (5 + n)]; exact Nat.add_assoc _ _ _
            have hS41 := hS40.fr1; clear hS40
            have hS42 := hS41.fr3; clear hS41
            have hS43 : St _ _ [.ow 96 2 ad40 ((rs ++ [Rc.mk (b + o) ad35 cp35 ((l.drop (o + 5)).take (((o + 5) + (((256 * x13) + x14) + 1)) - (o + 5)))]).length) cp40 (List.flatMap rc (rs ++ [Rc.mk (b + o) ad35 cp35 ((l.drop (o + 5)).take (((o + 5) + (((256 * x13) + x14) + 1)) - (o + 5)))])), .fz g38] _ := hS42.only 2; clear hS42
            refine hK7 _ _ (came (⟨g38, (o + (5 + n)), (rs ++ [Rc.mk (b + o) ad35 cp35 ((l.drop (o + 5)).take (((o + 5) + (((256 * x13) + x14) + 1)) - (o + 5)))]), ad40, cp40⟩) (by repeat' (first | exact Agree.refl _ _ | refine Agree.up ?_ rfl | refine Agree.hav2 ?_ rfl | refine Agree.ups2 ?_ rfl)) (by repeat' (first | exact trivial | refine ⟨by first | rfl | exact congrArg (Value.int .i64) (by first | omega | (dsimp only; omega)), ?_⟩)) ?_)
            exact ⟨⟨hS43, (hrs.mono hle38).app (RsOk.one ⟨hfz38, Bytes.sub hl, (show (((l.drop (o + 5)).take (((o + 5) + (((256 * x13) + x14) + 1)) - (o + 5)))).length ≤ 4096 by omega), (show b + o ≤ 2000000000 by omega), (show 1 ≤ (((l.drop (o + 5)).take (((o + 5) + (((256 * x13) + x14) + 1)) - (o + 5)))).length by omega)⟩), (show o + (5 + n) ≤ l.length by omega), hsc2, hsn2, (by show (rs ++ [_]).length ≤ o + (5 + n); rw [List.length_append]; simp only [List.length_cons, List.length_nil]; omega)⟩, by (show l.length - (o + (5 + n)) < l.length - o); omega⟩
    ·
      have hc10b := hc10
      try simp only [decide_eq_true_eq, decide_eq_false_iff_not, Bool.not_eq_true', Bool.not_eq_false', Bool.and_eq_true, Bool.or_eq_true, Int.not_lt, Int.not_le, ne_eq, Decidable.not_not] at hc10
      have hn : tkN (l.drop o) = none := tk_no1 (by omega)
      rw [scan_none hn, List.append_nil] at hsc
      rw [scan_none hn] at hsn
      dsimp only at hsn
      refine wp_exit ?_
      refine hK4 _ _ ?_
      refine wp_seq_k (fun K44 hK44 => ?_)
      refine wp_region_lit ?_
      refine l_q rfl rfl (q_moveS rfl) ?_
      refine l_q rfl rfl (q_moveI rfl) ?_
      refine l_q rfl rfl (q_assignS rfl) ?_
      refine l_q rfl rfl (q_assignI rfl) ?_
      refine l_nil ?_
      refine hK44 _ _ ?_
      refine wp_ret ?_
      refine c_ret2 rfl rfl rfl ?_
      exact ⟨_, _, rfl, ⟨_, _, _, _, by rw [← hsn]; rfl, rfl, hrs, hsc⟩, hS7⟩

end Go.Proofs.Ytmbbkliekgiolaa
