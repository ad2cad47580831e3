/- law04: the live question; the document's Encode. -/
import Derived.Test.YtmemgpcgjephmaaDoorK3
set_option linter.unusedVariables false
set_option linter.unusedSimpArgs false
namespace Go.Proofs.YtmemgpcgjephmaaDoor
open Go.RowKit
theorem esc_take {s : List Nat} {i b : Nat} (hb : s[i]? = some b) : esc (s.take (i + 1)) = esc (s.take i) ++ (if b = 0 then [0, 255] else [b]) := by
  rw [List.take_add_one, hb, esc_app]
  simp [esc]
theorem alive4_enc : encR [((2 : Int), (-1 : Int), ([] : List Nat)), ((4 : Int), (0 : Int), [97])] = ([2, 127, 255, 255, 255, 255, 255, 255, 255, 4, 97, 0, 1], 0) := by decide +kernel
attribute [local irreducible] Oper.wp Sem.run Code.wp wpList wpAnyO callFunc execOp Calls
attribute [local irreducible] enc encR rightB toU encV


set_option maxHeartbeats 4000000 in
set_option maxRecDepth 100000 in
theorem one_ok (a : Vl) (h : VOk a) (hr : rightB a = true) (w : World) : Calls Tryd.prog 57 #[.agg (vl a).toArray] w (PostN w fun v G => ∃ oa oc, v = .slice oa (encV a).length oc ∧ G = [.ow 5 1 oa (encV a).length oc (bv (encV a))]) := by
 have hS := St.start w
 obtain ⟨hk0, hk5, hk1, hks⟩ := right_k hr
 have htu := toU_lt a.2.1
 have hkb : Bytes [(a.1.toNat % 256)] := fun x hx => by rw [List.mem_singleton] at hx; omega
 refine c_enter Tryd.func57 rfl rfl rfl ?_
 refine wp_seq_k (fun K1 hK1 => ?_)
 refine wp_region_lit ?_
 refine l_e rfl (fun K hK => ?_)
 refine e_boxA hS rfl (fun b2 w2 (hS2 : St _ _ [.blk b2 (.cells #[.int .i64 a.1, .int .i64 a.2.1, .string (bs a.2.2)] 32)] _) => ?_)
 clear hS
 refine hK _ _ ?_; clear hK K
 refine l_q rfl rfl (q_assignS rfl) ?_
 refine l_nil ?_
 refine hK1 _ _ ?_
 refine wp_seq_k (fun K3 hK3 => ?_)
 refine wp_region_lit ?_
 refine l_q rfl rfl (q_fieldAddr (ft := 23) (o := 0) rfl (by kernel_rfl)) ?_
 refine l_q rfl rfl (q_load1 rfl (by kernel_rfl) (hS2.cell (i := 0) rfl rfl)) ?_
 refine l_q rfl rfl (u_conv (a := a.1.toNat) (k' := .u8) (M := 256) (int_nat (by omega) rfl) (by kernel_rfl) (by kernel_rfl) rfl (by decide)) ?_
 refine l_e rfl (fun K hK => ?_)
 refine e_buildSlice1 (e := 5) (zv := .int .u8 0) (xs := [.tmp 9]) hS2 (by kernel_rfl) (by kernel_rfl) (by kernel_rfl) rfl rfl rfl rfl (allone (by repeat' (first | exact trivial | refine ⟨by first | rfl | assumption, ?_⟩))) rfl (fun b4 w4 (hS4 : St _ _ [.blk b4 (.cells #[.int .u8 (((a.1.toNat % 256) : Nat) : Int)] 5), .blk b2 (.cells #[.int .i64 a.1, .int .i64 a.2.1, .string (bs a.2.2)] 32)] _) => ?_)
 clear hS2
 have hB4 : Bytes [(a.1.toNat % 256)] := by intro q hq; simp only [List.mem_cons, List.not_mem_nil, or_false] at hq; omega
 have hS4o : St _ _ [.ow 5 1 (some ⟨b4, 0, none⟩) 1 1 (bv [(a.1.toNat % 256)]), .blk b2 (.cells #[.int .i64 a.1, .int .i64 a.2.1, .string (bs a.2.2)] 32)] _ := hS4.blkOw' (i := 0) (m := 1) (size := 1) (xs := bv [(a.1.toNat % 256)]) rfl rfl rfl (by decide); clear hS4
 refine hK _ _ ?_; clear hK K
 refine l_q rfl rfl (q_assignS rfl) ?_
 refine l_nil ?_
 refine hK3 _ _ ?_
 refine wp_seq_k (fun K5 hK5 => ?_)
 refine wp_seq_k (fun K6 hK6 => ?_)
 refine wp_region_lit ?_
 refine l_q rfl rfl (q_fieldAddr (ft := 23) (o := 0) rfl (by kernel_rfl)) ?_
 refine l_q rfl rfl (q_load1 rfl (by kernel_rfl) (hS4o.cell (i := 1) rfl rfl)) ?_
 refine l_nil ?_
 refine hK6 _ _ ?_
 refine wp_block ?_
 refine wp_seq_k (fun K7 hK7 => ?_)
 refine wp_region_lit ?_
 refine l_q rfl rfl (q_eql rfl rfl) ?_
 refine l_q rfl rfl (q_assignB rfl) ?_
 refine l_nil ?_
 refine hK7 _ _ ?_
 refine c_cond rfl (fun hc8 => ?_) (fun hc8 => ?_)
 ·
  have hc8b := hc8
  try simp only [decide_eq_true_eq, decide_eq_false_iff_not, Bool.not_eq_true', Bool.not_eq_false', Bool.and_eq_true, Bool.or_eq_true, Int.not_lt, Int.not_le, ne_eq, Decidable.not_not] at hc8
  have hk1' := hk1 (by omega)
  refine wp_region_lit ?_
  refine l_q rfl rfl (q_moveS rfl) ?_
  refine l_q rfl rfl (q_fieldAddr (ft := 2) (o := 1) rfl (by kernel_rfl)) ?_
  refine l_q rfl rfl (q_load1 rfl (by kernel_rfl) (hS4o.cell (i := 1) rfl rfl)) ?_
  refine l_q rfl rfl (u_conv (a := a.2.1.toNat) (k' := .u8) (M := 256) (int_nat (by omega) rfl) (by kernel_rfl) (by kernel_rfl) rfl (by decide)) ?_
  refine l_e rfl (fun K hK => ?_)
  refine e_buildSlice1 (e := 5) (zv := .int .u8 0) (xs := [.tmp 18]) hS4o (by kernel_rfl) (by kernel_rfl) (by kernel_rfl) rfl rfl rfl rfl (allone (by repeat' (first | exact trivial | refine ⟨by first | rfl | assumption, ?_⟩))) rfl (fun b9 w9 (hS9 : St _ _ [.blk b9 (.cells #[.int .u8 (((a.2.1.toNat % 256) : Nat) : Int)] 5), .ow 5 1 (some ⟨b4, 0, none⟩) 1 1 (bv [(a.1.toNat % 256)]), .blk b2 (.cells #[.int .i64 a.1, .int .i64 a.2.1, .string (bs a.2.2)] 32)] _) => ?_)
  clear hS4o
  have hB9 : Bytes [(a.2.1.toNat % 256)] := by intro q hq; simp only [List.mem_cons, List.not_mem_nil, or_false] at hq; omega
  have hS9o : St _ _ [.ow 5 1 (some ⟨b9, 0, none⟩) 1 1 (bv [(a.2.1.toNat % 256)]), .ow 5 1 (some ⟨b4, 0, none⟩) 1 1 (bv [(a.1.toNat % 256)]), .blk b2 (.cells #[.int .i64 a.1, .int .i64 a.2.1, .string (bs a.2.2)] 32)] _ := hS9.blkOw' (i := 0) (m := 1) (size := 1) (xs := bv [(a.2.1.toNat % 256)]) rfl rfl rfl (by decide); clear hS9
  refine hK _ _ ?_; clear hK K
  refine l_e rfl (fun K hK => ?_)
  have hB10 : Bytes ([(a.1.toNat % 256)] ++ [(a.2.1.toNat % 256)]) := Bytes.app hB4 hB9
  refine e_app (e := 5) (size := 1) (bytes := 1) (i := 1) (m' := 2) (by kernel_rfl) hS9o rfl rfl rfl (SlG.src (e := 5) (by kernel_rfl) (hS9o.owG (i := 0) rfl) (by first | (simp only [lls, Nat.mul_one]; done) | (simp only [lls]; omega) | rfl | (simp; done)) (by decide) (bv_one _)) (by first | omega | (simp only [lls] <;> omega) | (simp; done)) bv_app (by first | omega | (simp only [maxLen, lls] <;> omega) | (simp only [maxLen]; omega)) (by first | omega | (simp only [lls] <;> omega)) (fun ad10 cp10 w10 (hS10 : St _ _ [.ow 5 1 (some ⟨b9, 0, none⟩) 1 1 (bv [(a.2.1.toNat % 256)]), .ow 5 1 ad10 2 cp10 (bv ([(a.1.toNat % 256)] ++ [(a.2.1.toNat % 256)])), .blk b2 (.cells #[.int .i64 a.1, .int .i64 a.2.1, .string (bs a.2.2)] 32)] _) => ?_)
  clear hS9o
  refine hK _ _ ?_; clear hK K
  refine l_q rfl rfl (q_assignS rfl) ?_
  refine l_nil ?_
  refine hK5 _ _ ?_
  refine wp_seq_k (fun K11 hK11 => ?_)
  refine wp_region_lit ?_
  refine l_q rfl rfl (q_moveS rfl) ?_
  refine l_q rfl rfl (q_assignS rfl) ?_
  refine l_nil ?_
  refine hK11 _ _ ?_
  refine wp_ret ?_
  refine c_ret1 rfl rfl ?_
  have hS12 := hS10.fr1; clear hS10
  have hS13 : St _ _ [.ow 5 1 ad10 2 cp10 (bv ([(a.1.toNat % 256)] ++ [(a.2.1.toNat % 256)]))] _ := hS12.only 1; clear hS12
  have he : encV a = ([(a.1.toNat % 256)] ++ [(a.2.1.toNat % 256)]) := by rw [encV, encB1 (by omega)]; try simp [be8, bia, xor_top htu]
  exact ⟨_, _, rfl, ⟨_, _, congrArg (fun n : Nat => Value.slice ad10 n cp10) (show 2 = (encV a).length from by rw [he] <;> first | rfl | simp), by rw [he] <;> first | rfl | simp⟩, hS13⟩
 ·
  have hc8b := hc8
  try simp only [decide_eq_true_eq, decide_eq_false_iff_not, Bool.not_eq_true', Bool.not_eq_false', Bool.and_eq_true, Bool.or_eq_true, Int.not_lt, Int.not_le, ne_eq, Decidable.not_not] at hc8
  refine wp_seq_k (fun K14 hK14 => ?_)
  refine wp_seq_k (fun K15 hK15 => ?_)
  refine wp_region_lit ?_
  refine l_q rfl rfl (q_eql rfl rfl) ?_
  refine l_q rfl rfl (q_assignB rfl) ?_
  refine l_nil ?_
  refine hK15 _ _ ?_
  refine c_cond rfl (fun hc16 => ?_) (fun hc16 => ?_)
  ·
   have hc16b := hc16
   try simp only [decide_eq_true_eq, decide_eq_false_iff_not, Bool.not_eq_true', Bool.not_eq_false', Bool.and_eq_true, Bool.or_eq_true, Int.not_lt, Int.not_le, ne_eq, Decidable.not_not] at hc16
   refine wp_skip ?_
   refine hK14 _ _ ?_
   refine c_condT rfl hc16b ?_
   refine wp_seq_k (fun K18 hK18 => ?_)
   refine wp_region_lit ?_
   refine l_q rfl rfl (q_fieldAddr (ft := 2) (o := 1) rfl (by kernel_rfl)) ?_
   refine l_q rfl rfl (q_load1 rfl (by kernel_rfl) (hS4o.cell (i := 1) rfl rfl)) ?_
   refine l_q rfl rfl (q_convU (z := a.2.1) rfl (by kernel_rfl) rfl) ?_
   refine l_q rfl rfl (q_xorN (a := (toU a.2.1)) (b := 9223372036854775808) 64 rfl rfl (by omega) (by omega) (.inl ⟨rfl, rfl⟩)) ?_
   refine l_q rfl rfl (q_assignI rfl) ?_
   refine l_nil ?_
   refine hK18 _ _ ?_
   refine wp_seq_k (fun K19 hK19 => ?_)
   refine wp_region_lit ?_
   refine l_q rfl rfl (q_assignI rfl) ?_
   refine l_nil ?_
   refine hK19 _ _ ?_
   refine wp_block ?_
   refine c_rounds 9 ?_
   refine c_round ?_
   refine wp_seq_k (fun K20 hK20 => ?_)
   refine wp_seq_k (fun K21 hK21 => ?_)
   refine wp_region_lit ?_
   refine l_q rfl rfl (q_moveI rfl) ?_
   refine l_q rfl rfl (q_geq rfl rfl) ?_
   refine l_nil ?_
   refine hK21 _ _ ?_
   refine c_condT rfl (by decide) ?_
   refine wp_skip ?_
   refine hK20 _ _ ?_
   refine wp_seq_k (fun K23 hK23 => ?_)
   refine wp_block ?_
   refine wp_region_lit ?_
   refine l_q rfl rfl (q_moveS rfl) ?_
   refine l_q rfl rfl (q_moveI rfl) ?_
   refine l_q rfl rfl (q_moveI rfl) ?_
   refine l_q rfl rfl (q_convN (a := 56) rfl (by kernel_rfl) (by kernel_rfl) (wrap_fit_u64 (by omega))) ?_
   refine l_q rfl rfl (q_shrN (k := .u64) (a := ((toU a.2.1) ^^^ 9223372036854775808)) (b := 56) rfl rfl (by show _ ≤ 64; omega)) ?_
   refine l_q rfl rfl (u_conv (a := (((toU a.2.1) ^^^ 9223372036854775808) / 2 ^ 56)) (k' := .u8) (M := 256) rfl (by kernel_rfl) (by kernel_rfl) rfl (by decide)) ?_
   refine l_e rfl (fun K hK => ?_)
   refine e_buildSlice1 (e := 5) (zv := .int .u8 0) (xs := [.tmp 37]) hS4o (by kernel_rfl) (by kernel_rfl) (by kernel_rfl) rfl rfl rfl rfl (allone (by repeat' (first | exact trivial | refine ⟨by first | rfl | assumption, ?_⟩))) rfl (fun b24 w24 (hS24 : St _ _ [.blk b24 (.cells #[.int .u8 ((((((toU a.2.1) ^^^ 9223372036854775808) / 2 ^ 56) % 256) : Nat) : Int)] 5), .ow 5 1 (some ⟨b4, 0, none⟩) 1 1 (bv [(a.1.toNat % 256)]), .blk b2 (.cells #[.int .i64 a.1, .int .i64 a.2.1, .string (bs a.2.2)] 32)] _) => ?_)
   clear hS4o
   have hB24 : Bytes [((((toU a.2.1) ^^^ 9223372036854775808) / 2 ^ 56) % 256)] := by intro q hq; simp only [List.mem_cons, List.not_mem_nil, or_false] at hq; omega
   have hS24o : St _ _ [.ow 5 1 (some ⟨b24, 0, none⟩) 1 1 (bv [((((toU a.2.1) ^^^ 9223372036854775808) / 2 ^ 56) % 256)]), .ow 5 1 (some ⟨b4, 0, none⟩) 1 1 (bv [(a.1.toNat % 256)]), .blk b2 (.cells #[.int .i64 a.1, .int .i64 a.2.1, .string (bs a.2.2)] 32)] _ := hS24.blkOw' (i := 0) (m := 1) (size := 1) (xs := bv [((((toU a.2.1) ^^^ 9223372036854775808) / 2 ^ 56) % 256)]) rfl rfl rfl (by decide); clear hS24
   refine hK _ _ ?_; clear hK K
   refine l_e rfl (fun K hK => ?_)
   have hB25 : Bytes ([(a.1.toNat % 256)] ++ [((((toU a.2.1) ^^^ 9223372036854775808) / 2 ^ 56) % 256)]) := Bytes.app hB4 hB24
   refine e_app (e := 5) (size := 1) (bytes := 1) (i := 1) (m' := 2) (by kernel_rfl) hS24o rfl rfl rfl (SlG.src (e := 5) (by kernel_rfl) (hS24o.owG (i := 0) rfl) (by first | (simp only [lls, Nat.mul_one]; done) | (simp only [lls]; omega) | rfl | (simp; done)) (by decide) (bv_one _)) (by first | omega | (simp only [lls] <;> omega) | (simp; done)) bv_app (by first | omega | (simp only [maxLen, lls] <;> omega) | (simp only [maxLen]; omega)) (by first | omega | (simp only [lls] <;> omega)) (fun ad25 cp25 w25 (hS25 : St _ _ [.ow 5 1 (some ⟨b24, 0, none⟩) 1 1 (bv [((((toU a.2.1) ^^^ 9223372036854775808) / 2 ^ 56) % 256)]), .ow 5 1 ad25 2 cp25 (bv ([(a.1.toNat % 256)] ++ [((((toU a.2.1) ^^^ 9223372036854775808) / 2 ^ 56) % 256)])), .blk b2 (.cells #[.int .i64 a.1, .int .i64 a.2.1, .string (bs a.2.2)] 32)] _) => ?_)
   clear hS24o
   refine hK _ _ ?_; clear hK K
   refine l_q rfl rfl (q_assignS rfl) ?_
   refine l_nil ?_
   refine hK23 _ _ ?_
   refine wp_region_lit ?_
   refine l_q rfl rfl (q_moveI rfl) ?_
   refine l_q rfl rfl (q_subx rfl rfl (by first | decide | omega) (by first | decide | omega)) ?_
   refine l_q rfl rfl (q_assignI rfl) ?_
   refine l_nil ?_
   refine c_round ?_
   refine wp_seq_k (fun K26 hK26 => ?_)
   refine wp_seq_k (fun K27 hK27 => ?_)
   refine wp_region_lit ?_
   refine l_q rfl rfl (q_moveI rfl) ?_
   refine l_q rfl rfl (q_geq rfl rfl) ?_
   refine l_nil ?_
   refine hK27 _ _ ?_
   refine c_condT rfl (by decide) ?_
   refine wp_skip ?_
   refine hK26 _ _ ?_
   refine wp_seq_k (fun K29 hK29 => ?_)
   refine wp_block ?_
   refine wp_region_lit ?_
   refine l_q rfl rfl (q_moveS rfl) ?_
   refine l_q rfl rfl (q_moveI rfl) ?_
   refine l_q rfl rfl (q_moveI rfl) ?_
   refine l_q rfl rfl (q_convN (a := 48) rfl (by kernel_rfl) (by kernel_rfl) (wrap_fit_u64 (by omega))) ?_
   refine l_q rfl rfl (q_shrN (k := .u64) (a := ((toU a.2.1) ^^^ 9223372036854775808)) (b := 48) rfl rfl (by show _ ≤ 64; omega)) ?_
   refine l_q rfl rfl (u_conv (a := (((toU a.2.1) ^^^ 9223372036854775808) / 2 ^ 48)) (k' := .u8) (M := 256) rfl (by kernel_rfl) (by kernel_rfl) rfl (by decide)) ?_
   refine l_e rfl (fun K hK => ?_)
   refine e_buildSlice1 (e := 5) (zv := .int .u8 0) (xs := [.tmp 37]) hS25 (by kernel_rfl) (by kernel_rfl) (by kernel_rfl) rfl rfl rfl rfl (allone (by repeat' (first | exact trivial | refine ⟨by first | rfl | assumption, ?_⟩))) rfl (fun b30 w30 (hS30 : St _ _ [.blk b30 (.cells #[.int .u8 ((((((toU a.2.1) ^^^ 9223372036854775808) / 2 ^ 48) % 256) : Nat) : Int)] 5), .ow 5 1 (some ⟨b24, 0, none⟩) 1 1 (bv [((((toU a.2.1) ^^^ 9223372036854775808) / 2 ^ 56) % 256)]), .ow 5 1 ad25 2 cp25 (bv ([(a.1.toNat % 256)] ++ [((((toU a.2.1) ^^^ 9223372036854775808) / 2 ^ 56) % 256)])), .blk b2 (.cells #[.int .i64 a.1, .int .i64 a.2.1, .string (bs a.2.2)] 32)] _) => ?_)
   clear hS25
   have hB30 : Bytes [((((toU a.2.1) ^^^ 9223372036854775808) / 2 ^ 48) % 256)] := by intro q hq; simp only [List.mem_cons, List.not_mem_nil, or_false] at hq; omega
   have hS30o : St _ _ [.ow 5 1 (some ⟨b30, 0, none⟩) 1 1 (bv [((((toU a.2.1) ^^^ 9223372036854775808) / 2 ^ 48) % 256)]), .ow 5 1 (some ⟨b24, 0, none⟩) 1 1 (bv [((((toU a.2.1) ^^^ 9223372036854775808) / 2 ^ 56) % 256)]), .ow 5 1 ad25 2 cp25 (bv ([(a.1.toNat % 256)] ++ [((((toU a.2.1) ^^^ 9223372036854775808) / 2 ^ 56) % 256)])), .blk b2 (.cells #[.int .i64 a.1, .int .i64 a.2.1, .string (bs a.2.2)] 32)] _ := hS30.blkOw' (i := 0) (m := 1) (size := 1) (xs := bv [((((toU a.2.1) ^^^ 9223372036854775808) / 2 ^ 48) % 256)]) rfl rfl rfl (by decide); clear hS30
   refine hK _ _ ?_; clear hK K
   refine l_e rfl (fun K hK => ?_)
   have hB31 : Bytes (([(a.1.toNat % 256)] ++ [((((toU a.2.1) ^^^ 9223372036854775808) / 2 ^ 56) % 256)]) ++ [((((toU a.2.1) ^^^ 9223372036854775808) / 2 ^ 48) % 256)]) := Bytes.app hB25 hB30
   refine e_app (e := 5) (size := 1) (bytes := 1) (i := 2) (m' := 3) (by kernel_rfl) hS30o rfl rfl rfl (SlG.src (e := 5) (by kernel_rfl) (hS30o.owG (i := 0) rfl) (by first | (simp only [lls, Nat.mul_one]; done) | (simp only [lls]; omega) | rfl | (simp; done)) (by decide) (bv_one _)) (by first | omega | (simp only [lls] <;> omega) | (simp; done)) bv_app (by first | omega | (simp only [maxLen, lls] <;> omega) | (simp only [maxLen]; omega)) (by first | omega | (simp only [lls] <;> omega)) (fun ad31 cp31 w31 (hS31 : St _ _ [.ow 5 1 (some ⟨b30, 0, none⟩) 1 1 (bv [((((toU a.2.1) ^^^ 9223372036854775808) / 2 ^ 48) % 256)]), .ow 5 1 (some ⟨b24, 0, none⟩) 1 1 (bv [((((toU a.2.1) ^^^ 9223372036854775808) / 2 ^ 56) % 256)]), .ow 5 1 ad31 3 cp31 (bv (([(a.1.toNat % 256)] ++ [((((toU a.2.1) ^^^ 9223372036854775808) / 2 ^ 56) % 256)]) ++ [((((toU a.2.1) ^^^ 9223372036854775808) / 2 ^ 48) % 256)])), .blk b2 (.cells #[.int .i64 a.1, .int .i64 a.2.1, .string (bs a.2.2)] 32)] _) => ?_)
   clear hS30o
   refine hK _ _ ?_; clear hK K
   refine l_q rfl rfl (q_assignS rfl) ?_
   refine l_nil ?_
   refine hK29 _ _ ?_
   refine wp_region_lit ?_
   refine l_q rfl rfl (q_moveI rfl) ?_
   refine l_q rfl rfl (q_subx rfl rfl (by first | decide | omega) (by first | decide | omega)) ?_
   refine l_q rfl rfl (q_assignI rfl) ?_
   refine l_nil ?_
   refine c_round ?_
   refine wp_seq_k (fun K32 hK32 => ?_)
   refine wp_seq_k (fun K33 hK33 => ?_)
   refine wp_region_lit ?_
   refine l_q rfl rfl (q_moveI rfl) ?_
   refine l_q rfl rfl (q_geq rfl rfl) ?_
   refine l_nil ?_
   refine hK33 _ _ ?_
   refine c_condT rfl (by decide) ?_
   refine wp_skip ?_
   refine hK32 _ _ ?_
   refine wp_seq_k (fun K35 hK35 => ?_)
   refine wp_block ?_
   refine wp_region_lit ?_
   refine l_q rfl rfl (q_moveS rfl) ?_
   refine l_q rfl rfl (q_moveI rfl) ?_
   refine l_q rfl rfl (q_moveI rfl) ?_
   refine l_q rfl rfl (q_convN (a := 40) rfl (by kernel_rfl) (by kernel_rfl) (wrap_fit_u64 (by omega))) ?_
   refine l_q rfl rfl (q_shrN (k := .u64) (a := ((toU a.2.1) ^^^ 9223372036854775808)) (b := 40) rfl rfl (by show _ ≤ 64; omega)) ?_
   refine l_q rfl rfl (u_conv (a := (((toU a.2.1) ^^^ 9223372036854775808) / 2 ^ 40)) (k' := .u8) (M := 256) rfl (by kernel_rfl) (by kernel_rfl) rfl (by decide)) ?_
   refine l_e rfl (fun K hK => ?_)
   refine e_buildSlice1 (e := 5) (zv := .int .u8 0) (xs := [.tmp 37]) hS31 (by kernel_rfl) (by kernel_rfl) (by kernel_rfl) rfl rfl rfl rfl (allone (by repeat' (first | exact trivial | refine ⟨by first | rfl | assumption, ?_⟩))) rfl (fun b36 w36 (hS36 : St _ _ [.blk b36 (.cells #[.int .u8 ((((((toU a.2.1) ^^^ 9223372036854775808) / 2 ^ 40) % 256) : Nat) : Int)] 5), .ow 5 1 (some ⟨b30, 0, none⟩) 1 1 (bv [((((toU a.2.1) ^^^ 9223372036854775808) / 2 ^ 48) % 256)]), .ow 5 1 (some ⟨b24, 0, none⟩) 1 1 (bv [((((toU a.2.1) ^^^ 9223372036854775808) / 2 ^ 56) % 256)]), .ow 5 1 ad31 3 cp31 (bv (([(a.1.toNat % 256)] ++ [((((toU a.2.1) ^^^ 9223372036854775808) / 2 ^ 56) % 256)]) ++ [((((toU a.2.1) ^^^ 9223372036854775808) / 2 ^ 48) % 256)])), .blk b2 (.cells #[.int .i64 a.1, .int .i64 a.2.1, .string (bs a.2.2)] 32)] _) => ?_)
   clear hS31
   have hB36 : Bytes [((((toU a.2.1) ^^^ 9223372036854775808) / 2 ^ 40) % 256)] := by intro q hq; simp only [List.mem_cons, List.not_mem_nil, or_false] at hq; omega
   have hS36o : St _ _ [.ow 5 1 (some ⟨b36, 0, none⟩) 1 1 (bv [((((toU a.2.1) ^^^ 9223372036854775808) / 2 ^ 40) % 256)]), .ow 5 1 (some ⟨b30, 0, none⟩) 1 1 (bv [((((toU a.2.1) ^^^ 9223372036854775808) / 2 ^ 48) % 256)]), .ow 5 1 (some ⟨b24, 0, none⟩) 1 1 (bv [((((toU a.2.1) ^^^ 9223372036854775808) / 2 ^ 56) % 256)]), .ow 5 1 ad31 3 cp31 (bv (([(a.1.toNat % 256)] ++ [((((toU a.2.1) ^^^ 9223372036854775808) / 2 ^ 56) % 256)]) ++ [((((toU a.2.1) ^^^ 9223372036854775808) / 2 ^ 48) % 256)])), .blk b2 (.cells #[.int .i64 a.1, .int .i64 a.2.1, .string (bs a.2.2)] 32)] _ := hS36.blkOw' (i := 0) (m := 1) (size := 1) (xs := bv [((((toU a.2.1) ^^^ 9223372036854775808) / 2 ^ 40) % 256)]) rfl rfl rfl (by decide); clear hS36
   refine hK _ _ ?_; clear hK K
   refine l_e rfl (fun K hK => ?_)
   have hB37 : Bytes ((([(a.1.toNat % 256)] ++ [((((toU a.2.1) ^^^ 9223372036854775808) / 2 ^ 56) % 256)]) ++ [((((toU a.2.1) ^^^ 9223372036854775808) / 2 ^ 48) % 256)]) ++ [((((toU a.2.1) ^^^ 9223372036854775808) / 2 ^ 40) % 256)]) := Bytes.app hB31 hB36
   refine e_app (e := 5) (size := 1) (bytes := 1) (i := 3) (m' := 4) (by kernel_rfl) hS36o rfl rfl rfl (SlG.src (e := 5) (by kernel_rfl) (hS36o.owG (i := 0) rfl) (by first | (simp only [lls, Nat.mul_one]; done) | (simp only [lls]; omega) | rfl | (simp; done)) (by decide) (bv_one _)) (by first | omega | (simp only [lls] <;> omega) | (simp; done)) bv_app (by first | omega | (simp only [maxLen, lls] <;> omega) | (simp only [maxLen]; omega)) (by first | omega | (simp only [lls] <;> omega)) (fun ad37 cp37 w37 (hS37 : St _ _ [.ow 5 1 (some ⟨b36, 0, none⟩) 1 1 (bv [((((toU a.2.1) ^^^ 9223372036854775808) / 2 ^ 40) % 256)]), .ow 5 1 (some ⟨b30, 0, none⟩) 1 1 (bv [((((toU a.2.1) ^^^ 9223372036854775808) / 2 ^ 48) % 256)]), .ow 5 1 (some ⟨b24, 0, none⟩) 1 1 (bv [((((toU a.2.1) ^^^ 9223372036854775808) / 2 ^ 56) % 256)]), .ow 5 1 ad37 4 cp37 (bv ((([(a.1.toNat % 256)] ++ [((((toU a.2.1) ^^^ 9223372036854775808) / 2 ^ 56) % 256)]) ++ [((((toU a.2.1) ^^^ 9223372036854775808) / 2 ^ 48) % 256)]) ++ [((((toU a.2.1) ^^^ 9223372036854775808) / 2 ^ 40) % 256)])), .blk b2 (.cells #[.int .i64 a.1, .int .i64 a.2.1, .string (bs a.2.2)] 32)] _) => ?_)
   clear hS36o
   refine hK _ _ ?_; clear hK K
   refine l_q rfl rfl (q_assignS rfl) ?_
   refine l_nil ?_
   refine hK35 _ _ ?_
   refine wp_region_lit ?_
   refine l_q rfl rfl (q_moveI rfl) ?_
   refine l_q rfl rfl (q_subx rfl rfl (by first | decide | omega) (by first | decide | omega)) ?_
   refine l_q rfl rfl (q_assignI rfl) ?_
   refine l_nil ?_
   refine c_round ?_
   refine wp_seq_k (fun K38 hK38 => ?_)
   refine wp_seq_k (fun K39 hK39 => ?_)
   refine wp_region_lit ?_
   refine l_q rfl rfl (q_moveI rfl) ?_
   refine l_q rfl rfl (q_geq rfl rfl) ?_
   refine l_nil ?_
   refine hK39 _ _ ?_
   refine c_condT rfl (by decide) ?_
   refine wp_skip ?_
   refine hK38 _ _ ?_
   refine wp_seq_k (fun K41 hK41 => ?_)
   refine wp_block ?_
   refine wp_region_lit ?_
   refine l_q rfl rfl (q_moveS rfl) ?_
   refine l_q rfl rfl (q_moveI rfl) ?_
   refine l_q rfl rfl (q_moveI rfl) ?_
   refine l_q rfl rfl (q_convN (a := 32) rfl (by kernel_rfl) (by kernel_rfl) (wrap_fit_u64 (by omega))) ?_
   refine l_q rfl rfl (q_shrN (k := .u64) (a := ((toU a.2.1) ^^^ 9223372036854775808)) (b := 32) rfl rfl (by show _ ≤ 64; omega)) ?_
   refine l_q rfl rfl (u_conv (a := (((toU a.2.1) ^^^ 9223372036854775808) / 2 ^ 32)) (k' := .u8) (M := 256) rfl (by kernel_rfl) (by kernel_rfl) rfl (by decide)) ?_
   refine l_e rfl (fun K hK => ?_)
   refine e_buildSlice1 (e := 5) (zv := .int .u8 0) (xs := [.tmp 37]) hS37 (by kernel_rfl) (by kernel_rfl) (by kernel_rfl) rfl rfl rfl rfl (allone (by repeat' (first | exact trivial | refine ⟨by first | rfl | assumption, ?_⟩))) rfl (fun b42 w42 (hS42 : St _ _ [.blk b42 (.cells #[.int .u8 ((((((toU a.2.1) ^^^ 9223372036854775808) / 2 ^ 32) % 256) : Nat) : Int)] 5), .ow 5 1 (some ⟨b36, 0, none⟩) 1 1 (bv [((((toU a.2.1) ^^^ 9223372036854775808) / 2 ^ 40) % 256)]), .ow 5 1 (some ⟨b30, 0, none⟩) 1 1 (bv [((((toU a.2.1) ^^^ 9223372036854775808) / 2 ^ 48) % 256)]), .ow 5 1 (some ⟨b24, 0, none⟩) 1 1 (bv [((((toU a.2.1) ^^^ 9223372036854775808) / 2 ^ 56) % 256)]), .ow 5 1 ad37 4 cp37 (bv ((([(a.1.toNat % 256)] ++ [((((toU a.2.1) ^^^ 9223372036854775808) / 2 ^ 56) % 256)]) ++ [((((toU a.2.1) ^^^ 9223372036854775808) / 2 ^ 48) % 256)]) ++ [((((toU a.2.1) ^^^ 9223372036854775808) / 2 ^ 40) % 256)])), .blk b2 (.cells #[.int .i64 a.1, .int .i64 a.2.1, .string (bs a.2.2)] 32)] _) => ?_)
   clear hS37
   have hB42 : Bytes [((((toU a.2.1) ^^^ 9223372036854775808) / 2 ^ 32) % 256)] := by intro q hq; simp only [List.mem_cons, List.not_mem_nil, or_false] at hq; omega
   have hS42o : St _ _ [.ow 5 1 (some ⟨b42, 0, none⟩) 1 1 (bv [((((toU a.2.1) ^^^ 9223372036854775808) / 2 ^ 32) % 256)]), .ow 5 1 (some ⟨b36, 0, none⟩) 1 1 (bv [((((toU a.2.1) ^^^ 9223372036854775808) / 2 ^ 40) % 256)]), .ow 5 1 (some ⟨b30, 0, none⟩) 1 1 (bv [((((toU a.2.1) ^^^ 9223372036854775808) / 2 ^ 48) % 256)]), .ow 5 1 (some ⟨b24, 0, none⟩) 1 1 (bv [((((toU a.2.1) ^^^ 9223372036854775808) / 2 ^ 56) % 256)]), .ow 5 1 ad37 4 cp37 (bv ((([(a.1.toNat % 256)] ++ [((((toU a.2.1) ^^^ 9223372036854775808) / 2 ^ 56) % 256)]) ++ [((((toU a.2.1) ^^^ 9223372036854775808) / 2 ^ 48) % 256)]) ++ [((((toU a.2.1) ^^^ 9223372036854775808) / 2 ^ 40) % 256)])), .blk b2 (.cells #[.int .i64 a.1, .int .i64 a.2.1, .string (bs a.2.2)] 32)] _ := hS42.blkOw' (i := 0) (m := 1) (size := 1) (xs := bv [((((toU a.2.1) ^^^ 9223372036854775808) / 2 ^ 32) % 256)]) rfl rfl rfl (by decide); clear hS42
   refine hK _ _ ?_; clear hK K
   refine l_e rfl (fun K hK => ?_)
   have hB43 : Bytes (((([(a.1.toNat % 256)] ++ [((((toU a.2.1) ^^^ 9223372036854775808) / 2 ^ 56) % 256)]) ++ [((((toU a.2.1) ^^^ 9223372036854775808) / 2 ^ 48) % 256)]) ++ [((((toU a.2.1) ^^^ 9223372036854775808) / 2 ^ 40) % 256)]) ++ [((((toU a.2.1) ^^^ 9223372036854775808) / 2 ^ 32) % 256)]) := Bytes.app hB37 hB42
   refine e_app (e := 5) (size := 1) (bytes := 1) (i := 4) (m' := 5) (by kernel_rfl) hS42o rfl rfl rfl (SlG.src (e := 5) (by kernel_rfl) (hS42o.owG (i := 0) rfl) (by first | (simp only [lls, Nat.mul_one]; done) | (simp only [lls]; omega) | rfl | (simp; done)) (by decide) (bv_one _)) (by first | omega | (simp only [lls] <;> omega) | (simp; done)) bv_app (by first | omega | (simp only [maxLen, lls] <;> omega) | (simp only [maxLen]; omega)) (by first | omega | (simp only [lls] <;> omega)) (fun ad43 cp43 w43 (hS43 : St _ _ [.ow 5 1 (some ⟨b42, 0, none⟩) 1 1 (bv [((((toU a.2.1) ^^^ 9223372036854775808) / 2 ^ 32) % 256)]), .ow 5 1 (some ⟨b36, 0, none⟩) 1 1 (bv [((((toU a.2.1) ^^^ 9223372036854775808) / 2 ^ 40) % 256)]), .ow 5 1 (some ⟨b30, 0, none⟩) 1 1 (bv [((((toU a.2.1) ^^^ 9223372036854775808) / 2 ^ 48) % 256)]), .ow 5 1 (some ⟨b24, 0, none⟩) 1 1 (bv [((((toU a.2.1) ^^^ 9223372036854775808) / 2 ^ 56) % 256)]), .ow 5 1 ad43 5 cp43 (bv (((([(a.1.toNat % 256)] ++ [((((toU a.2.1) ^^^ 9223372036854775808) / 2 ^ 56) % 256)]) ++ [((((toU a.2.1) ^^^ 9223372036854775808) / 2 ^ 48) % 256)]) ++ [((((toU a.2.1) ^^^ 9223372036854775808) / 2 ^ 40) % 256)]) ++ [((((toU a.2.1) ^^^ 9223372036854775808) / 2 ^ 32) % 256)])), .blk b2 (.cells #[.int .i64 a.1, .int .i64 a.2.1, .string (bs a.2.2)] 32)] _) => ?_)
   clear hS42o
   refine hK _ _ ?_; clear hK K
   refine l_q rfl rfl (q_assignS rfl) ?_
   refine l_nil ?_
   refine hK41 _ _ ?_
   refine wp_region_lit ?_
   refine l_q rfl rfl (q_moveI rfl) ?_
   refine l_q rfl rfl (q_subx rfl rfl (by first | decide | omega) (by first | decide | omega)) ?_
   refine l_q rfl rfl (q_assignI rfl) ?_
   refine l_nil ?_
   refine c_round ?_
   refine wp_seq_k (fun K44 hK44 => ?_)
   refine wp_seq_k (fun K45 hK45 => ?_)
   refine wp_region_lit ?_
   refine l_q rfl rfl (q_moveI rfl) ?_
   refine l_q rfl rfl (q_geq rfl rfl) ?_
   refine l_nil ?_
   refine hK45 _ _ ?_
   refine c_condT rfl (by decide) ?_
   refine wp_skip ?_
   refine hK44 _ _ ?_
   refine wp_seq_k (fun K47 hK47 => ?_)
   refine wp_block ?_
   refine wp_region_lit ?_
   refine l_q rfl rfl (q_moveS rfl) ?_
   refine l_q rfl rfl (q_moveI rfl) ?_
   refine l_q rfl rfl (q_moveI rfl) ?_
   refine l_q rfl rfl (q_convN (a := 24) rfl (by kernel_rfl) (by kernel_rfl) (wrap_fit_u64 (by omega))) ?_
   refine l_q rfl rfl (q_shrN (k := .u64) (a := ((toU a.2.1) ^^^ 9223372036854775808)) (b := 24) rfl rfl (by show _ ≤ 64; omega)) ?_
   refine l_q rfl rfl (u_conv (a := (((toU a.2.1) ^^^ 9223372036854775808) / 2 ^ 24)) (k' := .u8) (M := 256) rfl (by kernel_rfl) (by kernel_rfl) rfl (by decide)) ?_
   refine l_e rfl (fun K hK => ?_)
   refine e_buildSlice1 (e := 5) (zv := .int .u8 0) (xs := [.tmp 37]) hS43 (by kernel_rfl) (by kernel_rfl) (by kernel_rfl) rfl rfl rfl rfl (allone (by repeat' (first | exact trivial | refine ⟨by first | rfl | assumption, ?_⟩))) rfl (fun b48 w48 (hS48 : St _ _ [.blk b48 (.cells #[.int .u8 ((((((toU a.2.1) ^^^ 9223372036854775808) / 2 ^ 24) % 256) : Nat) : Int)] 5), .ow 5 1 (some ⟨b42, 0, none⟩) 1 1 (bv [((((toU a.2.1) ^^^ 9223372036854775808) / 2 ^ 32) % 256)]), .ow 5 1 (some ⟨b36, 0, none⟩) 1 1 (bv [((((toU a.2.1) ^^^ 9223372036854775808) / 2 ^ 40) % 256)]), .ow 5 1 (some ⟨b30, 0, none⟩) 1 1 (bv [((((toU a.2.1) ^^^ 9223372036854775808) / 2 ^ 48) % 256)]), .ow 5 1 (some ⟨b24, 0, none⟩) 1 1 (bv [((((toU a.2.1) ^^^ 9223372036854775808) / 2 ^ 56) % 256)]), .ow 5 1 ad43 5 cp43 (bv (((([(a.1.toNat % 256)] ++ [((((toU a.2.1) ^^^ 9223372036854775808) / 2 ^ 56) % 256)]) ++ [((((toU a.2.1) ^^^ 9223372036854775808) / 2 ^ 48) % 256)]) ++ [((((toU a.2.1) ^^^ 9223372036854775808) / 2 ^ 40) % 256)]) ++ [((((toU a.2.1) ^^^ 9223372036854775808) / 2 ^ 32) % 256)])), .blk b2 (.cells #[.int .i64 a.1, .int .i64 a.2.1, .string (bs a.2.2)] 32)] _) => ?_)
   clear hS43
   have hB48 : Bytes [((((toU a.2.1) ^^^ 9223372036854775808) / 2 ^ 24) % 256)] := by intro q hq; simp only [List.mem_cons, List.not_mem_nil, or_false] at hq; omega
   have hS48o : St _ _ [.ow 5 1 (some ⟨b48, 0, none⟩) 1 1 (bv [((((toU a.2.1) ^^^ 9223372036854775808) / 2 ^ 24) % 256)]), .ow 5 1 (some ⟨b42, 0, none⟩) 1 1 (bv [((((toU a.2.1) ^^^ 9223372036854775808) / 2 ^ 32) % 256)]), .ow 5 1 (some ⟨b36, 0, none⟩) 1 1 (bv [((((toU a.2.1) ^^^ 9223372036854775808) / 2 ^ 40) % 256)]), .ow 5 1 (some ⟨b30, 0, none⟩) 1 1 (bv [((((toU a.2.1) ^^^ 9223372036854775808) / 2 ^ 48) % 256)]), .ow 5 1 (some ⟨b24, 0, none⟩) 1 1 (bv [((((toU a.2.1) ^^^ 9223372036854775808) / 2 ^ 56) % 256)]), .ow 5 1 ad43 5 cp43 (bv (((([(a.1.toNat % 256)] ++ [((((toU a.2.1) ^^^ 9223372036854775808) / 2 ^ 56) % 256)]) ++ [((((toU a.2.1) ^^^ 9223372036854775808) / 2 ^ 48) % 256)]) ++ [((((toU a.2.1) ^^^ 9223372036854775808) / 2 ^ 40) % 256)]) ++ [((((toU a.2.1) ^^^ 9223372036854775808) / 2 ^ 32) % 256)])), .blk b2 (.cells #[.int .i64 a.1, .int .i64 a.2.1, .string (bs a.2.2)] 32)] _ := hS48.blkOw' (i := 0) (m := 1) (size := 1) (xs := bv [((((toU a.2.1) ^^^ 9223372036854775808) / 2 ^ 24) % 256)]) rfl rfl rfl (by decide); clear hS48
   refine hK _ _ ?_; clear hK K
   refine l_e rfl (fun K hK => ?_)
   have hB49 : Bytes ((((([(a.1.toNat % 256)] ++ [((((toU a.2.1) ^^^ 9223372036854775808) / 2 ^ 56) % 256)]) ++ [((((toU a.2.1) ^^^ 9223372036854775808) / 2 ^ 48) % 256)]) ++ [((((toU a.2.1) ^^^ 9223372036854775808) / 2 ^ 40) % 256)]) ++ [((((toU a.2.1) ^^^ 9223372036854775808) / 2 ^ 32) % 256)]) ++ [((((toU a.2.1) ^^^ 9223372036854775808) / 2 ^ 24) % 256)]) := Bytes.app hB43 hB48
   refine e_app (e := 5) (size := 1) (bytes := 1) (i := 5) (m' := 6) (by kernel_rfl) hS48o rfl rfl rfl (SlG.src (e := 5) (by kernel_rfl) (hS48o.owG (i := 0) rfl) (by first | (simp only [lls, Nat.mul_one]; done) | (simp only [lls]; omega) | rfl | (simp; done)) (by decide) (bv_one _)) (by first | omega | (simp only [lls] <;> omega) | (simp; done)) bv_app (by first | omega | (simp only [maxLen, lls] <;> omega) | (simp only [maxLen]; omega)) (by first | omega | (simp only [lls] <;> omega)) (fun ad49 cp49 w49 (hS49 : St _ _ [.ow 5 1 (some ⟨b48, 0, none⟩) 1 1 (bv [((((toU a.2.1) ^^^ 9223372036854775808) / 2 ^ 24) % 256)]), .ow 5 1 (some ⟨b42, 0, none⟩) 1 1 (bv [((((toU a.2.1) ^^^ 9223372036854775808) / 2 ^ 32) % 256)]), .ow 5 1 (some ⟨b36, 0, none⟩) 1 1 (bv [((((toU a.2.1) ^^^ 9223372036854775808) / 2 ^ 40) % 256)]), .ow 5 1 (some ⟨b30, 0, none⟩) 1 1 (bv [((((toU a.2.1) ^^^ 9223372036854775808) / 2 ^ 48) % 256)]), .ow 5 1 (some ⟨b24, 0, none⟩) 1 1 (bv [((((toU a.2.1) ^^^ 9223372036854775808) / 2 ^ 56) % 256)]), .ow 5 1 ad49 6 cp49 (bv ((((([(a.1.toNat % 256)] ++ [((((toU a.2.1) ^^^ 9223372036854775808) / 2 ^ 56) % 256)]) ++ [((((toU a.2.1) ^^^ 9223372036854775808) / 2 ^ 48) % 256)]) ++ [((((toU a.2.1) ^^^ 9223372036854775808) / 2 ^ 40) % 256)]) ++ [((((toU a.2.1) ^^^ 9223372036854775808) / 2 ^ 32) % 256)]) ++ [((((toU a.2.1) ^^^ 9223372036854775808) / 2 ^ 24) % 256)])), .blk b2 (.cells #[.int .i64 a.1, .int .i64 a.2.1, .string (bs a.2.2)] 32)] _) => ?_)
   clear hS48o
   refine hK _ _ ?_; clear hK K
   refine l_q rfl rfl (q_assignS rfl) ?_
   refine l_nil ?_
   refine hK47 _ _ ?_
   refine wp_region_lit ?_
   refine l_q rfl rfl (q_moveI rfl) ?_
   refine l_q rfl rfl (q_subx rfl rfl (by first | decide | omega) (by first | decide | omega)) ?_
   refine l_q rfl rfl (q_assignI rfl) ?_
   refine l_nil ?_
   refine c_round ?_
   refine wp_seq_k (fun K50 hK50 => ?_)
   refine wp_seq_k (fun K51 hK51 => ?_)
   refine wp_region_lit ?_
   refine l_q rfl rfl (q_moveI rfl) ?_
   refine l_q rfl rfl (q_geq rfl rfl) ?_
   refine l_nil ?_
   refine hK51 _ _ ?_
   refine c_condT rfl (by decide) ?_
   refine wp_skip ?_
   refine hK50 _ _ ?_
   refine wp_seq_k (fun K53 hK53 => ?_)
   refine wp_block ?_
   refine wp_region_lit ?_
   refine l_q rfl rfl (q_moveS rfl) ?_
   refine l_q rfl rfl (q_moveI rfl) ?_
   refine l_q rfl rfl (q_moveI rfl) ?_
   refine l_q rfl rfl (q_convN (a := 16) rfl (by kernel_rfl) (by kernel_rfl) (wrap_fit_u64 (by omega))) ?_
   refine l_q rfl rfl (q_shrN (k := .u64) (a := ((toU a.2.1) ^^^ 9223372036854775808)) (b := 16) rfl rfl (by show _ ≤ 64; omega)) ?_
   refine l_q rfl rfl (u_conv (a := (((toU a.2.1) ^^^ 9223372036854775808) / 2 ^ 16)) (k' := .u8) (M := 256) rfl (by kernel_rfl) (by kernel_rfl) rfl (by decide)) ?_
   refine l_e rfl (fun K hK => ?_)
   refine e_buildSlice1 (e := 5) (zv := .int .u8 0) (xs := [.tmp 37]) hS49 (by kernel_rfl) (by kernel_rfl) (by kernel_rfl) rfl rfl rfl rfl (allone (by repeat' (first | exact trivial | refine ⟨by first | rfl | assumption, ?_⟩))) rfl (fun b54 w54 (hS54 : St _ _ [.blk b54 (.cells #[.int .u8 ((((((toU a.2.1) ^^^ 9223372036854775808) / 2 ^ 16) % 256) : Nat) : Int)] 5), .ow 5 1 (some ⟨b48, 0, none⟩) 1 1 (bv [((((toU a.2.1) ^^^ 9223372036854775808) / 2 ^ 24) % 256)]), .ow 5 1 (some ⟨b42, 0, none⟩) 1 1 (bv [((((toU a.2.1) ^^^ 9223372036854775808) / 2 ^ 32) % 256)]), .ow 5 1 (some ⟨b36, 0, none⟩) 1 1 (bv [((((toU a.2.1) ^^^ 9223372036854775808) / 2 ^ 40) % 256)]), .ow 5 1 (some ⟨b30, 0, none⟩) 1 1 (bv [((((toU a.2.1) ^^^ 9223372036854775808) / 2 ^ 48) % 256)]), .ow 5 1 (some ⟨b24, 0, none⟩) 1 1 (bv [((((toU a.2.1) ^^^ 9223372036854775808) / 2 ^ 56) % 256)]), .ow 5 1 ad49 6 cp49 (bv ((((([(a.1.toNat % 256)] ++ [((((toU a.2.1) ^^^ 9223372036854775808) / 2 ^ 56) % 256)]) ++ [((((toU a.2.1) ^^^ 9223372036854775808) / 2 ^ 48) % 256)]) ++ [((((toU a.2.1) ^^^ 9223372036854775808) / 2 ^ 40) % 256)]) ++ [((((toU a.2.1) ^^^ 9223372036854775808) / 2 ^ 32) % 256)]) ++ [((((toU a.2.1) ^^^ 9223372036854775808) / 2 ^ 24) % 256)])), .blk b2 (.cells #[.int .i64 a.1, .int .i64 a.2.1, .string (bs a.2.2)] 32)] _) => ?_)
   clear hS49
   have hB54 : Bytes [((((toU a.2.1) ^^^ 9223372036854775808) / 2 ^ 16) % 256)] := by intro q hq; simp only [List.mem_cons, List.not_mem_nil, or_false] at hq; omega
   have hS54o : St _ _ [.ow 5 1 (some ⟨b54, 0, none⟩) 1 1 (bv [((((toU a.2.1) ^^^ 9223372036854775808) / 2 ^ 16) % 256)]), .ow 5 1 (some ⟨b48, 0, none⟩) 1 1 (bv [((((toU a.2.1) ^^^ 9223372036854775808) / 2 ^ 24) % 256)]), .ow 5 1 (some ⟨b42, 0, none⟩) 1 1 (bv [((((toU a.2.1) ^^^ 9223372036854775808) / 2 ^ 32) % 256)]), .ow 5 1 (some ⟨b36, 0, none⟩) 1 1 (bv [((((toU a.2.1) ^^^ 9223372036854775808) / 2 ^ 40) % 256)]), .ow 5 1 (some ⟨b30, 0, none⟩) 1 1 (bv [((((toU a.2.1) ^^^ 9223372036854775808) / 2 ^ 48) % 256)]), .ow 5 1 (some ⟨b24, 0, none⟩) 1 1 (bv [((((toU a.2.1) ^^^ 9223372036854775808) / 2 ^ 56) % 256)]), .ow 5 1 ad49 6 cp49 (bv ((((([(a.1.toNat % 256)] ++ [((((toU a.2.1) ^^^ 9223372036854775808) / 2 ^ 56) % 256)]) ++ [((((toU a.2.1) ^^^ 9223372036854775808) / 2 ^ 48) % 256)]) ++ [((((toU a.2.1) ^^^ 9223372036854775808) / 2 ^ 40) % 256)]) ++ [((((toU a.2.1) ^^^ 9223372036854775808) / 2 ^ 32) % 256)]) ++ [((((toU a.2.1) ^^^ 9223372036854775808) / 2 ^ 24) % 256)])), .blk b2 (.cells #[.int .i64 a.1, .int .i64 a.2.1, .string (bs a.2.2)] 32)] _ := hS54.blkOw' (i := 0) (m := 1) (size := 1) (xs := bv [((((toU a.2.1) ^^^ 9223372036854775808) / 2 ^ 16) % 256)]) rfl rfl rfl (by decide); clear hS54
   refine hK _ _ ?_; clear hK K
   refine l_e rfl (fun K hK => ?_)
   have hB55 : Bytes (((((([(a.1.toNat % 256)] ++ [((((toU a.2.1) ^^^ 9223372036854775808) / 2 ^ 56) % 256)]) ++ [((((toU a.2.1) ^^^ 9223372036854775808) / 2 ^ 48) % 256)]) ++ [((((toU a.2.1) ^^^ 9223372036854775808) / 2 ^ 40) % 256)]) ++ [((((toU a.2.1) ^^^ 9223372036854775808) / 2 ^ 32) % 256)]) ++ [((((toU a.2.1) ^^^ 9223372036854775808) / 2 ^ 24) % 256)]) ++ [((((toU a.2.1) ^^^ 9223372036854775808) / 2 ^ 16) % 256)]) := Bytes.app hB49 hB54
   refine e_app (e := 5) (size := 1) (bytes := 1) (i := 6) (m' := 7) (by kernel_rfl) hS54o rfl rfl rfl (SlG.src (e := 5) (by kernel_rfl) (hS54o.owG (i := 0) rfl) (by first | (simp only [lls, Nat.mul_one]; done) | (simp only [lls]; omega) | rfl | (simp; done)) (by decide) (bv_one _)) (by first | omega | (simp only [lls] <;> omega) | (simp; done)) bv_app (by first | omega | (simp only [maxLen, lls] <;> omega) | (simp only [maxLen]; omega)) (by first | omega | (simp only [lls] <;> omega)) (fun ad55 cp55 w55 (hS55 : St _ _ [.ow 5 1 (some ⟨b54, 0, none⟩) 1 1 (bv [((((toU a.2.1) ^^^ 9223372036854775808) / 2 ^ 16) % 256)]), .ow 5 1 (some ⟨b48, 0, none⟩) 1 1 (bv [((((toU a.2.1) ^^^ 9223372036854775808) / 2 ^ 24) % 256)]), .ow 5 1 (some ⟨b42, 0, none⟩) 1 1 (bv [((((toU a.2.1) ^^^ 9223372036854775808) / 2 ^ 32) % 256)]), .ow 5 1 (some ⟨b36, 0, none⟩) 1 1 (bv [((((toU a.2.1) ^^^ 9223372036854775808) / 2 ^ 40) % 256)]), .ow 5 1 (some ⟨b30, 0, none⟩) 1 1 (bv [((((toU a.2.1) ^^^ 9223372036854775808) / 2 ^ 48) % 256)]), .ow 5 1 (some ⟨b24, 0, none⟩) 1 1 (bv [((((toU a.2.1) ^^^ 9223372036854775808) / 2 ^ 56) % 256)]), .ow 5 1 ad55 7 cp55 (bv (((((([(a.1.toNat % 256)] ++ [((((toU a.2.1) ^^^ 9223372036854775808) / 2 ^ 56) % 256)]) ++ [((((toU a.2.1) ^^^ 9223372036854775808) / 2 ^ 48) % 256)]) ++ [((((toU a.2.1) ^^^ 9223372036854775808) / 2 ^ 40) % 256)]) ++ [((((toU a.2.1) ^^^ 9223372036854775808) / 2 ^ 32) % 256)]) ++ [((((toU a.2.1) ^^^ 9223372036854775808) / 2 ^ 24) % 256)]) ++ [((((toU a.2.1) ^^^ 9223372036854775808) / 2 ^ 16) % 256)])), .blk b2 (.cells #[.int .i64 a.1, .int .i64 a.2.1, .string (bs a.2.2)] 32)] _) => ?_)
   clear hS54o
   refine hK _ _ ?_; clear hK K
   refine l_q rfl rfl (q_assignS rfl) ?_
   refine l_nil ?_
   refine hK53 _ _ ?_
   refine wp_region_lit ?_
   refine l_q rfl rfl (q_moveI rfl) ?_
   refine l_q rfl rfl (q_subx rfl rfl (by first | decide | omega) (by first | decide | omega)) ?_
   refine l_q rfl rfl (q_assignI rfl) ?_
   refine l_nil ?_
   refine c_round ?_
   refine wp_seq_k (fun K56 hK56 => ?_)
   refine wp_seq_k (fun K57 hK57 => ?_)
   refine wp_region_lit ?_
   refine l_q rfl rfl (q_moveI rfl) ?_
   refine l_q rfl rfl (q_geq rfl rfl) ?_
   refine l_nil ?_
   refine hK57 _ _ ?_
   refine c_condT rfl (by decide) ?_
   refine wp_skip ?_
   refine hK56 _ _ ?_
   refine wp_seq_k (fun K59 hK59 => ?_)
   refine wp_block ?_
   refine wp_region_lit ?_
   refine l_q rfl rfl (q_moveS rfl) ?_
   refine l_q rfl rfl (q_moveI rfl) ?_
   refine l_q rfl rfl (q_moveI rfl) ?_
   refine l_q rfl rfl (q_convN (a := 8) rfl (by kernel_rfl) (by kernel_rfl) (wrap_fit_u64 (by omega))) ?_
   refine l_q rfl rfl (q_shrN (k := .u64) (a := ((toU a.2.1) ^^^ 9223372036854775808)) (b := 8) rfl rfl (by show _ ≤ 64; omega)) ?_
   refine l_q rfl rfl (u_conv (a := (((toU a.2.1) ^^^ 9223372036854775808) / 2 ^ 8)) (k' := .u8) (M := 256) rfl (by kernel_rfl) (by kernel_rfl) rfl (by decide)) ?_
   refine l_e rfl (fun K hK => ?_)
   refine e_buildSlice1 (e := 5) (zv := .int .u8 0) (xs := [.tmp 37]) hS55 (by kernel_rfl) (by kernel_rfl) (by kernel_rfl) rfl rfl rfl rfl (allone (by repeat' (first | exact trivial | refine ⟨by first | rfl | assumption, ?_⟩))) rfl (fun b60 w60 (hS60 : St _ _ [.blk b60 (.cells #[.int .u8 ((((((toU a.2.1) ^^^ 9223372036854775808) / 2 ^ 8) % 256) : Nat) : Int)] 5), .ow 5 1 (some ⟨b54, 0, none⟩) 1 1 (bv [((((toU a.2.1) ^^^ 9223372036854775808) / 2 ^ 16) % 256)]), .ow 5 1 (some ⟨b48, 0, none⟩) 1 1 (bv [((((toU a.2.1) ^^^ 9223372036854775808) / 2 ^ 24) % 256)]), .ow 5 1 (some ⟨b42, 0, none⟩) 1 1 (bv [((((toU a.2.1) ^^^ 9223372036854775808) / 2 ^ 32) % 256)]), .ow 5 1 (some ⟨b36, 0, none⟩) 1 1 (bv [((((toU a.2.1) ^^^ 9223372036854775808) / 2 ^ 40) % 256)]), .ow 5 1 (some ⟨b30, 0, none⟩) 1 1 (bv [((((toU a.2.1) ^^^ 9223372036854775808) / 2 ^ 48) % 256)]), .ow 5 1 (some ⟨b24, 0, none⟩) 1 1 (bv [((((toU a.2.1) ^^^ 9223372036854775808) / 2 ^ 56) % 256)]), .ow 5 1 ad55 7 cp55 (bv (((((([(a.1.toNat % 256)] ++ [((((toU a.2.1) ^^^ 9223372036854775808) / 2 ^ 56) % 256)]) ++ [((((toU a.2.1) ^^^ 9223372036854775808) / 2 ^ 48) % 256)]) ++ [((((toU a.2.1) ^^^ 9223372036854775808) / 2 ^ 40) % 256)]) ++ [((((toU a.2.1) ^^^ 9223372036854775808) / 2 ^ 32) % 256)]) ++ [((((toU a.2.1) ^^^ 9223372036854775808) / 2 ^ 24) % 256)]) ++ [((((toU a.2.1) ^^^ 9223372036854775808) / 2 ^ 16) % 256)])), .blk b2 (.cells #[.int .i64 a.1, .int .i64 a.2.1, .string (bs a.2.2)] 32)] _) => ?_)
   clear hS55
   have hB60 : Bytes [((((toU a.2.1) ^^^ 9223372036854775808) / 2 ^ 8) % 256)] := by intro q hq; simp only [List.mem_cons, List.not_mem_nil, or_false] at hq; omega
   have hS60o : St _ _ [.ow 5 1 (some ⟨b60, 0, none⟩) 1 1 (bv [((((toU a.2.1) ^^^ 9223372036854775808) / 2 ^ 8) % 256)]), .ow 5 1 (some ⟨b54, 0, none⟩) 1 1 (bv [((((toU a.2.1) ^^^ 9223372036854775808) / 2 ^ 16) % 256)]), .ow 5 1 (some ⟨b48, 0, none⟩) 1 1 (bv [((((toU a.2.1) ^^^ 9223372036854775808) / 2 ^ 24) % 256)]), .ow 5 1 (some ⟨b42, 0, none⟩) 1 1 (bv [((((toU a.2.1) ^^^ 9223372036854775808) / 2 ^ 32) % 256)]), .ow 5 1 (some ⟨b36, 0, none⟩) 1 1 (bv [((((toU a.2.1) ^^^ 9223372036854775808) / 2 ^ 40) % 256)]), .ow 5 1 (some ⟨b30, 0, none⟩) 1 1 (bv [((((toU a.2.1) ^^^ 9223372036854775808) / 2 ^ 48) % 256)]), .ow 5 1 (some ⟨b24, 0, none⟩) 1 1 (bv [((((toU a.2.1) ^^^ 9223372036854775808) / 2 ^ 56) % 256)]), .ow 5 1 ad55 7 cp55 (bv (((((([(a.1.toNat % 256)] ++ [((((toU a.2.1) ^^^ 9223372036854775808) / 2 ^ 56) % 256)]) ++ [((((toU a.2.1) ^^^ 9223372036854775808) / 2 ^ 48) % 256)]) ++ [((((toU a.2.1) ^^^ 9223372036854775808) / 2 ^ 40) % 256)]) ++ [((((toU a.2.1) ^^^ 9223372036854775808) / 2 ^ 32) % 256)]) ++ [((((toU a.2.1) ^^^ 9223372036854775808) / 2 ^ 24) % 256)]) ++ [((((toU a.2.1) ^^^ 9223372036854775808) / 2 ^ 16) % 256)])), .blk b2 (.cells #[.int .i64 a.1, .int .i64 a.2.1, .string (bs a.2.2)] 32)] _ := hS60.blkOw' (i := 0) (m := 1) (size := 1) (xs := bv [((((toU a.2.1) ^^^ 9223372036854775808) / 2 ^ 8) % 256)]) rfl rfl rfl (by decide); clear hS60
   refine hK _ _ ?_; clear hK K
   refine l_e rfl (fun K hK => ?_)
   have hB61 : Bytes ((((((([(a.1.toNat % 256)] ++ [((((toU a.2.1) ^^^ 9223372036854775808) / 2 ^ 56) % 256)]) ++ [((((toU a.2.1) ^^^ 9223372036854775808) / 2 ^ 48) % 256)]) ++ [((((toU a.2.1) ^^^ 9223372036854775808) / 2 ^ 40) % 256)]) ++ [((((toU a.2.1) ^^^ 9223372036854775808) / 2 ^ 32) % 256)]) ++ [((((toU a.2.1) ^^^ 9223372036854775808) / 2 ^ 24) % 256)]) ++ [((((toU a.2.1) ^^^ 9223372036854775808) / 2 ^ 16) % 256)]) ++ [((((toU a.2.1) ^^^ 9223372036854775808) / 2 ^ 8) % 256)]) := Bytes.app hB55 hB60
   refine e_app (e := 5) (size := 1) (bytes := 1) (i := 7) (m' := 8) (by kernel_rfl) hS60o rfl rfl rfl (SlG.src (e := 5) (by kernel_rfl) (hS60o.owG (i := 0) rfl) (by first | (simp only [lls, Nat.mul_one]; done) | (simp only [lls]; omega) | rfl | (simp; done)) (by decide) (bv_one _)) (by first | omega | (simp only [lls] <;> omega) | (simp; done)) bv_app (by first | omega | (simp only [maxLen, lls] <;> omega) | (simp only [maxLen]; omega)) (by first | omega | (simp only [lls] <;> omega)) (fun ad61 cp61 w61 (hS61 : St _ _ [.ow 5 1 (some ⟨b60, 0, none⟩) 1 1 (bv [((((toU a.2.1) ^^^ 9223372036854775808) / 2 ^ 8) % 256)]), .ow 5 1 (some ⟨b54, 0, none⟩) 1 1 (bv [((((toU a.2.1) ^^^ 9223372036854775808) / 2 ^ 16) % 256)]), .ow 5 1 (some ⟨b48, 0, none⟩) 1 1 (bv [((((toU a.2.1) ^^^ 9223372036854775808) / 2 ^ 24) % 256)]), .ow 5 1 (some ⟨b42, 0, none⟩) 1 1 (bv [((((toU a.2.1) ^^^ 9223372036854775808) / 2 ^ 32) % 256)]), .ow 5 1 (some ⟨b36, 0, none⟩) 1 1 (bv [((((toU a.2.1) ^^^ 9223372036854775808) / 2 ^ 40) % 256)]), .ow 5 1 (some ⟨b30, 0, none⟩) 1 1 (bv [((((toU a.2.1) ^^^ 9223372036854775808) / 2 ^ 48) % 256)]), .ow 5 1 (some ⟨b24, 0, none⟩) 1 1 (bv [((((toU a.2.1) ^^^ 9223372036854775808) / 2 ^ 56) % 256)]), .ow 5 1 ad61 8 cp61 (bv ((((((([(a.1.toNat % 256)] ++ [((((toU a.2.1) ^^^ 9223372036854775808) / 2 ^ 56) % 256)]) ++ [((((toU a.2.1) ^^^ 9223372036854775808) / 2 ^ 48) % 256)]) ++ [((((toU a.2.1) ^^^ 9223372036854775808) / 2 ^ 40) % 256)]) ++ [((((toU a.2.1) ^^^ 9223372036854775808) / 2 ^ 32) % 256)]) ++ [((((toU a.2.1) ^^^ 9223372036854775808) / 2 ^ 24) % 256)]) ++ [((((toU a.2.1) ^^^ 9223372036854775808) / 2 ^ 16) % 256)]) ++ [((((toU a.2.1) ^^^ 9223372036854775808) / 2 ^ 8) % 256)])), .blk b2 (.cells #[.int .i64 a.1, .int .i64 a.2.1, .string (bs a.2.2)] 32)] _) => ?_)
   clear hS60o
   refine hK _ _ ?_; clear hK K
   refine l_q rfl rfl (q_assignS rfl) ?_
   refine l_nil ?_
   refine hK59 _ _ ?_
   refine wp_region_lit ?_
   refine l_q rfl rfl (q_moveI rfl) ?_
   refine l_q rfl rfl (q_subx rfl rfl (by first | decide | omega) (by first | decide | omega)) ?_
   refine l_q rfl rfl (q_assignI rfl) ?_
   refine l_nil ?_
   refine c_round ?_
   refine wp_seq_k (fun K62 hK62 => ?_)
   refine wp_seq_k (fun K63 hK63 => ?_)
   refine wp_region_lit ?_
   refine l_q rfl rfl (q_moveI rfl) ?_
   refine l_q rfl rfl (q_geq rfl rfl) ?_
   refine l_nil ?_
   refine hK63 _ _ ?_
   refine c_condT rfl (by decide) ?_
   refine wp_skip ?_
   refine hK62 _ _ ?_
   refine wp_seq_k (fun K65 hK65 => ?_)
   refine wp_block ?_
   refine wp_region_lit ?_
   refine l_q rfl rfl (q_moveS rfl) ?_
   refine l_q rfl rfl (q_moveI rfl) ?_
   refine l_q rfl rfl (q_moveI rfl) ?_
   refine l_q rfl rfl (q_convN (a := 0) rfl (by kernel_rfl) (by kernel_rfl) (wrap_fit_u64 (by omega))) ?_
   refine l_q rfl rfl (q_shrN (k := .u64) (a := ((toU a.2.1) ^^^ 9223372036854775808)) (b := 0) rfl rfl (by show _ ≤ 64; omega)) ?_
   refine l_q rfl rfl (u_conv (a := (((toU a.2.1) ^^^ 9223372036854775808) / 2 ^ 0)) (k' := .u8) (M := 256) rfl (by kernel_rfl) (by kernel_rfl) rfl (by decide)) ?_
   refine l_e rfl (fun K hK => ?_)
   refine e_buildSlice1 (e := 5) (zv := .int .u8 0) (xs := [.tmp 37]) hS61 (by kernel_rfl) (by kernel_rfl) (by kernel_rfl) rfl rfl rfl rfl (allone (by repeat' (first | exact trivial | refine ⟨by first | rfl | assumption, ?_⟩))) rfl (fun b66 w66 (hS66 : St _ _ [.blk b66 (.cells #[.int .u8 ((((((toU a.2.1) ^^^ 9223372036854775808) / 2 ^ 0) % 256) : Nat) : Int)] 5), .ow 5 1 (some ⟨b60, 0, none⟩) 1 1 (bv [((((toU a.2.1) ^^^ 9223372036854775808) / 2 ^ 8) % 256)]), .ow 5 1 (some ⟨b54, 0, none⟩) 1 1 (bv [((((toU a.2.1) ^^^ 9223372036854775808) / 2 ^ 16) % 256)]), .ow 5 1 (some ⟨b48, 0, none⟩) 1 1 (bv [((((toU a.2.1) ^^^ 9223372036854775808) / 2 ^ 24) % 256)]), .ow 5 1 (some ⟨b42, 0, none⟩) 1 1 (bv [((((toU a.2.1) ^^^ 9223372036854775808) / 2 ^ 32) % 256)]), .ow 5 1 (some ⟨b36, 0, none⟩) 1 1 (bv [((((toU a.2.1) ^^^ 9223372036854775808) / 2 ^ 40) % 256)]), .ow 5 1 (some ⟨b30, 0, none⟩) 1 1 (bv [((((toU a.2.1) ^^^ 9223372036854775808) / 2 ^ 48) % 256)]), .ow 5 1 (some ⟨b24, 0, none⟩) 1 1 (bv [((((toU a.2.1) ^^^ 9223372036854775808) / 2 ^ 56) % 256)]), .ow 5 1 ad61 8 cp61 (bv ((((((([(a.1.toNat % 256)] ++ [((((toU a.2.1) ^^^ 9223372036854775808) / 2 ^ 56) % 256)]) ++ [((((toU a.2.1) ^^^ 9223372036854775808) / 2 ^ 48) % 256)]) ++ [((((toU a.2.1) ^^^ 9223372036854775808) / 2 ^ 40) % 256)]) ++ [((((toU a.2.1) ^^^ 9223372036854775808) / 2 ^ 32) % 256)]) ++ [((((toU a.2.1) ^^^ 9223372036854775808) / 2 ^ 24) % 256)]) ++ [((((toU a.2.1) ^^^ 9223372036854775808) / 2 ^ 16) % 256)]) ++ [((((toU a.2.1) ^^^ 9223372036854775808) / 2 ^ 8) % 256)])), .blk b2 (.cells #[.int .i64 a.1, .int .i64 a.2.1, .string (bs a.2.2)] 32)] _) => ?_)
   clear hS61
   have hB66 : Bytes [((((toU a.2.1) ^^^ 9223372036854775808) / 2 ^ 0) % 256)] := by intro q hq; simp only [List.mem_cons, List.not_mem_nil, or_false] at hq; omega
   have hS66o : St _ _ [.ow 5 1 (some ⟨b66, 0, none⟩) 1 1 (bv [((((toU a.2.1) ^^^ 9223372036854775808) / 2 ^ 0) % 256)]), .ow 5 1 (some ⟨b60, 0, none⟩) 1 1 (bv [((((toU a.2.1) ^^^ 9223372036854775808) / 2 ^ 8) % 256)]), .ow 5 1 (some ⟨b54, 0, none⟩) 1 1 (bv [((((toU a.2.1) ^^^ 9223372036854775808) / 2 ^ 16) % 256)]), .ow 5 1 (some ⟨b48, 0, none⟩) 1 1 (bv [((((toU a.2.1) ^^^ 9223372036854775808) / 2 ^ 24) % 256)]), .ow 5 1 (some ⟨b42, 0, none⟩) 1 1 (bv [((((toU a.2.1) ^^^ 9223372036854775808) / 2 ^ 32) % 256)]), .ow 5 1 (some ⟨b36, 0, none⟩) 1 1 (bv [((((toU a.2.1) ^^^ 9223372036854775808) / 2 ^ 40) % 256)]), .ow 5 1 (some ⟨b30, 0, none⟩) 1 1 (bv [((((toU a.2.1) ^^^ 9223372036854775808) / 2 ^ 48) % 256)]), .ow 5 1 (some ⟨b24, 0, none⟩) 1 1 (bv [((((toU a.2.1) ^^^ 9223372036854775808) / 2 ^ 56) % 256)]), .ow 5 1 ad61 8 cp61 (bv ((((((([(a.1.toNat % 256)] ++ [((((toU a.2.1) ^^^ 9223372036854775808) / 2 ^ 56) % 256)]) ++ [((((toU a.2.1) ^^^ 9223372036854775808) / 2 ^ 48) % 256)]) ++ [((((toU a.2.1) ^^^ 9223372036854775808) / 2 ^ 40) % 256)]) ++ [((((toU a.2.1) ^^^ 9223372036854775808) / 2 ^ 32) % 256)]) ++ [((((toU a.2.1) ^^^ 9223372036854775808) / 2 ^ 24) % 256)]) ++ [((((toU a.2.1) ^^^ 9223372036854775808) / 2 ^ 16) % 256)]) ++ [((((toU a.2.1) ^^^ 9223372036854775808) / 2 ^ 8) % 256)])), .blk b2 (.cells #[.int .i64 a.1, .int .i64 a.2.1, .string (bs a.2.2)] 32)] _ := hS66.blkOw' (i := 0) (m := 1) (size := 1) (xs := bv [((((toU a.2.1) ^^^ 9223372036854775808) / 2 ^ 0) % 256)]) rfl rfl rfl (by decide); clear hS66
   refine hK _ _ ?_; clear hK K
   refine l_e rfl (fun K hK => ?_)
   have hB67 : Bytes (((((((([(a.1.toNat % 256)] ++ [((((toU a.2.1) ^^^ 9223372036854775808) / 2 ^ 56) % 256)]) ++ [((((toU a.2.1) ^^^ 9223372036854775808) / 2 ^ 48) % 256)]) ++ [((((toU a.2.1) ^^^ 9223372036854775808) / 2 ^ 40) % 256)]) ++ [((((toU a.2.1) ^^^ 9223372036854775808) / 2 ^ 32) % 256)]) ++ [((((toU a.2.1) ^^^ 9223372036854775808) / 2 ^ 24) % 256)]) ++ [((((toU a.2.1) ^^^ 9223372036854775808) / 2 ^ 16) % 256)]) ++ [((((toU a.2.1) ^^^ 9223372036854775808) / 2 ^ 8) % 256)]) ++ [((((toU a.2.1) ^^^ 9223372036854775808) / 2 ^ 0) % 256)]) := Bytes.app hB61 hB66
   refine e_app (e := 5) (size := 1) (bytes := 1) (i := 8) (m' := 9) (by kernel_rfl) hS66o rfl rfl rfl (SlG.src (e := 5) (by kernel_rfl) (hS66o.owG (i := 0) rfl) (by first | (simp only [lls, Nat.mul_one]; done) | (simp only [lls]; omega) | rfl | (simp; done)) (by decide) (bv_one _)) (by first | omega | (simp only [lls] <;> omega) | (simp; done)) bv_app (by first | omega | (simp only [maxLen, lls] <;> omega) | (simp only [maxLen]; omega)) (by first | omega | (simp only [lls] <;> omega)) (fun ad67 cp67 w67 (hS67 : St _ _ [.ow 5 1 (some ⟨b66, 0, none⟩) 1 1 (bv [((((toU a.2.1) ^^^ 9223372036854775808) / 2 ^ 0) % 256)]), .ow 5 1 (some ⟨b60, 0, none⟩) 1 1 (bv [((((toU a.2.1) ^^^ 9223372036854775808) / 2 ^ 8) % 256)]), .ow 5 1 (some ⟨b54, 0, none⟩) 1 1 (bv [((((toU a.2.1) ^^^ 9223372036854775808) / 2 ^ 16) % 256)]), .ow 5 1 (some ⟨b48, 0, none⟩) 1 1 (bv [((((toU a.2.1) ^^^ 9223372036854775808) / 2 ^ 24) % 256)]), .ow 5 1 (some ⟨b42, 0, none⟩) 1 1 (bv [((((toU a.2.1) ^^^ 9223372036854775808) / 2 ^ 32) % 256)]), .ow 5 1 (some ⟨b36, 0, none⟩) 1 1 (bv [((((toU a.2.1) ^^^ 9223372036854775808) / 2 ^ 40) % 256)]), .ow 5 1 (some ⟨b30, 0, none⟩) 1 1 (bv [((((toU a.2.1) ^^^ 9223372036854775808) / 2 ^ 48) % 256)]), .ow 5 1 (some ⟨b24, 0, none⟩) 1 1 (bv [((((toU a.2.1) ^^^ 9223372036854775808) / 2 ^ 56) % 256)]), .ow 5 1 ad67 9 cp67 (bv (((((((([(a.1.toNat % 256)] ++ [((((toU a.2.1) ^^^ 9223372036854775808) / 2 ^ 56) % 256)]) ++ [((((toU a.2.1) ^^^ 9223372036854775808) / 2 ^ 48) % 256)]) ++ [((((toU a.2.1) ^^^ 9223372036854775808) / 2 ^ 40) % 256)]) ++ [((((toU a.2.1) ^^^ 9223372036854775808) / 2 ^ 32) % 256)]) ++ [((((toU a.2.1) ^^^ 9223372036854775808) / 2 ^ 24) % 256)]) ++ [((((toU a.2.1) ^^^ 9223372036854775808) / 2 ^ 16) % 256)]) ++ [((((toU a.2.1) ^^^ 9223372036854775808) / 2 ^ 8) % 256)]) ++ [((((toU a.2.1) ^^^ 9223372036854775808) / 2 ^ 0) % 256)])), .blk b2 (.cells #[.int .i64 a.1, .int .i64 a.2.1, .string (bs a.2.2)] 32)] _) => ?_)
   clear hS66o
   refine hK _ _ ?_; clear hK K
   refine l_q rfl rfl (q_assignS rfl) ?_
   refine l_nil ?_
   refine hK65 _ _ ?_
   refine wp_region_lit ?_
   refine l_q rfl rfl (q_moveI rfl) ?_
   refine l_q rfl rfl (q_subx rfl rfl (by first | decide | omega) (by first | decide | omega)) ?_
   refine l_q rfl rfl (q_assignI rfl) ?_
   refine l_nil ?_
   refine c_round ?_
   refine wp_seq_k (fun K68 hK68 => ?_)
   refine wp_seq_k (fun K69 hK69 => ?_)
   refine wp_region_lit ?_
   refine l_q rfl rfl (q_moveI rfl) ?_
   refine l_q rfl rfl (q_geq rfl rfl) ?_
   refine l_nil ?_
   refine hK69 _ _ ?_
   refine c_condF rfl (by decide) ?_
   refine wp_exit ?_
   refine hK5 _ _ ?_
   refine wp_seq_k (fun K71 hK71 => ?_)
   refine wp_region_lit ?_
   refine l_q rfl rfl (q_moveS rfl) ?_
   refine l_q rfl rfl (q_assignS rfl) ?_
   refine l_nil ?_
   refine hK71 _ _ ?_
   refine wp_ret ?_
   refine c_ret1 rfl rfl ?_
   have hS72 := hS67.fr8; clear hS67
   have hS73 : St _ _ [.ow 5 1 ad67 9 cp67 (bv (((((((([(a.1.toNat % 256)] ++ [((((toU a.2.1) ^^^ 9223372036854775808) / 2 ^ 56) % 256)]) ++ [((((toU a.2.1) ^^^ 9223372036854775808) / 2 ^ 48) % 256)]) ++ [((((toU a.2.1) ^^^ 9223372036854775808) / 2 ^ 40) % 256)]) ++ [((((toU a.2.1) ^^^ 9223372036854775808) / 2 ^ 32) % 256)]) ++ [((((toU a.2.1) ^^^ 9223372036854775808) / 2 ^ 24) % 256)]) ++ [((((toU a.2.1) ^^^ 9223372036854775808) / 2 ^ 16) % 256)]) ++ [((((toU a.2.1) ^^^ 9223372036854775808) / 2 ^ 8) % 256)]) ++ [((((toU a.2.1) ^^^ 9223372036854775808) / 2 ^ 0) % 256)]))] _ := hS72.only 1; clear hS72
   have he : encV a = (((((((([(a.1.toNat % 256)] ++ [((((toU a.2.1) ^^^ 9223372036854775808) / 2 ^ 56) % 256)]) ++ [((((toU a.2.1) ^^^ 9223372036854775808) / 2 ^ 48) % 256)]) ++ [((((toU a.2.1) ^^^ 9223372036854775808) / 2 ^ 40) % 256)]) ++ [((((toU a.2.1) ^^^ 9223372036854775808) / 2 ^ 32) % 256)]) ++ [((((toU a.2.1) ^^^ 9223372036854775808) / 2 ^ 24) % 256)]) ++ [((((toU a.2.1) ^^^ 9223372036854775808) / 2 ^ 16) % 256)]) ++ [((((toU a.2.1) ^^^ 9223372036854775808) / 2 ^ 8) % 256)]) ++ [((((toU a.2.1) ^^^ 9223372036854775808) / 2 ^ 0) % 256)]) := by rw [encV, encB2 (.inl (by omega))]; try simp [be8, bia, xor_top htu]
   exact ⟨_, _, rfl, ⟨_, _, congrArg (fun n : Nat => Value.slice ad67 n cp67) (show 9 = (encV a).length from by rw [he] <;> first | rfl | simp), by rw [he] <;> first | rfl | simp⟩, hS73⟩
  ·
   have hc16b := hc16
   try simp only [decide_eq_true_eq, decide_eq_false_iff_not, Bool.not_eq_true', Bool.not_eq_false', Bool.and_eq_true, Bool.or_eq_true, Int.not_lt, Int.not_le, ne_eq, Decidable.not_not] at hc16
   refine wp_region_lit ?_
   refine l_q rfl rfl (q_eql rfl rfl) ?_
   refine l_q rfl rfl (q_assignB rfl) ?_
   refine l_nil ?_
   refine hK14 _ _ ?_
   refine c_cond rfl (fun hc74 => ?_) (fun hc74 => ?_)
   ·
    have hc74b := hc74
    try simp only [decide_eq_true_eq, decide_eq_false_iff_not, Bool.not_eq_true', Bool.not_eq_false', Bool.and_eq_true, Bool.or_eq_true, Int.not_lt, Int.not_le, ne_eq, Decidable.not_not] at hc74
    refine wp_seq_k (fun K75 hK75 => ?_)
    refine wp_region_lit ?_
    refine l_q rfl rfl (q_fieldAddr (ft := 2) (o := 1) rfl (by kernel_rfl)) ?_
    refine l_q rfl rfl (q_load1 rfl (by kernel_rfl) (hS4o.cell (i := 1) rfl rfl)) ?_
    refine l_q rfl rfl (q_convU (z := a.2.1) rfl (by kernel_rfl) rfl) ?_
    refine l_q rfl rfl (q_xorN (a := (toU a.2.1)) (b := 9223372036854775808) 64 rfl rfl (by omega) (by omega) (.inl ⟨rfl, rfl⟩)) ?_
    refine l_q rfl rfl (q_assignI rfl) ?_
    refine l_nil ?_
    refine hK75 _ _ ?_
    refine wp_seq_k (fun K76 hK76 => ?_)
    refine wp_region_lit ?_
    refine l_q rfl rfl (q_assignI rfl) ?_
    refine l_nil ?_
    refine hK76 _ _ ?_
    refine wp_block ?_
    refine c_rounds 9 ?_
    refine c_round ?_
    refine wp_seq_k (fun K77 hK77 => ?_)
    refine wp_seq_k (fun K78 hK78 => ?_)
    refine wp_region_lit ?_
    refine l_q rfl rfl (q_moveI rfl) ?_
    refine l_q rfl rfl (q_geq rfl rfl) ?_
    refine l_nil ?_
    refine hK78 _ _ ?_
    refine c_condT rfl (by decide) ?_
    refine wp_skip ?_
    refine hK77 _ _ ?_
    refine wp_seq_k (fun K80 hK80 => ?_)
    refine wp_block ?_
    refine wp_region_lit ?_
    refine l_q rfl rfl (q_moveS rfl) ?_
    refine l_q rfl rfl (q_moveI rfl) ?_
    refine l_q rfl rfl (q_moveI rfl) ?_
    refine l_q rfl rfl (q_convN (a := 56) rfl (by kernel_rfl) (by kernel_rfl) (wrap_fit_u64 (by omega))) ?_
    refine l_q rfl rfl (q_shrN (k := .u64) (a := ((toU a.2.1) ^^^ 9223372036854775808)) (b := 56) rfl rfl (by show _ ≤ 64; omega)) ?_
    refine l_q rfl rfl (u_conv (a := (((toU a.2.1) ^^^ 9223372036854775808) / 2 ^ 56)) (k' := .u8) (M := 256) rfl (by kernel_rfl) (by kernel_rfl) rfl (by decide)) ?_
    refine l_e rfl (fun K hK => ?_)
    refine e_buildSlice1 (e := 5) (zv := .int .u8 0) (xs := [.tmp 37]) hS4o (by kernel_rfl) (by kernel_rfl) (by kernel_rfl) rfl rfl rfl rfl (allone (by repeat' (first | exact trivial | refine ⟨by first | rfl | assumption, ?_⟩))) rfl (fun b81 w81 (hS81 : St _ _ [.blk b81 (.cells #[.int .u8 ((((((toU a.2.1) ^^^ 9223372036854775808) / 2 ^ 56) % 256) : Nat) : Int)] 5), .ow 5 1 (some ⟨b4, 0, none⟩) 1 1 (bv [(a.1.toNat % 256)]), .blk b2 (.cells #[.int .i64 a.1, .int .i64 a.2.1, .string (bs a.2.2)] 32)] _) => ?_)
    clear hS4o
    have hB81 : Bytes [((((toU a.2.1) ^^^ 9223372036854775808) / 2 ^ 56) % 256)] := by intro q hq; simp only [List.mem_cons, List.not_mem_nil, or_false] at hq; omega
    have hS81o : St _ _ [.ow 5 1 (some ⟨b81, 0, none⟩) 1 1 (bv [((((toU a.2.1) ^^^ 9223372036854775808) / 2 ^ 56) % 256)]), .ow 5 1 (some ⟨b4, 0, none⟩) 1 1 (bv [(a.1.toNat % 256)]), .blk b2 (.cells #[.int .i64 a.1, .int .i64 a.2.1, .string (bs a.2.2)] 32)] _ := hS81.blkOw' (i := 0) (m := 1) (size := 1) (xs := bv [((((toU a.2.1) ^^^ 9223372036854775808) / 2 ^ 56) % 256)]) rfl rfl rfl (by decide); clear hS81
    refine hK _ _ ?_; clear hK K
    refine l_e rfl (fun K hK => ?_)
    have hB82 : Bytes ([(a.1.toNat % 256)] ++ [((((toU a.2.1) ^^^ 9223372036854775808) / 2 ^ 56) % 256)]) := Bytes.app hB4 hB81
    refine e_app (e := 5) (size := 1) (bytes := 1) (i := 1) (m' := 2) (by kernel_rfl) hS81o rfl rfl rfl (SlG.src (e := 5) (by kernel_rfl) (hS81o.owG (i := 0) rfl) (by first | (simp only [lls, Nat.mul_one]; done) | (simp only [lls]; omega) | rfl | (simp; done)) (by decide) (bv_one _)) (by first | omega | (simp only [lls] <;> omega) | (simp; done)) bv_app (by first | omega | (simp only [maxLen, lls] <;> omega) | (simp only [maxLen]; omega)) (by first | omega | (simp only [lls] <;> omega)) (fun ad82 cp82 w82 (hS82 : St _ _ [.ow 5 1 (some ⟨b81, 0, none⟩) 1 1 (bv [((((toU a.2.1) ^^^ 9223372036854775808) / 2 ^ 56) % 256)]), .ow 5 1 ad82 2 cp82 (bv ([(a.1.toNat % 256)] ++ [((((toU a.2.1) ^^^ 9223372036854775808) / 2 ^ 56) % 256)])), .blk b2 (.cells #[.int .i64 a.1, .int .i64 a.2.1, .string (bs a.2.2)] 32)] _) => ?_)
    clear hS81o
    refine hK _ _ ?_; clear hK K
    refine l_q rfl rfl (q_assignS rfl) ?_
    refine l_nil ?_
    refine hK80 _ _ ?_
    refine wp_region_lit ?_
    refine l_q rfl rfl (q_moveI rfl) ?_
    refine l_q rfl rfl (q_subx rfl rfl (by first | decide | omega) (by first | decide | omega)) ?_
    refine l_q rfl rfl (q_assignI rfl) ?_
    refine l_nil ?_
    refine c_round ?_
    refine wp_seq_k (fun K83 hK83 => ?_)
    refine wp_seq_k (fun K84 hK84 => ?_)
    refine wp_region_lit ?_
    refine l_q rfl rfl (q_moveI rfl) ?_
    refine l_q rfl rfl (q_geq rfl rfl) ?_
    refine l_nil ?_
    refine hK84 _ _ ?_
    refine c_condT rfl (by decide) ?_
    refine wp_skip ?_
    refine hK83 _ _ ?_
    refine wp_seq_k (fun K86 hK86 => ?_)
    refine wp_block ?_
    refine wp_region_lit ?_
    refine l_q rfl rfl (q_moveS rfl) ?_
    refine l_q rfl rfl (q_moveI rfl) ?_
    refine l_q rfl rfl (q_moveI rfl) ?_
    refine l_q rfl rfl (q_convN (a := 48) rfl (by kernel_rfl) (by kernel_rfl) (wrap_fit_u64 (by omega))) ?_
    refine l_q rfl rfl (q_shrN (k := .u64) (a := ((toU a.2.1) ^^^ 9223372036854775808)) (b := 48) rfl rfl (by show _ ≤ 64; omega)) ?_
    refine l_q rfl rfl (u_conv (a := (((toU a.2.1) ^^^ 9223372036854775808) / 2 ^ 48)) (k' := .u8) (M := 256) rfl (by kernel_rfl) (by kernel_rfl) rfl (by decide)) ?_
    refine l_e rfl (fun K hK => ?_)
    refine e_buildSlice1 (e := 5) (zv := .int .u8 0) (xs := [.tmp 37]) hS82 (by kernel_rfl) (by kernel_rfl) (by kernel_rfl) rfl rfl rfl rfl (allone (by repeat' (first | exact trivial | refine ⟨by first | rfl | assumption, ?_⟩))) rfl (fun b87 w87 (hS87 : St _ _ [.blk b87 (.cells #[.int .u8 ((((((toU a.2.1) ^^^ 9223372036854775808) / 2 ^ 48) % 256) : Nat) : Int)] 5), .ow 5 1 (some ⟨b81, 0, none⟩) 1 1 (bv [((((toU a.2.1) ^^^ 9223372036854775808) / 2 ^ 56) % 256)]), .ow 5 1 ad82 2 cp82 (bv ([(a.1.toNat % 256)] ++ [((((toU a.2.1) ^^^ 9223372036854775808) / 2 ^ 56) % 256)])), .blk b2 (.cells #[.int .i64 a.1, .int .i64 a.2.1, .string (bs a.2.2)] 32)] _) => ?_)
    clear hS82
    have hB87 : Bytes [((((toU a.2.1) ^^^ 9223372036854775808) / 2 ^ 48) % 256)] := by intro q hq; simp only [List.mem_cons, List.not_mem_nil, or_false] at hq; omega
    have hS87o : St _ _ [.ow 5 1 (some ⟨b87, 0, none⟩) 1 1 (bv [((((toU a.2.1) ^^^ 9223372036854775808) / 2 ^ 48) % 256)]), .ow 5 1 (some ⟨b81, 0, none⟩) 1 1 (bv [((((toU a.2.1) ^^^ 9223372036854775808) / 2 ^ 56) % 256)]), .ow 5 1 ad82 2 cp82 (bv ([(a.1.toNat % 256)] ++ [((((toU a.2.1) ^^^ 9223372036854775808) / 2 ^ 56) % 256)])), .blk b2 (.cells #[.int .i64 a.1, .int .i64 a.2.1, .string (bs a.2.2)] 32)] _ := hS87.blkOw' (i := 0) (m := 1) (size := 1) (xs := bv [((((toU a.2.1) ^^^ 9223372036854775808) / 2 ^ 48) % 256)]) rfl rfl rfl (by decide); clear hS87
    refine hK _ _ ?_; clear hK K
    refine l_e rfl (fun K hK => ?_)
    have hB88 : Bytes (([(a.1.toNat % 256)] ++ [((((toU a.2.1) ^^^ 9223372036854775808) / 2 ^ 56) % 256)]) ++ [((((toU a.2.1) ^^^ 9223372036854775808) / 2 ^ 48) % 256)]) := Bytes.app hB82 hB87
    refine e_app (e := 5) (size := 1) (bytes := 1) (i := 2) (m' := 3) (by kernel_rfl) hS87o rfl rfl rfl (SlG.src (e := 5) (by kernel_rfl) (hS87o.owG (i := 0) rfl) (by first | (simp only [lls, Nat.mul_one]; done) | (simp only [lls]; omega) | rfl | (simp; done)) (by decide) (bv_one _)) (by first | omega | (simp only [lls] <;> omega) | (simp; done)) bv_app (by first | omega | (simp only [maxLen, lls] <;> omega) | (simp only [maxLen]; omega)) (by first | omega | (simp only [lls] <;> omega)) (fun ad88 cp88 w88 (hS88 : St _ _ [.ow 5 1 (some ⟨b87, 0, none⟩) 1 1 (bv [((((toU a.2.1) ^^^ 9223372036854775808) / 2 ^ 48) % 256)]), .ow 5 1 (some ⟨b81, 0, none⟩) 1 1 (bv [((((toU a.2.1) ^^^ 9223372036854775808) / 2 ^ 56) % 256)]), .ow 5 1 ad88 3 cp88 (bv (([(a.1.toNat % 256)] ++ [((((toU a.2.1) ^^^ 9223372036854775808) / 2 ^ 56) % 256)]) ++ [((((toU a.2.1) ^^^ 9223372036854775808) / 2 ^ 48) % 256)])), .blk b2 (.cells #[.int .i64 a.1, .int .i64 a.2.1, .string (bs a.2.2)] 32)] _) => ?_)
    clear hS87o
    refine hK _ _ ?_; clear hK K
    refine l_q rfl rfl (q_assignS rfl) ?_
    refine l_nil ?_
    refine hK86 _ _ ?_
    refine wp_region_lit ?_
    refine l_q rfl rfl (q_moveI rfl) ?_
    refine l_q rfl rfl (q_subx rfl rfl (by first | decide | omega) (by first | decide | omega)) ?_
    refine l_q rfl rfl (q_assignI rfl) ?_
    refine l_nil ?_
    refine c_round ?_
    refine wp_seq_k (fun K89 hK89 => ?_)
    refine wp_seq_k (fun K90 hK90 => ?_)
    refine wp_region_lit ?_
    refine l_q rfl rfl (q_moveI rfl) ?_
    refine l_q rfl rfl (q_geq rfl rfl) ?_
    refine l_nil ?_
    refine hK90 _ _ ?_
    refine c_condT rfl (by decide) ?_
    refine wp_skip ?_
    refine hK89 _ _ ?_
    refine wp_seq_k (fun K92 hK92 => ?_)
    refine wp_block ?_
    refine wp_region_lit ?_
    refine l_q rfl rfl (q_moveS rfl) ?_
    refine l_q rfl rfl (q_moveI rfl) ?_
    refine l_q rfl rfl (q_moveI rfl) ?_
    refine l_q rfl rfl (q_convN (a := 40) rfl (by kernel_rfl) (by kernel_rfl) (wrap_fit_u64 (by omega))) ?_
    refine l_q rfl rfl (q_shrN (k := .u64) (a := ((toU a.2.1) ^^^ 9223372036854775808)) (b := 40) rfl rfl (by show _ ≤ 64; omega)) ?_
    refine l_q rfl rfl (u_conv (a := (((toU a.2.1) ^^^ 9223372036854775808) / 2 ^ 40)) (k' := .u8) (M := 256) rfl (by kernel_rfl) (by kernel_rfl) rfl (by decide)) ?_
    refine l_e rfl (fun K hK => ?_)
    refine e_buildSlice1 (e := 5) (zv := .int .u8 0) (xs := [.tmp 37]) hS88 (by kernel_rfl) (by kernel_rfl) (by kernel_rfl) rfl rfl rfl rfl (allone (by repeat' (first | exact trivial | refine ⟨by first | rfl | assumption, ?_⟩))) rfl (fun b93 w93 (hS93 : St _ _ [.blk b93 (.cells #[.int .u8 ((((((toU a.2.1) ^^^ 9223372036854775808) / 2 ^ 40) % 256) : Nat) : Int)] 5), .ow 5 1 (some ⟨b87, 0, none⟩) 1 1 (bv [((((toU a.2.1) ^^^ 9223372036854775808) / 2 ^ 48) % 256)]), .ow 5 1 (some ⟨b81, 0, none⟩) 1 1 (bv [((((toU a.2.1) ^^^ 9223372036854775808) / 2 ^ 56) % 256)]), .ow 5 1 ad88 3 cp88 (bv (([(a.1.toNat % 256)] ++ [((((toU a.2.1) ^^^ 9223372036854775808) / 2 ^ 56) % 256)]) ++ [((((toU a.2.1) ^^^ 9223372036854775808) / 2 ^ 48) % 256)])), .blk b2 (.cells #[.int .i64 a.1, .int .i64 a.2.1, .string (bs a.2.2)] 32)] _) => ?_)
    clear hS88
    have hB93 : Bytes [((((toU a.2.1) ^^^ 9223372036854775808) / 2 ^ 40) % 256)] := by intro q hq; simp only [List.mem_cons, List.not_mem_nil, or_false] at hq; omega
    have hS93o : St _ _ [.ow 5 1 (some ⟨b93, 0, none⟩) 1 1 (bv [((((toU a.2.1) ^^^ 9223372036854775808) / 2 ^ 40) % 256)]), .ow 5 1 (some ⟨b87, 0, none⟩) 1 1 (bv [((((toU a.2.1) ^^^ 9223372036854775808) / 2 ^ 48) % 256)]), .ow 5 1 (some ⟨b81, 0, none⟩) 1 1 (bv [((((toU a.2.1) ^^^ 9223372036854775808) / 2 ^ 56) % 256)]), .ow 5 1 ad88 3 cp88 (bv (([(a.1.toNat % 256)] ++ [((((toU a.2.1) ^^^ 9223372036854775808) / 2 ^ 56) % 256)]) ++ [((((toU a.2.1) ^^^ 9223372036854775808) / 2 ^ 48) % 256)])), .blk b2 (.cells #[.int .i64 a.1, .int .i64 a.2.1, .string (bs a.2.2)] 32)] _ := hS93.blkOw' (i := 0) (m := 1) (size := 1) (xs := bv [((((toU a.2.1) ^^^ 9223372036854775808) / 2 ^ 40) % 256)]) rfl rfl rfl (by decide); clear hS93
    refine hK _ _ ?_; clear hK K
    refine l_e rfl (fun K hK => ?_)
    have hB94 : Bytes ((([(a.1.toNat % 256)] ++ [((((toU a.2.1) ^^^ 9223372036854775808) / 2 ^ 56) % 256)]) ++ [((((toU a.2.1) ^^^ 9223372036854775808) / 2 ^ 48) % 256)]) ++ [((((toU a.2.1) ^^^ 9223372036854775808) / 2 ^ 40) % 256)]) := Bytes.app hB88 hB93
    refine e_app (e := 5) (size := 1) (bytes := 1) (i := 3) (m' := 4) (by kernel_rfl) hS93o rfl rfl rfl (SlG.src (e := 5) (by kernel_rfl) (hS93o.owG (i := 0) rfl) (by first | (simp only [lls, Nat.mul_one]; done) | (simp only [lls]; omega) | rfl | (simp; done)) (by decide) (bv_one _)) (by first | omega | (simp only [lls] <;> omega) | (simp; done)) bv_app (by first | omega | (simp only [maxLen, lls] <;> omega) | (simp only [maxLen]; omega)) (by first | omega | (simp only [lls] <;> omega)) (fun ad94 cp94 w94 (hS94 : St _ _ [.ow 5 1 (some ⟨b93, 0, none⟩) 1 1 (bv [((((toU a.2.1) ^^^ 9223372036854775808) / 2 ^ 40) % 256)]), .ow 5 1 (some ⟨b87, 0, none⟩) 1 1 (bv [((((toU a.2.1) ^^^ 9223372036854775808) / 2 ^ 48) % 256)]), .ow 5 1 (some ⟨b81, 0, none⟩) 1 1 (bv [((((toU a.2.1) ^^^ 9223372036854775808) / 2 ^ 56) % 256)]), .ow 5 1 ad94 4 cp94 (bv ((([(a.1.toNat % 256)] ++ [((((toU a.2.1) ^^^ 9223372036854775808) / 2 ^ 56) % 256)]) ++ [((((toU a.2.1) ^^^ 9223372036854775808) / 2 ^ 48) % 256)]) ++ [((((toU a.2.1) ^^^ 9223372036854775808) / 2 ^ 40) % 256)])), .blk b2 (.cells #[.int .i64 a.1, .int .i64 a.2.1, .string (bs a.2.2)] 32)] _) => ?_)
    clear hS93o
    refine hK _ _ ?_; clear hK K
    refine l_q rfl rfl (q_assignS rfl) ?_
    refine l_nil ?_
    refine hK92 _ _ ?_
    refine wp_region_lit ?_
    refine l_q rfl rfl (q_moveI rfl) ?_
    refine l_q rfl rfl (q_subx rfl rfl (by first | decide | omega) (by first | decide | omega)) ?_
    refine l_q rfl rfl (q_assignI rfl) ?_
    refine l_nil ?_
    refine c_round ?_
    refine wp_seq_k (fun K95 hK95 => ?_)
    refine wp_seq_k (fun K96 hK96 => ?_)
    refine wp_region_lit ?_
    refine l_q rfl rfl (q_moveI rfl) ?_
    refine l_q rfl rfl (q_geq rfl rfl) ?_
    refine l_nil ?_
    refine hK96 _ _ ?_
    refine c_condT rfl (by decide) ?_
    refine wp_skip ?_
    refine hK95 _ _ ?_
    refine wp_seq_k (fun K98 hK98 => ?_)
    refine wp_block ?_
    refine wp_region_lit ?_
    refine l_q rfl rfl (q_moveS rfl) ?_
    refine l_q rfl rfl (q_moveI rfl) ?_
    refine l_q rfl rfl (q_moveI rfl) ?_
    refine l_q rfl rfl (q_convN (a := 32) rfl (by kernel_rfl) (by kernel_rfl) (wrap_fit_u64 (by omega))) ?_
    refine l_q rfl rfl (q_shrN (k := .u64) (a := ((toU a.2.1) ^^^ 9223372036854775808)) (b := 32) rfl rfl (by show _ ≤ 64; omega)) ?_
    refine l_q rfl rfl (u_conv (a := (((toU a.2.1) ^^^ 9223372036854775808) / 2 ^ 32)) (k' := .u8) (M := 256) rfl (by kernel_rfl) (by kernel_rfl) rfl (by decide)) ?_
    refine l_e rfl (fun K hK => ?_)
    refine e_buildSlice1 (e := 5) (zv := .int .u8 0) (xs := [.tmp 37]) hS94 (by kernel_rfl) (by kernel_rfl) (by kernel_rfl) rfl rfl rfl rfl (allone (by repeat' (first | exact trivial | refine ⟨by first | rfl | assumption, ?_⟩))) rfl (fun b99 w99 (hS99 : St _ _ [.blk b99 (.cells #[.int .u8 ((((((toU a.2.1) ^^^ 9223372036854775808) / 2 ^ 32) % 256) : Nat) : Int)] 5), .ow 5 1 (some ⟨b93, 0, none⟩) 1 1 (bv [((((toU a.2.1) ^^^ 9223372036854775808) / 2 ^ 40) % 256)]), .ow 5 1 (some ⟨b87, 0, none⟩) 1 1 (bv [((((toU a.2.1) ^^^ 9223372036854775808) / 2 ^ 48) % 256)]), .ow 5 1 (some ⟨b81, 0, none⟩) 1 1 (bv [((((toU a.2.1) ^^^ 9223372036854775808) / 2 ^ 56) % 256)]), .ow 5 1 ad94 4 cp94 (bv ((([(a.1.toNat % 256)] ++ [((((toU a.2.1) ^^^ 9223372036854775808) / 2 ^ 56) % 256)]) ++ [((((toU a.2.1) ^^^ 9223372036854775808) / 2 ^ 48) % 256)]) ++ [((((toU a.2.1) ^^^ 9223372036854775808) / 2 ^ 40) % 256)])), .blk b2 (.cells #[.int .i64 a.1, .int .i64 a.2.1, .string (bs a.2.2)] 32)] _) => ?_)
    clear hS94
    have hB99 : Bytes [((((toU a.2.1) ^^^ 9223372036854775808) / 2 ^ 32) % 256)] := by intro q hq; simp only [List.mem_cons, List.not_mem_nil, or_false] at hq; omega
    have hS99o : St _ _ [.ow 5 1 (some ⟨b99, 0, none⟩) 1 1 (bv [((((toU a.2.1) ^^^ 9223372036854775808) / 2 ^ 32) % 256)]), .ow 5 1 (some ⟨b93, 0, none⟩) 1 1 (bv [((((toU a.2.1) ^^^ 9223372036854775808) / 2 ^ 40) % 256)]), .ow 5 1 (some ⟨b87, 0, none⟩) 1 1 (bv [((((toU a.2.1) ^^^ 9223372036854775808) / 2 ^ 48) % 256)]), .ow 5 1 (some ⟨b81, 0, none⟩) 1 1 (bv [((((toU a.2.1) ^^^ 9223372036854775808) / 2 ^ 56) % 256)]), .ow 5 1 ad94 4 cp94 (bv ((([(a.1.toNat % 256)] ++ [((((toU a.2.1) ^^^ 9223372036854775808) / 2 ^ 56) % 256)]) ++ [((((toU a.2.1) ^^^ 9223372036854775808) / 2 ^ 48) % 256)]) ++ [((((toU a.2.1) ^^^ 9223372036854775808) / 2 ^ 40) % 256)])), .blk b2 (.cells #[.int .i64 a.1, .int .i64 a.2.1, .string (bs a.2.2)] 32)] _ := hS99.blkOw' (i := 0) (m := 1) (size := 1) (xs := bv [((((toU a.2.1) ^^^ 9223372036854775808) / 2 ^ 32) % 256)]) rfl rfl rfl (by decide); clear hS99
    refine hK _ _ ?_; clear hK K
    refine l_e rfl (fun K hK => ?_)
    have hB100 : Bytes (((([(a.1.toNat % 256)] ++ [((((toU a.2.1) ^^^ 9223372036854775808) / 2 ^ 56) % 256)]) ++ [((((toU a.2.1) ^^^ 9223372036854775808) / 2 ^ 48) % 256)]) ++ [((((toU a.2.1) ^^^ 9223372036854775808) / 2 ^ 40) % 256)]) ++ [((((toU a.2.1) ^^^ 9223372036854775808) / 2 ^ 32) % 256)]) := Bytes.app hB94 hB99
    refine e_app (e := 5) (size := 1) (bytes := 1) (i := 4) (m' := 5) (by kernel_rfl) hS99o rfl rfl rfl (SlG.src (e := 5) (by kernel_rfl) (hS99o.owG (i := 0) rfl) (by first | (simp only [lls, Nat.mul_one]; done) | (simp only [lls]; omega) | rfl | (simp; done)) (by decide) (bv_one _)) (by first | omega | (simp only [lls] <;> omega) | (simp; done)) bv_app (by first | omega | (simp only [maxLen, lls] <;> omega) | (simp only [maxLen]; omega)) (by first | omega | (simp only [lls] <;> omega)) (fun ad100 cp100 w100 (hS100 : St _ _ [.ow 5 1 (some ⟨b99, 0, none⟩) 1 1 (bv [((((toU a.2.1) ^^^ 9223372036854775808) / 2 ^ 32) % 256)]), .ow 5 1 (some ⟨b93, 0, none⟩) 1 1 (bv [((((toU a.2.1) ^^^ 9223372036854775808) / 2 ^ 40) % 256)]), .ow 5 1 (some ⟨b87, 0, none⟩) 1 1 (bv [((((toU a.2.1) ^^^ 9223372036854775808) / 2 ^ 48) % 256)]), .ow 5 1 (some ⟨b81, 0, none⟩) 1 1 (bv [((((toU a.2.1) ^^^ 9223372036854775808) / 2 ^ 56) % 256)]), .ow 5 1 ad100 5 cp100 (bv (((([(a.1.toNat % 256)] ++ [((((toU a.2.1) ^^^ 9223372036854775808) / 2 ^ 56) % 256)]) ++ [((((toU a.2.1) ^^^ 9223372036854775808) / 2 ^ 48) % 256)]) ++ [((((toU a.2.1) ^^^ 9223372036854775808) / 2 ^ 40) % 256)]) ++ [((((toU a.2.1) ^^^ 9223372036854775808) / 2 ^ 32) % 256)])), .blk b2 (.cells #[.int .i64 a.1, .int .i64 a.2.1, .string (bs a.2.2)] 32)] _) => ?_)
    clear hS99o
    refine hK _ _ ?_; clear hK K
    refine l_q rfl rfl (q_assignS rfl) ?_
    refine l_nil ?_
    refine hK98 _ _ ?_
    refine wp_region_lit ?_
    refine l_q rfl rfl (q_moveI rfl) ?_
    refine l_q rfl rfl (q_subx rfl rfl (by first | decide | omega) (by first | decide | omega)) ?_
    refine l_q rfl rfl (q_assignI rfl) ?_
    refine l_nil ?_
    refine c_round ?_
    refine wp_seq_k (fun K101 hK101 => ?_)
    refine wp_seq_k (fun K102 hK102 => ?_)
    refine wp_region_lit ?_
    refine l_q rfl rfl (q_moveI rfl) ?_
    refine l_q rfl rfl (q_geq rfl rfl) ?_
    refine l_nil ?_
    refine hK102 _ _ ?_
    refine c_condT rfl (by decide) ?_
    refine wp_skip ?_
    refine hK101 _ _ ?_
    refine wp_seq_k (fun K104 hK104 => ?_)
    refine wp_block ?_
    refine wp_region_lit ?_
    refine l_q rfl rfl (q_moveS rfl) ?_
    refine l_q rfl rfl (q_moveI rfl) ?_
    refine l_q rfl rfl (q_moveI rfl) ?_
    refine l_q rfl rfl (q_convN (a := 24) rfl (by kernel_rfl) (by kernel_rfl) (wrap_fit_u64 (by omega))) ?_
    refine l_q rfl rfl (q_shrN (k := .u64) (a := ((toU a.2.1) ^^^ 9223372036854775808)) (b := 24) rfl rfl (by show _ ≤ 64; omega)) ?_
    refine l_q rfl rfl (u_conv (a := (((toU a.2.1) ^^^ 9223372036854775808) / 2 ^ 24)) (k' := .u8) (M := 256) rfl (by kernel_rfl) (by kernel_rfl) rfl (by decide)) ?_
    refine l_e rfl (fun K hK => ?_)
    refine e_buildSlice1 (e := 5) (zv := .int .u8 0) (xs := [.tmp 37]) hS100 (by kernel_rfl) (by kernel_rfl) (by kernel_rfl) rfl rfl rfl rfl (allone (by repeat' (first | exact trivial | refine ⟨by first | rfl | assumption, ?_⟩))) rfl (fun b105 w105 (hS105 : St _ _ [.blk b105 (.cells #[.int .u8 ((((((toU a.2.1) ^^^ 9223372036854775808) / 2 ^ 24) % 256) : Nat) : Int)] 5), .ow 5 1 (some ⟨b99, 0, none⟩) 1 1 (bv [((((toU a.2.1) ^^^ 9223372036854775808) / 2 ^ 32) % 256)]), .ow 5 1 (some ⟨b93, 0, none⟩) 1 1 (bv [((((toU a.2.1) ^^^ 9223372036854775808) / 2 ^ 40) % 256)]), .ow 5 1 (some ⟨b87, 0, none⟩) 1 1 (bv [((((toU a.2.1) ^^^ 9223372036854775808) / 2 ^ 48) % 256)]), .ow 5 1 (some ⟨b81, 0, none⟩) 1 1 (bv [((((toU a.2.1) ^^^ 9223372036854775808) / 2 ^ 56) % 256)]), .ow 5 1 ad100 5 cp100 (bv (((([(a.1.toNat % 256)] ++ [((((toU a.2.1) ^^^ 9223372036854775808) / 2 ^ 56) % 256)]) ++ [((((toU a.2.1) ^^^ 9223372036854775808) / 2 ^ 48) % 256)]) ++ [((((toU a.2.1) ^^^ 9223372036854775808) / 2 ^ 40) % 256)]) ++ [((((toU a.2.1) ^^^ 9223372036854775808) / 2 ^ 32) % 256)])), .blk b2 (.cells #[.int .i64 a.1, .int .i64 a.2.1, .string (bs a.2.2)] 32)] _) => ?_)
    clear hS100
    have hB105 : Bytes [((((toU a.2.1) ^^^ 9223372036854775808) / 2 ^ 24) % 256)] := by intro q hq; simp only [List.mem_cons, List.not_mem_nil, or_false] at hq; omega
    have hS105o : St _ _ [.ow 5 1 (some ⟨b105, 0, none⟩) 1 1 (bv [((((toU a.2.1) ^^^ 9223372036854775808) / 2 ^ 24) % 256)]), .ow 5 1 (some ⟨b99, 0, none⟩) 1 1 (bv [((((toU a.2.1) ^^^ 9223372036854775808) / 2 ^ 32) % 256)]), .ow 5 1 (some ⟨b93, 0, none⟩) 1 1 (bv [((((toU a.2.1) ^^^ 9223372036854775808) / 2 ^ 40) % 256)]), .ow 5 1 (some ⟨b87, 0, none⟩) 1 1 (bv [((((toU a.2.1) ^^^ 9223372036854775808) / 2 ^ 48) % 256)]), .ow 5 1 (some ⟨b81, 0, none⟩) 1 1 (bv [((((toU a.2.1) ^^^ 9223372036854775808) / 2 ^ 56) % 256)]), .ow 5 1 ad100 5 cp100 (bv (((([(a.1.toNat % 256)] ++ [((((toU a.2.1) ^^^ 9223372036854775808) / 2 ^ 56) % 256)]) ++ [((((toU a.2.1) ^^^ 9223372036854775808) / 2 ^ 48) % 256)]) ++ [((((toU a.2.1) ^^^ 9223372036854775808) / 2 ^ 40) % 256)]) ++ [((((toU a.2.1) ^^^ 9223372036854775808) / 2 ^ 32) % 256)])), .blk b2 (.cells #[.int .i64 a.1, .int .i64 a.2.1, .string (bs a.2.2)] 32)] _ := hS105.blkOw' (i := 0) (m := 1) (size := 1) (xs := bv [((((toU a.2.1) ^^^ 9223372036854775808) / 2 ^ 24) % 256)]) rfl rfl rfl (by decide); clear hS105
    refine hK _ _ ?_; clear hK K
    refine l_e rfl (fun K hK => ?_)
    have hB106 : Bytes ((((([(a.1.toNat % 256)] ++ [((((toU a.2.1) ^^^ 9223372036854775808) / 2 ^ 56) % 256)]) ++ [((((toU a.2.1) ^^^ 9223372036854775808) / 2 ^ 48) % 256)]) ++ [((((toU a.2.1) ^^^ 9223372036854775808) / 2 ^ 40) % 256)]) ++ [((((toU a.2.1) ^^^ 9223372036854775808) / 2 ^ 32) % 256)]) ++ [((((toU a.2.1) ^^^ 9223372036854775808) / 2 ^ 24) % 256)]) := Bytes.app hB100 hB105
    refine e_app (e := 5) (size := 1) (bytes := 1) (i := 5) (m' := 6) (by kernel_rfl) hS105o rfl rfl rfl (SlG.src (e := 5) (by kernel_rfl) (hS105o.owG (i := 0) rfl) (by first | (simp only [lls, Nat.mul_one]; done) | (simp only [lls]; omega) | rfl | (simp; done)) (by decide) (bv_one _)) (by first | omega | (simp only [lls] <;> omega) | (simp; done)) bv_app (by first | omega | (simp only [maxLen, lls] <;> omega) | (simp only [maxLen]; omega)) (by first | omega | (simp only [lls] <;> omega)) (fun ad106 cp106 w106 (hS106 : St _ _ [.ow 5 1 (some ⟨b105, 0, none⟩) 1 1 (bv [((((toU a.2.1) ^^^ 9223372036854775808) / 2 ^ 24) % 256)]), .ow 5 1 (some ⟨b99, 0, none⟩) 1 1 (bv [((((toU a.2.1) ^^^ 9223372036854775808) / 2 ^ 32) % 256)]), .ow 5 1 (some ⟨b93, 0, none⟩) 1 1 (bv [((((toU a.2.1) ^^^ 9223372036854775808) / 2 ^ 40) % 256)]), .ow 5 1 (some ⟨b87, 0, none⟩) 1 1 (bv [((((toU a.2.1) ^^^ 9223372036854775808) / 2 ^ 48) % 256)]), .ow 5 1 (some ⟨b81, 0, none⟩) 1 1 (bv [((((toU a.2.1) ^^^ 9223372036854775808) / 2 ^ 56) % 256)]), .ow 5 1 ad106 6 cp106 (bv ((((([(a.1.toNat % 256)] ++ [((((toU a.2.1) ^^^ 9223372036854775808) / 2 ^ 56) % 256)]) ++ [((((toU a.2.1) ^^^ 9223372036854775808) / 2 ^ 48) % 256)]) ++ [((((toU a.2.1) ^^^ 9223372036854775808) / 2 ^ 40) % 256)]) ++ [((((toU a.2.1) ^^^ 9223372036854775808) / 2 ^ 32) % 256)]) ++ [((((toU a.2.1) ^^^ 9223372036854775808) / 2 ^ 24) % 256)])), .blk b2 (.cells #[.int .i64 a.1, .int .i64 a.2.1, .string (bs a.2.2)] 32)] _) => ?_)
    clear hS105o
    refine hK _ _ ?_; clear hK K
    refine l_q rfl rfl (q_assignS rfl) ?_
    refine l_nil ?_
    refine hK104 _ _ ?_
    refine wp_region_lit ?_
    refine l_q rfl rfl (q_moveI rfl) ?_
    refine l_q rfl rfl (q_subx rfl rfl (by first | decide | omega) (by first | decide | omega)) ?_
    refine l_q rfl rfl (q_assignI rfl) ?_
    refine l_nil ?_
    refine c_round ?_
    refine wp_seq_k (fun K107 hK107 => ?_)
    refine wp_seq_k (fun K108 hK108 => ?_)
    refine wp_region_lit ?_
    refine l_q rfl rfl (q_moveI rfl) ?_
    refine l_q rfl rfl (q_geq rfl rfl) ?_
    refine l_nil ?_
    refine hK108 _ _ ?_
    refine c_condT rfl (by decide) ?_
    refine wp_skip ?_
    refine hK107 _ _ ?_
    refine wp_seq_k (fun K110 hK110 => ?_)
    refine wp_block ?_
    refine wp_region_lit ?_
    refine l_q rfl rfl (q_moveS rfl) ?_
    refine l_q rfl rfl (q_moveI rfl) ?_
    refine l_q rfl rfl (q_moveI rfl) ?_
    refine l_q rfl rfl (q_convN (a := 16) rfl (by kernel_rfl) (by kernel_rfl) (wrap_fit_u64 (by omega))) ?_
    refine l_q rfl rfl (q_shrN (k := .u64) (a := ((toU a.2.1) ^^^ 9223372036854775808)) (b := 16) rfl rfl (by show _ ≤ 64; omega)) ?_
    refine l_q rfl rfl (u_conv (a := (((toU a.2.1) ^^^ 9223372036854775808) / 2 ^ 16)) (k' := .u8) (M := 256) rfl (by kernel_rfl) (by kernel_rfl) rfl (by decide)) ?_
    refine l_e rfl (fun K hK => ?_)
    refine e_buildSlice1 (e := 5) (zv := .int .u8 0) (xs := [.tmp 37]) hS106 (by kernel_rfl) (by kernel_rfl) (by kernel_rfl) rfl rfl rfl rfl (allone (by repeat' (first | exact trivial | refine ⟨by first | rfl | assumption, ?_⟩))) rfl (fun b111 w111 (hS111 : St _ _ [.blk b111 (.cells #[.int .u8 ((((((toU a.2.1) ^^^ 9223372036854775808) / 2 ^ 16) % 256) : Nat) : Int)] 5), .ow 5 1 (some ⟨b105, 0, none⟩) 1 1 (bv [((((toU a.2.1) ^^^ 9223372036854775808) / 2 ^ 24) % 256)]), .ow 5 1 (some ⟨b99, 0, none⟩) 1 1 (bv [((((toU a.2.1) ^^^ 9223372036854775808) / 2 ^ 32) % 256)]), .ow 5 1 (some ⟨b93, 0, none⟩) 1 1 (bv [((((toU a.2.1) ^^^ 9223372036854775808) / 2 ^ 40) % 256)]), .ow 5 1 (some ⟨b87, 0, none⟩) 1 1 (bv [((((toU a.2.1) ^^^ 9223372036854775808) / 2 ^ 48) % 256)]), .ow 5 1 (some ⟨b81, 0, none⟩) 1 1 (bv [((((toU a.2.1) ^^^ 9223372036854775808) / 2 ^ 56) % 256)]), .ow 5 1 ad106 6 cp106 (bv ((((([(a.1.toNat % 256)] ++ [((((toU a.2.1) ^^^ 9223372036854775808) / 2 ^ 56) % 256)]) ++ [((((toU a.2.1) ^^^ 9223372036854775808) / 2 ^ 48) % 256)]) ++ [((((toU a.2.1) ^^^ 9223372036854775808) / 2 ^ 40) % 256)]) ++ [((((toU a.2.1) ^^^ 9223372036854775808) / 2 ^ 32) % 256)]) ++ [((((toU a.2.1) ^^^ 9223372036854775808) / 2 ^ 24) % 256)])), .blk b2 (.cells #[.int .i64 a.1, .int .i64 a.2.1, .string (bs a.2.2)] 32)] _) => ?_)
    clear hS106
    have hB111 : Bytes [((((toU a.2.1) ^^^ 9223372036854775808) / 2 ^ 16) % 256)] := by intro q hq; simp only [List.mem_cons, List.not_mem_nil, or_false] at hq; omega
    have hS111o : St _ _ [.ow 5 1 (some ⟨b111, 0, none⟩) 1 1 (bv [((((toU a.2.1) ^^^ 9223372036854775808) / 2 ^ 16) % 256)]), .ow 5 1 (some ⟨b105, 0, none⟩) 1 1 (bv [((((toU a.2.1) ^^^ 9223372036854775808) / 2 ^ 24) % 256)]), .ow 5 1 (some ⟨b99, 0, none⟩) 1 1 (bv [((((toU a.2.1) ^^^ 9223372036854775808) / 2 ^ 32) % 256)]), .ow 5 1 (some ⟨b93, 0, none⟩) 1 1 (bv [((((toU a.2.1) ^^^ 9223372036854775808) / 2 ^ 40) % 256)]), .ow 5 1 (some ⟨b87, 0, none⟩) 1 1 (bv [((((toU a.2.1) ^^^ 9223372036854775808) / 2 ^ 48) % 256)]), .ow 5 1 (some ⟨b81, 0, none⟩) 1 1 (bv [((((toU a.2.1) ^^^ 9223372036854775808) / 2 ^ 56) % 256)]), .ow 5 1 ad106 6 cp106 (bv ((((([(a.1.toNat % 256)] ++ [((((toU a.2.1) ^^^ 9223372036854775808) / 2 ^ 56) % 256)]) ++ [((((toU a.2.1) ^^^ 9223372036854775808) / 2 ^ 48) % 256)]) ++ [((((toU a.2.1) ^^^ 9223372036854775808) / 2 ^ 40) % 256)]) ++ [((((toU a.2.1) ^^^ 9223372036854775808) / 2 ^ 32) % 256)]) ++ [((((toU a.2.1) ^^^ 9223372036854775808) / 2 ^ 24) % 256)])), .blk b2 (.cells #[.int .i64 a.1, .int .i64 a.2.1, .string (bs a.2.2)] 32)] _ := hS111.blkOw' (i := 0) (m := 1) (size := 1) (xs := bv [((((toU a.2.1) ^^^ 9223372036854775808) / 2 ^ 16) % 256)]) rfl rfl rfl (by decide); clear hS111
    refine hK _ _ ?_; clear hK K
    refine l_e rfl (fun K hK => ?_)
    have hB112 : Bytes (((((([(a.1.toNat % 256)] ++ [((((toU a.2.1) ^^^ 9223372036854775808) / 2 ^ 56) % 256)]) ++ [((((toU a.2.1) ^^^ 9223372036854775808) / 2 ^ 48) % 256)]) ++ [((((toU a.2.1) ^^^ 9223372036854775808) / 2 ^ 40) % 256)]) ++ [((((toU a.2.1) ^^^ 9223372036854775808) / 2 ^ 32) % 256)]) ++ [((((toU a.2.1) ^^^ 9223372036854775808) / 2 ^ 24) % 256)]) ++ [((((toU a.2.1) ^^^ 9223372036854775808) / 2 ^ 16) % 256)]) := Bytes.app hB106 hB111
    refine e_app (e := 5) (size := 1) (bytes := 1) (i := 6) (m' := 7) (by kernel_rfl) hS111o rfl rfl rfl (SlG.src (e := 5) (by kernel_rfl) (hS111o.owG (i := 0) rfl) (by first | (simp only [lls, Nat.mul_one]; done) | (simp only [lls]; omega) | rfl | (simp; done)) (by decide) (bv_one _)) (by first | omega | (simp only [lls] <;> omega) | (simp; done)) bv_app (by first | omega | (simp only [maxLen, lls] <;> omega) | (simp only [maxLen]; omega)) (by first | omega | (simp only [lls] <;> omega)) (fun ad112 cp112 w112 (hS112 : St _ _ [.ow 5 1 (some ⟨b111, 0, none⟩) 1 1 (bv [((((toU a.2.1) ^^^ 9223372036854775808) / 2 ^ 16) % 256)]), .ow 5 1 (some ⟨b105, 0, none⟩) 1 1 (bv [((((toU a.2.1) ^^^ 9223372036854775808) / 2 ^ 24) % 256)]), .ow 5 1 (some ⟨b99, 0, none⟩) 1 1 (bv [((((toU a.2.1) ^^^ 9223372036854775808) / 2 ^ 32) % 256)]), .ow 5 1 (some ⟨b93, 0, none⟩) 1 1 (bv [((((toU a.2.1) ^^^ 9223372036854775808) / 2 ^ 40) % 256)]), .ow 5 1 (some ⟨b87, 0, none⟩) 1 1 (bv [((((toU a.2.1) ^^^ 9223372036854775808) / 2 ^ 48) % 256)]), .ow 5 1 (some ⟨b81, 0, none⟩) 1 1 (bv [((((toU a.2.1) ^^^ 9223372036854775808) / 2 ^ 56) % 256)]), .ow 5 1 ad112 7 cp112 (bv (((((([(a.1.toNat % 256)] ++ [((((toU a.2.1) ^^^ 9223372036854775808) / 2 ^ 56) % 256)]) ++ [((((toU a.2.1) ^^^ 9223372036854775808) / 2 ^ 48) % 256)]) ++ [((((toU a.2.1) ^^^ 9223372036854775808) / 2 ^ 40) % 256)]) ++ [((((toU a.2.1) ^^^ 9223372036854775808) / 2 ^ 32) % 256)]) ++ [((((toU a.2.1) ^^^ 9223372036854775808) / 2 ^ 24) % 256)]) ++ [((((toU a.2.1) ^^^ 9223372036854775808) / 2 ^ 16) % 256)])), .blk b2 (.cells #[.int .i64 a.1, .int .i64 a.2.1, .string (bs a.2.2)] 32)] _) => ?_)
    clear hS111o
    refine hK _ _ ?_; clear hK K
    refine l_q rfl rfl (q_assignS rfl) ?_
    refine l_nil ?_
    refine hK110 _ _ ?_
    refine wp_region_lit ?_
    refine l_q rfl rfl (q_moveI rfl) ?_
    refine l_q rfl rfl (q_subx rfl rfl (by first | decide | omega) (by first | decide | omega)) ?_
    refine l_q rfl rfl (q_assignI rfl) ?_
    refine l_nil ?_
    refine c_round ?_
    refine wp_seq_k (fun K113 hK113 => ?_)
    refine wp_seq_k (fun K114 hK114 => ?_)
    refine wp_region_lit ?_
    refine l_q rfl rfl (q_moveI rfl) ?_
    refine l_q rfl rfl (q_geq rfl rfl) ?_
    refine l_nil ?_
    refine hK114 _ _ ?_
    refine c_condT rfl (by decide) ?_
    refine wp_skip ?_
    refine hK113 _ _ ?_
    refine wp_seq_k (fun K116 hK116 => ?_)
    refine wp_block ?_
    refine wp_region_lit ?_
    refine l_q rfl rfl (q_moveS rfl) ?_
    refine l_q rfl rfl (q_moveI rfl) ?_
    refine l_q rfl rfl (q_moveI rfl) ?_
    refine l_q rfl rfl (q_convN (a := 8) rfl (by kernel_rfl) (by kernel_rfl) (wrap_fit_u64 (by omega))) ?_
    refine l_q rfl rfl (q_shrN (k := .u64) (a := ((toU a.2.1) ^^^ 9223372036854775808)) (b := 8) rfl rfl (by show _ ≤ 64; omega)) ?_
    refine l_q rfl rfl (u_conv (a := (((toU a.2.1) ^^^ 9223372036854775808) / 2 ^ 8)) (k' := .u8) (M := 256) rfl (by kernel_rfl) (by kernel_rfl) rfl (by decide)) ?_
    refine l_e rfl (fun K hK => ?_)
    refine e_buildSlice1 (e := 5) (zv := .int .u8 0) (xs := [.tmp 37]) hS112 (by kernel_rfl) (by kernel_rfl) (by kernel_rfl) rfl rfl rfl rfl (allone (by repeat' (first | exact trivial | refine ⟨by first | rfl | assumption, ?_⟩))) rfl (fun b117 w117 (hS117 : St _ _ [.blk b117 (.cells #[.int .u8 ((((((toU a.2.1) ^^^ 9223372036854775808) / 2 ^ 8) % 256) : Nat) : Int)] 5), .ow 5 1 (some ⟨b111, 0, none⟩) 1 1 (bv [((((toU a.2.1) ^^^ 9223372036854775808) / 2 ^ 16) % 256)]), .ow 5 1 (some ⟨b105, 0, none⟩) 1 1 (bv [((((toU a.2.1) ^^^ 9223372036854775808) / 2 ^ 24) % 256)]), .ow 5 1 (some ⟨b99, 0, none⟩) 1 1 (bv [((((toU a.2.1) ^^^ 9223372036854775808) / 2 ^ 32) % 256)]), .ow 5 1 (some ⟨b93, 0, none⟩) 1 1 (bv [((((toU a.2.1) ^^^ 9223372036854775808) / 2 ^ 40) % 256)]), .ow 5 1 (some ⟨b87, 0, none⟩) 1 1 (bv [((((toU a.2.1) ^^^ 9223372036854775808) / 2 ^ 48) % 256)]), .ow 5 1 (some ⟨b81, 0, none⟩) 1 1 (bv [((((toU a.2.1) ^^^ 9223372036854775808) / 2 ^ 56) % 256)]), .ow 5 1 ad112 7 cp112 (bv (((((([(a.1.toNat % 256)] ++ [((((toU a.2.1) ^^^ 9223372036854775808) / 2 ^ 56) % 256)]) ++ [((((toU a.2.1) ^^^ 9223372036854775808) / 2 ^ 48) % 256)]) ++ [((((toU a.2.1) ^^^ 9223372036854775808) / 2 ^ 40) % 256)]) ++ [((((toU a.2.1) ^^^ 9223372036854775808) / 2 ^ 32) % 256)]) ++ [((((toU a.2.1) ^^^ 9223372036854775808) / 2 ^ 24) % 256)]) ++ [((((toU a.2.1) ^^^ 9223372036854775808) / 2 ^ 16) % 256)])), .blk b2 (.cells #[.int .i64 a.1, .int .i64 a.2.1, .string (bs a.2.2)] 32)] _) => ?_)
    clear hS112
    have hB117 : Bytes [((((toU a.2.1) ^^^ 9223372036854775808) / 2 ^ 8) % 256)] := by intro q hq; simp only [List.mem_cons, List.not_mem_nil, or_false] at hq; omega
    have hS117o : St _ _ [.ow 5 1 (some ⟨b117, 0, none⟩) 1 1 (bv [((((toU a.2.1) ^^^ 9223372036854775808) / 2 ^ 8) % 256)]), .ow 5 1 (some ⟨b111, 0, none⟩) 1 1 (bv [((((toU a.2.1) ^^^ 9223372036854775808) / 2 ^ 16) % 256)]), .ow 5 1 (some ⟨b105, 0, none⟩) 1 1 (bv [((((toU a.2.1) ^^^ 9223372036854775808) / 2 ^ 24) % 256)]), .ow 5 1 (some ⟨b99, 0, none⟩) 1 1 (bv [((((toU a.2.1) ^^^ 9223372036854775808) / 2 ^ 32) % 256)]), .ow 5 1 (some ⟨b93, 0, none⟩) 1 1 (bv [((((toU a.2.1) ^^^ 9223372036854775808) / 2 ^ 40) % 256)]), .ow 5 1 (some ⟨b87, 0, none⟩) 1 1 (bv [((((toU a.2.1) ^^^ 9223372036854775808) / 2 ^ 48) % 256)]), .ow 5 1 (some ⟨b81, 0, none⟩) 1 1 (bv [((((toU a.2.1) ^^^ 9223372036854775808) / 2 ^ 56) % 256)]), .ow 5 1 ad112 7 cp112 (bv (((((([(a.1.toNat % 256)] ++ [((((toU a.2.1) ^^^ 9223372036854775808) / 2 ^ 56) % 256)]) ++ [((((toU a.2.1) ^^^ 9223372036854775808) / 2 ^ 48) % 256)]) ++ [((((toU a.2.1) ^^^ 9223372036854775808) / 2 ^ 40) % 256)]) ++ [((((toU a.2.1) ^^^ 9223372036854775808) / 2 ^ 32) % 256)]) ++ [((((toU a.2.1) ^^^ 9223372036854775808) / 2 ^ 24) % 256)]) ++ [((((toU a.2.1) ^^^ 9223372036854775808) / 2 ^ 16) % 256)])), .blk b2 (.cells #[.int .i64 a.1, .int .i64 a.2.1, .string (bs a.2.2)] 32)] _ := hS117.blkOw' (i := 0) (m := 1) (size := 1) (xs := bv [((((toU a.2.1) ^^^ 9223372036854775808) / 2 ^ 8) % 256)]) rfl rfl rfl (by decide); clear hS117
    refine hK _ _ ?_; clear hK K
    refine l_e rfl (fun K hK => ?_)
    have hB118 : Bytes ((((((([(a.1.toNat % 256)] ++ [((((toU a.2.1) ^^^ 9223372036854775808) / 2 ^ 56) % 256)]) ++ [((((toU a.2.1) ^^^ 9223372036854775808) / 2 ^ 48) % 256)]) ++ [((((toU a.2.1) ^^^ 9223372036854775808) / 2 ^ 40) % 256)]) ++ [((((toU a.2.1) ^^^ 9223372036854775808) / 2 ^ 32) % 256)]) ++ [((((toU a.2.1) ^^^ 9223372036854775808) / 2 ^ 24) % 256)]) ++ [((((toU a.2.1) ^^^ 9223372036854775808) / 2 ^ 16) % 256)]) ++ [((((toU a.2.1) ^^^ 9223372036854775808) / 2 ^ 8) % 256)]) := Bytes.app hB112 hB117
    refine e_app (e := 5) (size := 1) (bytes := 1) (i := 7) (m' := 8) (by kernel_rfl) hS117o rfl rfl rfl (SlG.src (e := 5) (by kernel_rfl) (hS117o.owG (i := 0) rfl) (by first | (simp only [lls, Nat.mul_one]; done) | (simp only [lls]; omega) | rfl | (simp; done)) (by decide) (bv_one _)) (by first | omega | (simp only [lls] <;> omega) | (simp; done)) bv_app (by first | omega | (simp only [maxLen, lls] <;> omega) | (simp only [maxLen]; omega)) (by first | omega | (simp only [lls] <;> omega)) (fun ad118 cp118 w118 (hS118 : St _ _ [.ow 5 1 (some ⟨b117, 0, none⟩) 1 1 (bv [((((toU a.2.1) ^^^ 9223372036854775808) / 2 ^ 8) % 256)]), .ow 5 1 (some ⟨b111, 0, none⟩) 1 1 (bv [((((toU a.2.1) ^^^ 9223372036854775808) / 2 ^ 16) % 256)]), .ow 5 1 (some ⟨b105, 0, none⟩) 1 1 (bv [((((toU a.2.1) ^^^ 9223372036854775808) / 2 ^ 24) % 256)]), .ow 5 1 (some ⟨b99, 0, none⟩) 1 1 (bv [((((toU a.2.1) ^^^ 9223372036854775808) / 2 ^ 32) % 256)]), .ow 5 1 (some ⟨b93, 0, none⟩) 1 1 (bv [((((toU a.2.1) ^^^ 9223372036854775808) / 2 ^ 40) % 256)]), .ow 5 1 (some ⟨b87, 0, none⟩) 1 1 (bv [((((toU a.2.1) ^^^ 9223372036854775808) / 2 ^ 48) % 256)]), .ow 5 1 (some ⟨b81, 0, none⟩) 1 1 (bv [((((toU a.2.1) ^^^ 9223372036854775808) / 2 ^ 56) % 256)]), .ow 5 1 ad118 8 cp118 (bv ((((((([(a.1.toNat % 256)] ++ [((((toU a.2.1) ^^^ 9223372036854775808) / 2 ^ 56) % 256)]) ++ [((((toU a.2.1) ^^^ 9223372036854775808) / 2 ^ 48) % 256)]) ++ [((((toU a.2.1) ^^^ 9223372036854775808) / 2 ^ 40) % 256)]) ++ [((((toU a.2.1) ^^^ 9223372036854775808) / 2 ^ 32) % 256)]) ++ [((((toU a.2.1) ^^^ 9223372036854775808) / 2 ^ 24) % 256)]) ++ [((((toU a.2.1) ^^^ 9223372036854775808) / 2 ^ 16) % 256)]) ++ [((((toU a.2.1) ^^^ 9223372036854775808) / 2 ^ 8) % 256)])), .blk b2 (.cells #[.int .i64 a.1, .int .i64 a.2.1, .string (bs a.2.2)] 32)] _) => ?_)
    clear hS117o
    refine hK _ _ ?_; clear hK K
    refine l_q rfl rfl (q_assignS rfl) ?_
    refine l_nil ?_
    refine hK116 _ _ ?_
    refine wp_region_lit ?_
    refine l_q rfl rfl (q_moveI rfl) ?_
    refine l_q rfl rfl (q_subx rfl rfl (by first | decide | omega) (by first | decide | omega)) ?_
    refine l_q rfl rfl (q_assignI rfl) ?_
    refine l_nil ?_
    refine c_round ?_
    refine wp_seq_k (fun K119 hK119 => ?_)
    refine wp_seq_k (fun K120 hK120 => ?_)
    refine wp_region_lit ?_
    refine l_q rfl rfl (q_moveI rfl) ?_
    refine l_q rfl rfl (q_geq rfl rfl) ?_
    refine l_nil ?_
    refine hK120 _ _ ?_
    refine c_condT rfl (by decide) ?_
    refine wp_skip ?_
    refine hK119 _ _ ?_
    refine wp_seq_k (fun K122 hK122 => ?_)
    refine wp_block ?_
    refine wp_region_lit ?_
    refine l_q rfl rfl (q_moveS rfl) ?_
    refine l_q rfl rfl (q_moveI rfl) ?_
    refine l_q rfl rfl (q_moveI rfl) ?_
    refine l_q rfl rfl (q_convN (a := 0) rfl (by kernel_rfl) (by kernel_rfl) (wrap_fit_u64 (by omega))) ?_
    refine l_q rfl rfl (q_shrN (k := .u64) (a := ((toU a.2.1) ^^^ 9223372036854775808)) (b := 0) rfl rfl (by show _ ≤ 64; omega)) ?_
    refine l_q rfl rfl (u_conv (a := (((toU a.2.1) ^^^ 9223372036854775808) / 2 ^ 0)) (k' := .u8) (M := 256) rfl (by kernel_rfl) (by kernel_rfl) rfl (by decide)) ?_
    refine l_e rfl (fun K hK => ?_)
    refine e_buildSlice1 (e := 5) (zv := .int .u8 0) (xs := [.tmp 37]) hS118 (by kernel_rfl) (by kernel_rfl) (by kernel_rfl) rfl rfl rfl rfl (allone (by repeat' (first | exact trivial | refine ⟨by first | rfl | assumption, ?_⟩))) rfl (fun b123 w123 (hS123 : St _ _ [.blk b123 (.cells #[.int .u8 ((((((toU a.2.1) ^^^ 9223372036854775808) / 2 ^ 0) % 256) : Nat) : Int)] 5), .ow 5 1 (some ⟨b117, 0, none⟩) 1 1 (bv [((((toU a.2.1) ^^^ 9223372036854775808) / 2 ^ 8) % 256)]), .ow 5 1 (some ⟨b111, 0, none⟩) 1 1 (bv [((((toU a.2.1) ^^^ 9223372036854775808) / 2 ^ 16) % 256)]), .ow 5 1 (some ⟨b105, 0, none⟩) 1 1 (bv [((((toU a.2.1) ^^^ 9223372036854775808) / 2 ^ 24) % 256)]), .ow 5 1 (some ⟨b99, 0, none⟩) 1 1 (bv [((((toU a.2.1) ^^^ 9223372036854775808) / 2 ^ 32) % 256)]), .ow 5 1 (some ⟨b93, 0, none⟩) 1 1 (bv [((((toU a.2.1) ^^^ 9223372036854775808) / 2 ^ 40) % 256)]), .ow 5 1 (some ⟨b87, 0, none⟩) 1 1 (bv [((((toU a.2.1) ^^^ 9223372036854775808) / 2 ^ 48) % 256)]), .ow 5 1 (some ⟨b81, 0, none⟩) 1 1 (bv [((((toU a.2.1) ^^^ 9223372036854775808) / 2 ^ 56) % 256)]), .ow 5 1 ad118 8 cp118 (bv ((((((([(a.1.toNat % 256)] ++ [((((toU a.2.1) ^^^ 9223372036854775808) / 2 ^ 56) % 256)]) ++ [((((toU a.2.1) ^^^ 9223372036854775808) / 2 ^ 48) % 256)]) ++ [((((toU a.2.1) ^^^ 9223372036854775808) / 2 ^ 40) % 256)]) ++ [((((toU a.2.1) ^^^ 9223372036854775808) / 2 ^ 32) % 256)]) ++ [((((toU a.2.1) ^^^ 9223372036854775808) / 2 ^ 24) % 256)]) ++ [((((toU a.2.1) ^^^ 9223372036854775808) / 2 ^ 16) % 256)]) ++ [((((toU a.2.1) ^^^ 9223372036854775808) / 2 ^ 8) % 256)])), .blk b2 (.cells #[.int .i64 a.1, .int .i64 a.2.1, .string (bs a.2.2)] 32)] _) => ?_)
    clear hS118
    have hB123 : Bytes [((((toU a.2.1) ^^^ 9223372036854775808) / 2 ^ 0) % 256)] := by intro q hq; simp only [List.mem_cons, List.not_mem_nil, or_false] at hq; omega
    have hS123o : St _ _ [.ow 5 1 (some ⟨b123, 0, none⟩) 1 1 (bv [((((toU a.2.1) ^^^ 9223372036854775808) / 2 ^ 0) % 256)]), .ow 5 1 (some ⟨b117, 0, none⟩) 1 1 (bv [((((toU a.2.1) ^^^ 9223372036854775808) / 2 ^ 8) % 256)]), .ow 5 1 (some ⟨b111, 0, none⟩) 1 1 (bv [((((toU a.2.1) ^^^ 9223372036854775808) / 2 ^ 16) % 256)]), .ow 5 1 (some ⟨b105, 0, none⟩) 1 1 (bv [((((toU a.2.1) ^^^ 9223372036854775808) / 2 ^ 24) % 256)]), .ow 5 1 (some ⟨b99, 0, none⟩) 1 1 (bv [((((toU a.2.1) ^^^ 9223372036854775808) / 2 ^ 32) % 256)]), .ow 5 1 (some ⟨b93, 0, none⟩) 1 1 (bv [((((toU a.2.1) ^^^ 9223372036854775808) / 2 ^ 40) % 256)]), .ow 5 1 (some ⟨b87, 0, none⟩) 1 1 (bv [((((toU a.2.1) ^^^ 9223372036854775808) / 2 ^ 48) % 256)]), .ow 5 1 (some ⟨b81, 0, none⟩) 1 1 (bv [((((toU a.2.1) ^^^ 9223372036854775808) / 2 ^ 56) % 256)]), .ow 5 1 ad118 8 cp118 (bv ((((((([(a.1.toNat % 256)] ++ [((((toU a.2.1) ^^^ 9223372036854775808) / 2 ^ 56) % 256)]) ++ [((((toU a.2.1) ^^^ 9223372036854775808) / 2 ^ 48) % 256)]) ++ [((((toU a.2.1) ^^^ 9223372036854775808) / 2 ^ 40) % 256)]) ++ [((((toU a.2.1) ^^^ 9223372036854775808) / 2 ^ 32) % 256)]) ++ [((((toU a.2.1) ^^^ 9223372036854775808) / 2 ^ 24) % 256)]) ++ [((((toU a.2.1) ^^^ 9223372036854775808) / 2 ^ 16) % 256)]) ++ [((((toU a.2.1) ^^^ 9223372036854775808) / 2 ^ 8) % 256)])), .blk b2 (.cells #[.int .i64 a.1, .int .i64 a.2.1, .string (bs a.2.2)] 32)] _ := hS123.blkOw' (i := 0) (m := 1) (size := 1) (xs := bv [((((toU a.2.1) ^^^ 9223372036854775808) / 2 ^ 0) % 256)]) rfl rfl rfl (by decide); clear hS123
    refine hK _ _ ?_; clear hK K
    refine l_e rfl (fun K hK => ?_)
    have hB124 : Bytes (((((((([(a.1.toNat % 256)] ++ [((((toU a.2.1) ^^^ 9223372036854775808) / 2 ^ 56) % 256)]) ++ [((((toU a.2.1) ^^^ 9223372036854775808) / 2 ^ 48) % 256)]) ++ [((((toU a.2.1) ^^^ 9223372036854775808) / 2 ^ 40) % 256)]) ++ [((((toU a.2.1) ^^^ 9223372036854775808) / 2 ^ 32) % 256)]) ++ [((((toU a.2.1) ^^^ 9223372036854775808) / 2 ^ 24) % 256)]) ++ [((((toU a.2.1) ^^^ 9223372036854775808) / 2 ^ 16) % 256)]) ++ [((((toU a.2.1) ^^^ 9223372036854775808) / 2 ^ 8) % 256)]) ++ [((((toU a.2.1) ^^^ 9223372036854775808) / 2 ^ 0) % 256)]) := Bytes.app hB118 hB123
    refine e_app (e := 5) (size := 1) (bytes := 1) (i := 8) (m' := 9) (by kernel_rfl) hS123o rfl rfl rfl (SlG.src (e := 5) (by kernel_rfl) (hS123o.owG (i := 0) rfl) (by first | (simp only [lls, Nat.mul_one]; done) | (simp only [lls]; omega) | rfl | (simp; done)) (by decide) (bv_one _)) (by first | omega | (simp only [lls] <;> omega) | (simp; done)) bv_app (by first | omega | (simp only [maxLen, lls] <;> omega) | (simp only [maxLen]; omega)) (by first | omega | (simp only [lls] <;> omega)) (fun ad124 cp124 w124 (hS124 : St _ _ [.ow 5 1 (some ⟨b123, 0, none⟩) 1 1 (bv [((((toU a.2.1) ^^^ 9223372036854775808) / 2 ^ 0) % 256)]), .ow 5 1 (some ⟨b117, 0, none⟩) 1 1 (bv [((((toU a.2.1) ^^^ 9223372036854775808) / 2 ^ 8) % 256)]), .ow 5 1 (some ⟨b111, 0, none⟩) 1 1 (bv [((((toU a.2.1) ^^^ 9223372036854775808) / 2 ^ 16) % 256)]), .ow 5 1 (some ⟨b105, 0, none⟩) 1 1 (bv [((((toU a.2.1) ^^^ 9223372036854775808) / 2 ^ 24) % 256)]), .ow 5 1 (some ⟨b99, 0, none⟩) 1 1 (bv [((((toU a.2.1) ^^^ 9223372036854775808) / 2 ^ 32) % 256)]), .ow 5 1 (some ⟨b93, 0, none⟩) 1 1 (bv [((((toU a.2.1) ^^^ 9223372036854775808) / 2 ^ 40) % 256)]), .ow 5 1 (some ⟨b87, 0, none⟩) 1 1 (bv [((((toU a.2.1) ^^^ 9223372036854775808) / 2 ^ 48) % 256)]), .ow 5 1 (some ⟨b81, 0, none⟩) 1 1 (bv [((((toU a.2.1) ^^^ 9223372036854775808) / 2 ^ 56) % 256)]), .ow 5 1 ad124 9 cp124 (bv (((((((([(a.1.toNat % 256)] ++ [((((toU a.2.1) ^^^ 9223372036854775808) / 2 ^ 56) % 256)]) ++ [((((toU a.2.1) ^^^ 9223372036854775808) / 2 ^ 48) % 256)]) ++ [((((toU a.2.1) ^^^ 9223372036854775808) / 2 ^ 40) % 256)]) ++ [((((toU a.2.1) ^^^ 9223372036854775808) / 2 ^ 32) % 256)]) ++ [((((toU a.2.1) ^^^ 9223372036854775808) / 2 ^ 24) % 256)]) ++ [((((toU a.2.1) ^^^ 9223372036854775808) / 2 ^ 16) % 256)]) ++ [((((toU a.2.1) ^^^ 9223372036854775808) / 2 ^ 8) % 256)]) ++ [((((toU a.2.1) ^^^ 9223372036854775808) / 2 ^ 0) % 256)])), .blk b2 (.cells #[.int .i64 a.1, .int .i64 a.2.1, .string (bs a.2.2)] 32)] _) => ?_)
    clear hS123o
    refine hK _ _ ?_; clear hK K
    refine l_q rfl rfl (q_assignS rfl) ?_
    refine l_nil ?_
    refine hK122 _ _ ?_
    refine wp_region_lit ?_
    refine l_q rfl rfl (q_moveI rfl) ?_
    refine l_q rfl rfl (q_subx rfl rfl (by first | decide | omega) (by first | decide | omega)) ?_
    refine l_q rfl rfl (q_assignI rfl) ?_
    refine l_nil ?_
    refine c_round ?_
    refine wp_seq_k (fun K125 hK125 => ?_)
    refine wp_seq_k (fun K126 hK126 => ?_)
    refine wp_region_lit ?_
    refine l_q rfl rfl (q_moveI rfl) ?_
    refine l_q rfl rfl (q_geq rfl rfl) ?_
    refine l_nil ?_
    refine hK126 _ _ ?_
    refine c_condF rfl (by decide) ?_
    refine wp_exit ?_
    refine hK5 _ _ ?_
    refine wp_seq_k (fun K128 hK128 => ?_)
    refine wp_region_lit ?_
    refine l_q rfl rfl (q_moveS rfl) ?_
    refine l_q rfl rfl (q_assignS rfl) ?_
    refine l_nil ?_
    refine hK128 _ _ ?_
    refine wp_ret ?_
    refine c_ret1 rfl rfl ?_
    have hS129 := hS124.fr8; clear hS124
    have hS130 : St _ _ [.ow 5 1 ad124 9 cp124 (bv (((((((([(a.1.toNat % 256)] ++ [((((toU a.2.1) ^^^ 9223372036854775808) / 2 ^ 56) % 256)]) ++ [((((toU a.2.1) ^^^ 9223372036854775808) / 2 ^ 48) % 256)]) ++ [((((toU a.2.1) ^^^ 9223372036854775808) / 2 ^ 40) % 256)]) ++ [((((toU a.2.1) ^^^ 9223372036854775808) / 2 ^ 32) % 256)]) ++ [((((toU a.2.1) ^^^ 9223372036854775808) / 2 ^ 24) % 256)]) ++ [((((toU a.2.1) ^^^ 9223372036854775808) / 2 ^ 16) % 256)]) ++ [((((toU a.2.1) ^^^ 9223372036854775808) / 2 ^ 8) % 256)]) ++ [((((toU a.2.1) ^^^ 9223372036854775808) / 2 ^ 0) % 256)]))] _ := hS129.only 1; clear hS129
    have he : encV a = (((((((([(a.1.toNat % 256)] ++ [((((toU a.2.1) ^^^ 9223372036854775808) / 2 ^ 56) % 256)]) ++ [((((toU a.2.1) ^^^ 9223372036854775808) / 2 ^ 48) % 256)]) ++ [((((toU a.2.1) ^^^ 9223372036854775808) / 2 ^ 40) % 256)]) ++ [((((toU a.2.1) ^^^ 9223372036854775808) / 2 ^ 32) % 256)]) ++ [((((toU a.2.1) ^^^ 9223372036854775808) / 2 ^ 24) % 256)]) ++ [((((toU a.2.1) ^^^ 9223372036854775808) / 2 ^ 16) % 256)]) ++ [((((toU a.2.1) ^^^ 9223372036854775808) / 2 ^ 8) % 256)]) ++ [((((toU a.2.1) ^^^ 9223372036854775808) / 2 ^ 0) % 256)]) := by rw [encV, encB2 (.inr (by omega))]; try simp [be8, bia, xor_top htu]
    exact ⟨_, _, rfl, ⟨_, _, congrArg (fun n : Nat => Value.slice ad124 n cp124) (show 9 = (encV a).length from by rw [he] <;> first | rfl | simp), by rw [he] <;> first | rfl | simp⟩, hS130⟩
   ·
    have hc74b := hc74
    try simp only [decide_eq_true_eq, decide_eq_false_iff_not, Bool.not_eq_true', Bool.not_eq_false', Bool.and_eq_true, Bool.or_eq_true, Int.not_lt, Int.not_le, ne_eq, Decidable.not_not] at hc74
    refine wp_seq_k (fun K131 hK131 => ?_)
    refine wp_seq_k (fun K132 hK132 => ?_)
    refine wp_region_lit ?_
    refine l_q rfl rfl (q_eql rfl rfl) ?_
    refine l_q rfl rfl (q_assignB rfl) ?_
    refine l_nil ?_
    refine hK132 _ _ ?_
    refine c_cond rfl (fun hc133 => ?_) (fun hc133 => ?_)
    ·
     have hc133b := hc133
     try simp only [decide_eq_true_eq, decide_eq_false_iff_not, Bool.not_eq_true', Bool.not_eq_false', Bool.and_eq_true, Bool.or_eq_true, Int.not_lt, Int.not_le, ne_eq, Decidable.not_not] at hc133
     refine wp_skip ?_
     refine hK131 _ _ ?_
     refine c_condT rfl hc133b ?_
     refine wp_seq_k (fun K135 hK135 => ?_)
     refine wp_seq_k (fun K136 hK136 => ?_)
     refine wp_region_lit ?_
     refine l_q rfl rfl (q_assignI rfl) ?_
     refine l_nil ?_
     refine hK136 _ _ ?_
     refine wp_block ?_
     have hz0 : ([(a.1.toNat % 256)] ++ esc (a.2.2.take 0)) = [(a.1.toNat % 256)] := by simp [esc]
     have hS138 : St _ _ [.ow 5 1 (some ⟨b4, 0, none⟩) (([(a.1.toNat % 256)] ++ esc (a.2.2.take 0)).length) 1 (bv ([(a.1.toNat % 256)] ++ esc (a.2.2.take 0))), .blk b2 (.cells #[.int .i64 a.1, .int .i64 a.2.1, .string (bs a.2.2)] 32)] _ := hS4o.cast (by rw [hz0]; rfl); clear hS4o
     refine c_loop (τ := Nat × (Option Addr) × Nat) [(3, 3), (6, 6), (43, 64)] (fun x => (fun (i : Nat) (oa : Option Addr) (oc : Nat) => [(6, .int .i64 ((i : Nat) : Int)), (3, .slice oa (([(a.1.toNat % 256)] ++ esc (a.2.2.take i)).length) oc)]) x.1 x.2.1 x.2.2) (fun x w' => (fun (i : Nat) (oa : Option Addr) (oc : Nat) => St w (fun _ => False) [.ow 5 1 oa (([(a.1.toNat % 256)] ++ esc (a.2.2.take i)).length) oc (bv ([(a.1.toNat % 256)] ++ esc (a.2.2.take i))), .blk b2 (.cells #[.int .i64 a.1, .int .i64 a.2.1, .string (bs a.2.2)] 32)] w' ∧ i ≤ a.2.2.length) x.1 x.2.1 x.2.2) (fun x => (fun (i : Nat) (oa : Option Addr) (oc : Nat) => a.2.2.length - i) x.1 x.2.1 x.2.2) (⟨0, (some ⟨b4, 0, none⟩), 1⟩) ?_ (by refine ⟨rfl, ⟨by rw [hz0]; rfl, trivial⟩⟩) (fun x139 j139 w139 hJ139 K139 hK139 => ?_)
     ·
      exact ⟨hS138, Nat.zero_le _⟩
     ·
      obtain ⟨i, oa, oc⟩ := x139
      obtain ⟨hS139, hi⟩ := hJ139
      try dsimp only at hS139 hi ⊢
      have hel0 := esc_len (a.2.2.take i)
      have hct0 := List.count_le_length (a := 0) (l := a.2.2.take i)
      have htk0 := List.length_take (i := i) (l := a.2.2)
      refine wp_seq_k (fun K140 hK140 => ?_)
      refine wp_seq_k (fun K141 hK141 => ?_)
      refine wp_region_lit ?_
      refine l_q rfl rfl (q_moveI rfl) ?_
      refine l_q rfl rfl (q_fieldAddr (ft := 9) (o := 2) rfl (by kernel_rfl)) ?_
      refine l_q rfl rfl (q_load1 rfl (by kernel_rfl) (hS139.cell (i := 1) rfl rfl)) ?_
      refine l_q rfl rfl (q_lenStrB (l := a.2.2) rfl (by kernel_rfl)) ?_
      refine l_q rfl rfl (q_lss rfl rfl) ?_
      refine l_nil ?_
      refine hK141 _ _ ?_
      refine c_cond rfl (fun hc142 => ?_) (fun hc142 => ?_)
      ·
       have hc142b := hc142
       try simp only [decide_eq_true_eq, decide_eq_false_iff_not, Bool.not_eq_true', Bool.not_eq_false', Bool.and_eq_true, Bool.or_eq_true, Int.not_lt, Int.not_le, ne_eq, Decidable.not_not] at hc142
       refine wp_skip ?_
       refine hK140 _ _ ?_
       refine wp_seq_k (fun K143 hK143 => ?_)
       refine wp_block ?_
       refine wp_seq_k (fun K144 hK144 => ?_)
       refine wp_region_lit ?_
       refine l_q rfl rfl (q_moveS rfl) ?_
       refine l_q rfl rfl (q_fieldAddr (ft := 9) (o := 2) rfl (by kernel_rfl)) ?_
       refine l_q rfl rfl (q_load1 rfl (by kernel_rfl) (hS139.cell (i := 1) rfl rfl)) ?_
       refine l_q rfl rfl (q_moveI rfl) ?_
       obtain ⟨x145, hx145⟩ : ∃ x, (a.2.2)[i]? = some x := ⟨_, List.getElem?_eq_getElem (by first | omega | (simp only [lls] <;> omega) | (simp <;> omega))⟩
       have hb145 : x145 < 256 := h.1 x145 (List.mem_of_getElem? hx145)
       refine l_q rfl rfl (q_strAt (l := a.2.2) (i := i) (b := x145) rfl rfl (by kernel_rfl) (by first | rfl | omega) (hx145) (by omega)) ?_
       refine l_e rfl (fun K hK => ?_)
       refine e_buildSlice1 (e := 5) (zv := .int .u8 0) (xs := [.tmp 54]) hS139 (by kernel_rfl) (by kernel_rfl) (by kernel_rfl) rfl rfl rfl rfl (allone (by repeat' (first | exact trivial | refine ⟨by first | rfl | assumption, ?_⟩))) rfl (fun b146 w146 (hS146 : St _ _ [.blk b146 (.cells #[.int .u8 ((x145 : Nat) : Int)] 5), .ow 5 1 oa (([(a.1.toNat % 256)] ++ esc (a.2.2.take i)).length) oc (bv ([(a.1.toNat % 256)] ++ esc (a.2.2.take i))), .blk b2 (.cells #[.int .i64 a.1, .int .i64 a.2.1, .string (bs a.2.2)] 32)] _) => ?_)
       clear hS139
       have hB146 : Bytes [x145] := by intro q hq; simp only [List.mem_cons, List.not_mem_nil, or_false] at hq; omega
       have hS146o : St _ _ [.ow 5 1 (some ⟨b146, 0, none⟩) 1 1 (bv [x145]), .ow 5 1 oa (([(a.1.toNat % 256)] ++ esc (a.2.2.take i)).length) oc (bv ([(a.1.toNat % 256)] ++ esc (a.2.2.take i))), .blk b2 (.cells #[.int .i64 a.1, .int .i64 a.2.1, .string (bs a.2.2)] 32)] _ := hS146.blkOw' (i := 0) (m := 1) (size := 1) (xs := bv [x145]) rfl rfl rfl (by decide); clear hS146
       refine hK _ _ ?_; clear hK K
       refine l_e rfl (fun K hK => ?_)
       have hB147 : Bytes (([(a.1.toNat % 256)] ++ esc (a.2.2.take i)) ++ [x145]) := Bytes.app (hkb.app (esc_bytes h.1.take)) hB146
       refine e_app (e := 5) (size := 1) (bytes := 1) (i := 1) (m' := (([(a.1.toNat % 256)] ++ esc (a.2.2.take i)) ++ [x145]).length) (by kernel_rfl) hS146o rfl rfl rfl (SlG.src (e := 5) (by kernel_rfl) (hS146o.owG (i := 0) rfl) (by first | (simp only [lls, Nat.mul_one]; done) | (simp only [lls]; omega) | rfl | (simp; done)) (by decide) (bv_one _)) (by first | omega | (simp only [lls] <;> omega) | (simp; done)) bv_app (by first | omega | (simp only [maxLen, lls] <;> omega) | (simp only [maxLen]; omega)) (by first | omega | (simp only [lls] <;> omega)) (fun ad147 cp147 w147 (hS147 : St _ _ [.ow 5 1 (some ⟨b146, 0, none⟩) 1 1 (bv [x145]), .ow 5 1 ad147 ((([(a.1.toNat % 256)] ++ esc (a.2.2.take i)) ++ [x145]).length) cp147 (bv (([(a.1.toNat % 256)] ++ esc (a.2.2.take i)) ++ [x145])), .blk b2 (.cells #[.int .i64 a.1, .int .i64 a.2.1, .string (bs a.2.2)] 32)] _) => ?_)
       clear hS146o
       refine hK _ _ ?_; clear hK K
       refine l_q rfl rfl (q_assignS rfl) ?_
       refine l_nil ?_
       refine hK144 _ _ ?_
       refine wp_seq_k (fun K148 hK148 => ?_)
       refine wp_region_lit ?_
       refine l_q rfl rfl (q_fieldAddr (ft := 9) (o := 2) rfl (by kernel_rfl)) ?_
       refine l_q rfl rfl (q_load1 rfl (by kernel_rfl) (hS147.cell (i := 2) rfl rfl)) ?_
       refine l_q rfl rfl (q_moveI rfl) ?_
       refine l_q rfl rfl (q_strAt (l := a.2.2) (i := i) (b := x145) rfl rfl (by kernel_rfl) (by first | rfl | omega) (hx145) (by omega)) ?_
       refine l_q rfl rfl (q_eql rfl rfl) ?_
       refine l_nil ?_
       refine hK148 _ _ ?_
       refine c_cond rfl (fun hc149 => ?_) (fun hc149 => ?_)
       ·
        have hc149b := hc149
        try simp only [decide_eq_true_eq, decide_eq_false_iff_not, Bool.not_eq_true', Bool.not_eq_false', Bool.and_eq_true, Bool.or_eq_true, Int.not_lt, Int.not_le, ne_eq, Decidable.not_not] at hc149
        refine wp_region_lit ?_
        refine l_q rfl rfl (q_moveS rfl) ?_
        refine l_e rfl (fun K hK => ?_)
        refine e_buildSlice1 (e := 5) (zv := .int .u8 0) (xs := [_]) hS147 (by kernel_rfl) (by kernel_rfl) (by kernel_rfl) rfl rfl rfl rfl (allone (by repeat' (first | exact trivial | refine ⟨by first | rfl | assumption, ?_⟩))) rfl (fun b150 w150 (hS150 : St _ _ [.blk b150 (.cells #[.int .u8 (255 : Int)] 5), .ow 5 1 (some ⟨b146, 0, none⟩) 1 1 (bv [x145]), .ow 5 1 ad147 ((([(a.1.toNat % 256)] ++ esc (a.2.2.take i)) ++ [x145]).length) cp147 (bv (([(a.1.toNat % 256)] ++ esc (a.2.2.take i)) ++ [x145])), .blk b2 (.cells #[.int .i64 a.1, .int .i64 a.2.1, .string (bs a.2.2)] 32)] _) => ?_)
        clear hS147
        have hB150 : Bytes [255] := by intro q hq; simp only [List.mem_cons, List.not_mem_nil, or_false] at hq; omega
        have hS150o : St _ _ [.ow 5 1 (some ⟨b150, 0, none⟩) 1 1 (bv [255]), .ow 5 1 (some ⟨b146, 0, none⟩) 1 1 (bv [x145]), .ow 5 1 ad147 ((([(a.1.toNat % 256)] ++ esc (a.2.2.take i)) ++ [x145]).length) cp147 (bv (([(a.1.toNat % 256)] ++ esc (a.2.2.take i)) ++ [x145])), .blk b2 (.cells #[.int .i64 a.1, .int .i64 a.2.1, .string (bs a.2.2)] 32)] _ := hS150.blkOw' (i := 0) (m := 1) (size := 1) (xs := bv [255]) rfl rfl rfl (by decide); clear hS150
        refine hK _ _ ?_; clear hK K
        refine l_e rfl (fun K hK => ?_)
        have hB151 : Bytes ((([(a.1.toNat % 256)] ++ esc (a.2.2.take i)) ++ [x145]) ++ [255]) := Bytes.app hB147 hB150
        refine e_app (e := 5) (size := 1) (bytes := 1) (i := 2) (m' := ((([(a.1.toNat % 256)] ++ esc (a.2.2.take i)) ++ [x145]) ++ [255]).length) (by kernel_rfl) hS150o rfl rfl rfl (SlG.src (e := 5) (by kernel_rfl) (hS150o.owG (i := 0) rfl) (by first | (simp only [lls, Nat.mul_one]; done) | (simp only [lls]; omega) | rfl | (simp; done)) (by decide) (bv_one _)) (by first | omega | (simp only [lls] <;> omega) | (simp; done)) bv_app (by first | omega | (simp only [maxLen, lls] <;> omega) | (simp only [maxLen]; omega)) (by first | omega | (simp only [lls] <;> omega)) (fun ad151 cp151 w151 (hS151 : St _ _ [.ow 5 1 (some ⟨b150, 0, none⟩) 1 1 (bv [255]), .ow 5 1 (some ⟨b146, 0, none⟩) 1 1 (bv [x145]), .ow 5 1 ad151 (((([(a.1.toNat % 256)] ++ esc (a.2.2.take i)) ++ [x145]) ++ [255]).length) cp151 (bv ((([(a.1.toNat % 256)] ++ esc (a.2.2.take i)) ++ [x145]) ++ [255])), .blk b2 (.cells #[.int .i64 a.1, .int .i64 a.2.1, .string (bs a.2.2)] 32)] _) => ?_)
        clear hS150o
        refine hK _ _ ?_; clear hK K
        refine l_q rfl rfl (q_assignS rfl) ?_
        refine l_nil ?_
        refine hK143 _ _ ?_
        refine wp_region_lit ?_
        refine l_q rfl rfl (q_moveI rfl) ?_
        refine l_q rfl rfl (q_addx rfl rfl (by first | decide | omega) (by first | decide | omega)) ?_
        refine l_q rfl rfl (q_assignI rfl) ?_
        refine l_nil ?_
        have hnew : ([(a.1.toNat % 256)] ++ esc (a.2.2.take (i + 1))) = ((([(a.1.toNat % 256)] ++ esc (a.2.2.take i)) ++ [x145]) ++ [255]) := by rw [esc_take hx145, if_pos (by omega)]; simp <;> omega
        have hS152 : St _ _ [.ow 5 1 (some ⟨b150, 0, none⟩) 1 1 (bv [255]), .ow 5 1 (some ⟨b146, 0, none⟩) 1 1 (bv [x145]), .ow 5 1 ad151 (([(a.1.toNat % 256)] ++ esc (a.2.2.take (i + 1))).length) cp151 (bv ([(a.1.toNat % 256)] ++ esc (a.2.2.take (i + 1)))), .blk b2 (.cells #[.int .i64 a.1, .int .i64 a.2.1, .string (bs a.2.2)] 32)] _ := hS151.cast (by rw [hnew]); clear hS151
        have hS153 := hS152.fr3; clear hS152
        have hS154 := hS153.fr3; clear hS153
        have hS155 : St _ _ [.ow 5 1 ad151 (([(a.1.toNat % 256)] ++ esc (a.2.2.take (i + 1))).length) cp151 (bv ([(a.1.toNat % 256)] ++ esc (a.2.2.take (i + 1)))), .blk b2 (.cells #[.int .i64 a.1, .int .i64 a.2.1, .string (bs a.2.2)] 32)] _ := hS154.only 2; clear hS154
        refine hK139 _ _ (came (⟨(i + 1), ad151, cp151⟩) (by repeat' (first | exact Agree.refl _ _ | refine Agree.up ?_ rfl | refine Agree.hav2 ?_ rfl | refine Agree.ups2 ?_ rfl)) (by repeat' (first | exact trivial | refine ⟨by first | rfl | exact int_succ _ | (rw [hnew]; rfl), ?_⟩)) ?_)
        exact ⟨⟨hS155, (by show i + 1 ≤ a.2.2.length; omega)⟩, by (show a.2.2.length - (i + 1) < a.2.2.length - i); omega⟩
       ·
        have hc149b := hc149
        try simp only [decide_eq_true_eq, decide_eq_false_iff_not, Bool.not_eq_true', Bool.not_eq_false', Bool.and_eq_true, Bool.or_eq_true, Int.not_lt, Int.not_le, ne_eq, Decidable.not_not] at hc149
        refine wp_skip ?_
        refine hK143 _ _ ?_
        refine wp_region_lit ?_
        refine l_q rfl rfl (q_moveI rfl) ?_
        refine l_q rfl rfl (q_addx rfl rfl (by first | decide | omega) (by first | decide | omega)) ?_
        refine l_q rfl rfl (q_assignI rfl) ?_
        refine l_nil ?_
        have hnew : ([(a.1.toNat % 256)] ++ esc (a.2.2.take (i + 1))) = (([(a.1.toNat % 256)] ++ esc (a.2.2.take i)) ++ [x145]) := by rw [esc_take hx145, if_neg (by omega)]; simp <;> omega
        have hS156 : St _ _ [.ow 5 1 (some ⟨b146, 0, none⟩) 1 1 (bv [x145]), .ow 5 1 ad147 (([(a.1.toNat % 256)] ++ esc (a.2.2.take (i + 1))).length) cp147 (bv ([(a.1.toNat % 256)] ++ esc (a.2.2.take (i + 1)))), .blk b2 (.cells #[.int .i64 a.1, .int .i64 a.2.1, .string (bs a.2.2)] 32)] _ := hS147.cast (by rw [hnew]); clear hS147
        have hS157 := hS156.fr2; clear hS156
        have hS158 := hS157.fr2; clear hS157
        have hS159 : St _ _ [.ow 5 1 ad147 (([(a.1.toNat % 256)] ++ esc (a.2.2.take (i + 1))).length) cp147 (bv ([(a.1.toNat % 256)] ++ esc (a.2.2.take (i + 1)))), .blk b2 (.cells #[.int .i64 a.1, .int .i64 a.2.1, .string (bs a.2.2)] 32)] _ := hS158.only 2; clear hS158
        refine hK139 _ _ (came (⟨(i + 1), ad147, cp147⟩) (by repeat' (first | exact Agree.refl _ _ | refine Agree.up ?_ rfl | refine Agree.hav2 ?_ rfl | refine Agree.ups2 ?_ rfl)) (by repeat' (first | exact trivial | refine ⟨by first | rfl | exact int_succ _ | (rw [hnew]; rfl), ?_⟩)) ?_)
        exact ⟨⟨hS159, (by show i + 1 ≤ a.2.2.length; omega)⟩, by (show a.2.2.length - (i + 1) < a.2.2.length - i); omega⟩
      ·
       have hc142b := hc142
       try simp only [decide_eq_true_eq, decide_eq_false_iff_not, Bool.not_eq_true', Bool.not_eq_false', Bool.and_eq_true, Bool.or_eq_true, Int.not_lt, Int.not_le, ne_eq, Decidable.not_not] at hc142
       refine wp_exit ?_
       refine hK135 _ _ ?_
       refine wp_region_lit ?_
       refine l_q rfl rfl (q_moveS rfl) ?_
       refine l_e rfl (fun K hK => ?_)
       refine e_buildSlice1 (e := 5) (zv := .int .u8 0) (xs := [_, _]) hS139 (by kernel_rfl) (by kernel_rfl) (by kernel_rfl) rfl rfl rfl rfl (allone (by repeat' (first | exact trivial | refine ⟨by first | rfl | assumption, ?_⟩))) rfl (fun b160 w160 (hS160 : St _ _ [.blk b160 (.cells #[.int .u8 (0 : Int), .int .u8 (1 : Int)] 5), .ow 5 1 oa (([(a.1.toNat % 256)] ++ esc (a.2.2.take i)).length) oc (bv ([(a.1.toNat % 256)] ++ esc (a.2.2.take i))), .blk b2 (.cells #[.int .i64 a.1, .int .i64 a.2.1, .string (bs a.2.2)] 32)] _) => ?_)
       clear hS139
       have hB160 : Bytes [0, 1] := by intro q hq; simp only [List.mem_cons, List.not_mem_nil, or_false] at hq; omega
       have hS160o : St _ _ [.ow 5 1 (some ⟨b160, 0, none⟩) 2 2 (bv [0, 1]), .ow 5 1 oa (([(a.1.toNat % 256)] ++ esc (a.2.2.take i)).length) oc (bv ([(a.1.toNat % 256)] ++ esc (a.2.2.take i))), .blk b2 (.cells #[.int .i64 a.1, .int .i64 a.2.1, .string (bs a.2.2)] 32)] _ := hS160.blkOw' (i := 0) (m := 2) (size := 1) (xs := bv [0, 1]) rfl rfl rfl (by decide); clear hS160
       refine hK _ _ ?_; clear hK K
       refine l_e rfl (fun K hK => ?_)
       have hB161 : Bytes (([(a.1.toNat % 256)] ++ esc (a.2.2.take i)) ++ [0, 1]) := Bytes.app (hkb.app (esc_bytes h.1.take)) hB160
       refine e_app (e := 5) (size := 1) (bytes := 1) (i := 1) (m' := (([(a.1.toNat % 256)] ++ esc (a.2.2.take i)) ++ [0, 1]).length) (by kernel_rfl) hS160o rfl rfl rfl (SlG.src (e := 5) (by kernel_rfl) (hS160o.owG (i := 0) rfl) (by first | (simp only [lls, Nat.mul_one]; done) | (simp only [lls]; omega) | rfl | (simp; done)) (by decide) (bv_one _)) (by first | omega | (simp only [lls] <;> omega) | (simp; done)) bv_app (by first | omega | (simp only [maxLen, lls] <;> omega) | (simp only [maxLen]; omega)) (by first | omega | (simp only [lls] <;> omega)) (fun ad161 cp161 w161 (hS161 : St _ _ [.ow 5 1 (some ⟨b160, 0, none⟩) 2 2 (bv [0, 1]), .ow 5 1 ad161 ((([(a.1.toNat % 256)] ++ esc (a.2.2.take i)) ++ [0, 1]).length) cp161 (bv (([(a.1.toNat % 256)] ++ esc (a.2.2.take i)) ++ [0, 1])), .blk b2 (.cells #[.int .i64 a.1, .int .i64 a.2.1, .string (bs a.2.2)] 32)] _) => ?_)
       clear hS160o
       refine hK _ _ ?_; clear hK K
       refine l_q rfl rfl (q_assignS rfl) ?_
       refine l_nil ?_
       refine hK5 _ _ ?_
       refine wp_seq_k (fun K162 hK162 => ?_)
       refine wp_region_lit ?_
       refine l_q rfl rfl (q_moveS rfl) ?_
       refine l_q rfl rfl (q_assignS rfl) ?_
       refine l_nil ?_
       refine hK162 _ _ ?_
       refine wp_ret ?_
       refine c_ret1 rfl rfl ?_
       have hS163 := hS161.fr1; clear hS161
       have hS164 : St _ _ [.ow 5 1 ad161 ((([(a.1.toNat % 256)] ++ esc (a.2.2.take i)) ++ [0, 1]).length) cp161 (bv (([(a.1.toNat % 256)] ++ esc (a.2.2.take i)) ++ [0, 1]))] _ := hS163.only 1; clear hS163
       have hti : a.2.2.take i = a.2.2 := List.take_of_length_le (by omega)
       have he : encV a = (([(a.1.toNat % 256)] ++ esc (a.2.2.take i)) ++ [0, 1]) := by rw [encV, encB4 (.inl (by omega)), hti]; simp
       exact ⟨_, _, rfl, ⟨_, _, congrArg (fun n : Nat => Value.slice ad161 n cp161) (show (([(a.1.toNat % 256)] ++ esc (a.2.2.take i)) ++ [0, 1]).length = (encV a).length from by rw [he] <;> first | rfl | simp), by rw [he] <;> first | rfl | simp⟩, hS164⟩
    ·
     have hc133b := hc133
     try simp only [decide_eq_true_eq, decide_eq_false_iff_not, Bool.not_eq_true', Bool.not_eq_false', Bool.and_eq_true, Bool.or_eq_true, Int.not_lt, Int.not_le, ne_eq, Decidable.not_not] at hc133
     refine wp_region_lit ?_
     refine l_q rfl rfl (q_eql rfl rfl) ?_
     refine l_q rfl rfl (q_assignB rfl) ?_
     refine l_nil ?_
     refine hK131 _ _ ?_
     refine c_cond rfl (fun hc165 => ?_) (fun hc165 => ?_)
     ·
      have hc165b := hc165
      try simp only [decide_eq_true_eq, decide_eq_false_iff_not, Bool.not_eq_true', Bool.not_eq_false', Bool.and_eq_true, Bool.or_eq_true, Int.not_lt, Int.not_le, ne_eq, Decidable.not_not] at hc165
      refine wp_seq_k (fun K166 hK166 => ?_)
      refine wp_seq_k (fun K167 hK167 => ?_)
      refine wp_region_lit ?_
      refine l_q rfl rfl (q_assignI rfl) ?_
      refine l_nil ?_
      refine hK167 _ _ ?_
      refine wp_block ?_
      have hz0 : ([(a.1.toNat % 256)] ++ esc (a.2.2.take 0)) = [(a.1.toNat % 256)] := by simp [esc]
      have hS169 : St _ _ [.ow 5 1 (some ⟨b4, 0, none⟩) (([(a.1.toNat % 256)] ++ esc (a.2.2.take 0)).length) 1 (bv ([(a.1.toNat % 256)] ++ esc (a.2.2.take 0))), .blk b2 (.cells #[.int .i64 a.1, .int .i64 a.2.1, .string (bs a.2.2)] 32)] _ := hS4o.cast (by rw [hz0]; rfl); clear hS4o
      refine c_loop (τ := Nat × (Option Addr) × Nat) [(3, 3), (6, 6), (43, 64)] (fun x => (fun (i : Nat) (oa : Option Addr) (oc : Nat) => [(6, .int .i64 ((i : Nat) : Int)), (3, .slice oa (([(a.1.toNat % 256)] ++ esc (a.2.2.take i)).length) oc)]) x.1 x.2.1 x.2.2) (fun x w' => (fun (i : Nat) (oa : Option Addr) (oc : Nat) => St w (fun _ => False) [.ow 5 1 oa (([(a.1.toNat % 256)] ++ esc (a.2.2.take i)).length) oc (bv ([(a.1.toNat % 256)] ++ esc (a.2.2.take i))), .blk b2 (.cells #[.int .i64 a.1, .int .i64 a.2.1, .string (bs a.2.2)] 32)] w' ∧ i ≤ a.2.2.length) x.1 x.2.1 x.2.2) (fun x => (fun (i : Nat) (oa : Option Addr) (oc : Nat) => a.2.2.length - i) x.1 x.2.1 x.2.2) (⟨0, (some ⟨b4, 0, none⟩), 1⟩) ?_ (by refine ⟨rfl, ⟨by rw [hz0]; rfl, trivial⟩⟩) (fun x170 j170 w170 hJ170 K170 hK170 => ?_)
      ·
       exact ⟨hS169, Nat.zero_le _⟩
      ·
       obtain ⟨i, oa, oc⟩ := x170
       obtain ⟨hS170, hi⟩ := hJ170
       try dsimp only at hS170 hi ⊢
       have hel0 := esc_len (a.2.2.take i)
       have hct0 := List.count_le_length (a := 0) (l := a.2.2.take i)
       have htk0 := List.length_take (i := i) (l := a.2.2)
       refine wp_seq_k (fun K171 hK171 => ?_)
       refine wp_seq_k (fun K172 hK172 => ?_)
       refine wp_region_lit ?_
       refine l_q rfl rfl (q_moveI rfl) ?_
       refine l_q rfl rfl (q_fieldAddr (ft := 9) (o := 2) rfl (by kernel_rfl)) ?_
       refine l_q rfl rfl (q_load1 rfl (by kernel_rfl) (hS170.cell (i := 1) rfl rfl)) ?_
       refine l_q rfl rfl (q_lenStrB (l := a.2.2) rfl (by kernel_rfl)) ?_
       refine l_q rfl rfl (q_lss rfl rfl) ?_
       refine l_nil ?_
       refine hK172 _ _ ?_
       refine c_cond rfl (fun hc173 => ?_) (fun hc173 => ?_)
       ·
        have hc173b := hc173
        try simp only [decide_eq_true_eq, decide_eq_false_iff_not, Bool.not_eq_true', Bool.not_eq_false', Bool.and_eq_true, Bool.or_eq_true, Int.not_lt, Int.not_le, ne_eq, Decidable.not_not] at hc173
        refine wp_skip ?_
        refine hK171 _ _ ?_
        refine wp_seq_k (fun K174 hK174 => ?_)
        refine wp_block ?_
        refine wp_seq_k (fun K175 hK175 => ?_)
        refine wp_region_lit ?_
        refine l_q rfl rfl (q_moveS rfl) ?_
        refine l_q rfl rfl (q_fieldAddr (ft := 9) (o := 2) rfl (by kernel_rfl)) ?_
        refine l_q rfl rfl (q_load1 rfl (by kernel_rfl) (hS170.cell (i := 1) rfl rfl)) ?_
        refine l_q rfl rfl (q_moveI rfl) ?_
        obtain ⟨x176, hx176⟩ : ∃ x, (a.2.2)[i]? = some x := ⟨_, List.getElem?_eq_getElem (by first | omega | (simp only [lls] <;> omega) | (simp <;> omega))⟩
        have hb176 : x176 < 256 := h.1 x176 (List.mem_of_getElem? hx176)
        refine l_q rfl rfl (q_strAt (l := a.2.2) (i := i) (b := x176) rfl rfl (by kernel_rfl) (by first | rfl | omega) (hx176) (by omega)) ?_
        refine l_e rfl (fun K hK => ?_)
        refine e_buildSlice1 (e := 5) (zv := .int .u8 0) (xs := [.tmp 54]) hS170 (by kernel_rfl) (by kernel_rfl) (by kernel_rfl) rfl rfl rfl rfl (allone (by repeat' (first | exact trivial | refine ⟨by first | rfl | assumption, ?_⟩))) rfl (fun b177 w177 (hS177 : St _ _ [.blk b177 (.cells #[.int .u8 ((x176 : Nat) : Int)] 5), .ow 5 1 oa (([(a.1.toNat % 256)] ++ esc (a.2.2.take i)).length) oc (bv ([(a.1.toNat % 256)] ++ esc (a.2.2.take i))), .blk b2 (.cells #[.int .i64 a.1, .int .i64 a.2.1, .string (bs a.2.2)] 32)] _) => ?_)
        clear hS170
        have hB177 : Bytes [x176] := by intro q hq; simp only [List.mem_cons, List.not_mem_nil, or_false] at hq; omega
        have hS177o : St _ _ [.ow 5 1 (some ⟨b177, 0, none⟩) 1 1 (bv [x176]), .ow 5 1 oa (([(a.1.toNat % 256)] ++ esc (a.2.2.take i)).length) oc (bv ([(a.1.toNat % 256)] ++ esc (a.2.2.take i))), .blk b2 (.cells #[.int .i64 a.1, .int .i64 a.2.1, .string (bs a.2.2)] 32)] _ := hS177.blkOw' (i := 0) (m := 1) (size := 1) (xs := bv [x176]) rfl rfl rfl (by decide); clear hS177
        refine hK _ _ ?_; clear hK K
        refine l_e rfl (fun K hK => ?_)
        have hB178 : Bytes (([(a.1.toNat % 256)] ++ esc (a.2.2.take i)) ++ [x176]) := Bytes.app (hkb.app (esc_bytes h.1.take)) hB177
        refine e_app (e := 5) (size := 1) (bytes := 1) (i := 1) (m' := (([(a.1.toNat % 256)] ++ esc (a.2.2.take i)) ++ [x176]).length) (by kernel_rfl) hS177o rfl rfl rfl (SlG.src (e := 5) (by kernel_rfl) (hS177o.owG (i := 0) rfl) (by first | (simp only [lls, Nat.mul_one]; done) | (simp only [lls]; omega) | rfl | (simp; done)) (by decide) (bv_one _)) (by first | omega | (simp only [lls] <;> omega) | (simp; done)) bv_app (by first | omega | (simp only [maxLen, lls] <;> omega) | (simp only [maxLen]; omega)) (by first | omega | (simp only [lls] <;> omega)) (fun ad178 cp178 w178 (hS178 : St _ _ [.ow 5 1 (some ⟨b177, 0, none⟩) 1 1 (bv [x176]), .ow 5 1 ad178 ((([(a.1.toNat % 256)] ++ esc (a.2.2.take i)) ++ [x176]).length) cp178 (bv (([(a.1.toNat % 256)] ++ esc (a.2.2.take i)) ++ [x176])), .blk b2 (.cells #[.int .i64 a.1, .int .i64 a.2.1, .string (bs a.2.2)] 32)] _) => ?_)
        clear hS177o
        refine hK _ _ ?_; clear hK K
        refine l_q rfl rfl (q_assignS rfl) ?_
        refine l_nil ?_
        refine hK175 _ _ ?_
        refine wp_seq_k (fun K179 hK179 => ?_)
        refine wp_region_lit ?_
        refine l_q rfl rfl (q_fieldAddr (ft := 9) (o := 2) rfl (by kernel_rfl)) ?_
        refine l_q rfl rfl (q_load1 rfl (by kernel_rfl) (hS178.cell (i := 2) rfl rfl)) ?_
        refine l_q rfl rfl (q_moveI rfl) ?_
        refine l_q rfl rfl (q_strAt (l := a.2.2) (i := i) (b := x176) rfl rfl (by kernel_rfl) (by first | rfl | omega) (hx176) (by omega)) ?_
        refine l_q rfl rfl (q_eql rfl rfl) ?_
        refine l_nil ?_
        refine hK179 _ _ ?_
        refine c_cond rfl (fun hc180 => ?_) (fun hc180 => ?_)
        ·
         have hc180b := hc180
         try simp only [decide_eq_true_eq, decide_eq_false_iff_not, Bool.not_eq_true', Bool.not_eq_false', Bool.and_eq_true, Bool.or_eq_true, Int.not_lt, Int.not_le, ne_eq, Decidable.not_not] at hc180
         refine wp_region_lit ?_
         refine l_q rfl rfl (q_moveS rfl) ?_
         refine l_e rfl (fun K hK => ?_)
         refine e_buildSlice1 (e := 5) (zv := .int .u8 0) (xs := [_]) hS178 (by kernel_rfl) (by kernel_rfl) (by kernel_rfl) rfl rfl rfl rfl (allone (by repeat' (first | exact trivial | refine ⟨by first | rfl | assumption, ?_⟩))) rfl (fun b181 w181 (hS181 : St _ _ [.blk b181 (.cells #[.int .u8 (255 : Int)] 5), .ow 5 1 (some ⟨b177, 0, none⟩) 1 1 (bv [x176]), .ow 5 1 ad178 ((([(a.1.toNat % 256)] ++ esc (a.2.2.take i)) ++ [x176]).length) cp178 (bv (([(a.1.toNat % 256)] ++ esc (a.2.2.take i)) ++ [x176])), .blk b2 (.cells #[.int .i64 a.1, .int .i64 a.2.1, .string (bs a.2.2)] 32)] _) => ?_)
         clear hS178
         have hB181 : Bytes [255] := by intro q hq; simp only [List.mem_cons, List.not_mem_nil, or_false] at hq; omega
         have hS181o : St _ _ [.ow 5 1 (some ⟨b181, 0, none⟩) 1 1 (bv [255]), .ow 5 1 (some ⟨b177, 0, none⟩) 1 1 (bv [x176]), .ow 5 1 ad178 ((([(a.1.toNat % 256)] ++ esc (a.2.2.take i)) ++ [x176]).length) cp178 (bv (([(a.1.toNat % 256)] ++ esc (a.2.2.take i)) ++ [x176])), .blk b2 (.cells #[.int .i64 a.1, .int .i64 a.2.1, .string (bs a.2.2)] 32)] _ := hS181.blkOw' (i := 0) (m := 1) (size := 1) (xs := bv [255]) rfl rfl rfl (by decide); clear hS181
         refine hK _ _ ?_; clear hK K
         refine l_e rfl (fun K hK => ?_)
         have hB182 : Bytes ((([(a.1.toNat % 256)] ++ esc (a.2.2.take i)) ++ [x176]) ++ [255]) := Bytes.app hB178 hB181
         refine e_app (e := 5) (size := 1) (bytes := 1) (i := 2) (m' := ((([(a.1.toNat % 256)] ++ esc (a.2.2.take i)) ++ [x176]) ++ [255]).length) (by kernel_rfl) hS181o rfl rfl rfl (SlG.src (e := 5) (by kernel_rfl) (hS181o.owG (i := 0) rfl) (by first | (simp only [lls, Nat.mul_one]; done) | (simp only [lls]; omega) | rfl | (simp; done)) (by decide) (bv_one _)) (by first | omega | (simp only [lls] <;> omega) | (simp; done)) bv_app (by first | omega | (simp only [maxLen, lls] <;> omega) | (simp only [maxLen]; omega)) (by first | omega | (simp only [lls] <;> omega)) (fun ad182 cp182 w182 (hS182 : St _ _ [.ow 5 1 (some ⟨b181, 0, none⟩) 1 1 (bv [255]), .ow 5 1 (some ⟨b177, 0, none⟩) 1 1 (bv [x176]), .ow 5 1 ad182 (((([(a.1.toNat % 256)] ++ esc (a.2.2.take i)) ++ [x176]) ++ [255]).length) cp182 (bv ((([(a.1.toNat % 256)] ++ esc (a.2.2.take i)) ++ [x176]) ++ [255])), .blk b2 (.cells #[.int .i64 a.1, .int .i64 a.2.1, .string (bs a.2.2)] 32)] _) => ?_)
         clear hS181o
         refine hK _ _ ?_; clear hK K
         refine l_q rfl rfl (q_assignS rfl) ?_
         refine l_nil ?_
         refine hK174 _ _ ?_
         refine wp_region_lit ?_
         refine l_q rfl rfl (q_moveI rfl) ?_
         refine l_q rfl rfl (q_addx rfl rfl (by first | decide | omega) (by first | decide | omega)) ?_
         refine l_q rfl rfl (q_assignI rfl) ?_
         refine l_nil ?_
         have hnew : ([(a.1.toNat % 256)] ++ esc (a.2.2.take (i + 1))) = ((([(a.1.toNat % 256)] ++ esc (a.2.2.take i)) ++ [x176]) ++ [255]) := by rw [esc_take hx176, if_pos (by omega)]; simp <;> omega
         have hS183 : St _ _ [.ow 5 1 (some ⟨b181, 0, none⟩) 1 1 (bv [255]), .ow 5 1 (some ⟨b177, 0, none⟩) 1 1 (bv [x176]), .ow 5 1 ad182 (([(a.1.toNat % 256)] ++ esc (a.2.2.take (i + 1))).length) cp182 (bv ([(a.1.toNat % 256)] ++ esc (a.2.2.take (i + 1)))), .blk b2 (.cells #[.int .i64 a.1, .int .i64 a.2.1, .string (bs a.2.2)] 32)] _ := hS182.cast (by rw [hnew]); clear hS182
         have hS184 := hS183.fr3; clear hS183
         have hS185 := hS184.fr3; clear hS184
         have hS186 : St _ _ [.ow 5 1 ad182 (([(a.1.toNat % 256)] ++ esc (a.2.2.take (i + 1))).length) cp182 (bv ([(a.1.toNat % 256)] ++ esc (a.2.2.take (i + 1)))), .blk b2 (.cells #[.int .i64 a.1, .int .i64 a.2.1, .string (bs a.2.2)] 32)] _ := hS185.only 2; clear hS185
         refine hK170 _ _ (came (⟨(i + 1), ad182, cp182⟩) (by repeat' (first | exact Agree.refl _ _ | refine Agree.up ?_ rfl | refine Agree.hav2 ?_ rfl | refine Agree.ups2 ?_ rfl)) (by repeat' (first | exact trivial | refine ⟨by first | rfl | exact int_succ _ | (rw [hnew]; rfl), ?_⟩)) ?_)
         exact ⟨⟨hS186, (by show i + 1 ≤ a.2.2.length; omega)⟩, by (show a.2.2.length - (i + 1) < a.2.2.length - i); omega⟩
        ·
         have hc180b := hc180
         try simp only [decide_eq_true_eq, decide_eq_false_iff_not, Bool.not_eq_true', Bool.not_eq_false', Bool.and_eq_true, Bool.or_eq_true, Int.not_lt, Int.not_le, ne_eq, Decidable.not_not] at hc180
         refine wp_skip ?_
         refine hK174 _ _ ?_
         refine wp_region_lit ?_
         refine l_q rfl rfl (q_moveI rfl) ?_
         refine l_q rfl rfl (q_addx rfl rfl (by first | decide | omega) (by first | decide | omega)) ?_
         refine l_q rfl rfl (q_assignI rfl) ?_
         refine l_nil ?_
         have hnew : ([(a.1.toNat % 256)] ++ esc (a.2.2.take (i + 1))) = (([(a.1.toNat % 256)] ++ esc (a.2.2.take i)) ++ [x176]) := by rw [esc_take hx176, if_neg (by omega)]; simp <;> omega
         have hS187 : St _ _ [.ow 5 1 (some ⟨b177, 0, none⟩) 1 1 (bv [x176]), .ow 5 1 ad178 (([(a.1.toNat % 256)] ++ esc (a.2.2.take (i + 1))).length) cp178 (bv ([(a.1.toNat % 256)] ++ esc (a.2.2.take (i + 1)))), .blk b2 (.cells #[.int .i64 a.1, .int .i64 a.2.1, .string (bs a.2.2)] 32)] _ := hS178.cast (by rw [hnew]); clear hS178
         have hS188 := hS187.fr2; clear hS187
         have hS189 := hS188.fr2; clear hS188
         have hS190 : St _ _ [.ow 5 1 ad178 (([(a.1.toNat % 256)] ++ esc (a.2.2.take (i + 1))).length) cp178 (bv ([(a.1.toNat % 256)] ++ esc (a.2.2.take (i + 1)))), .blk b2 (.cells #[.int .i64 a.1, .int .i64 a.2.1, .string (bs a.2.2)] 32)] _ := hS189.only 2; clear hS189
         refine hK170 _ _ (came (⟨(i + 1), ad178, cp178⟩) (by repeat' (first | exact Agree.refl _ _ | refine Agree.up ?_ rfl | refine Agree.hav2 ?_ rfl | refine Agree.ups2 ?_ rfl)) (by repeat' (first | exact trivial | refine ⟨by first | rfl | exact int_succ _ | (rw [hnew]; rfl), ?_⟩)) ?_)
         exact ⟨⟨hS190, (by show i + 1 ≤ a.2.2.length; omega)⟩, by (show a.2.2.length - (i + 1) < a.2.2.length - i); omega⟩
       ·
        have hc173b := hc173
        try simp only [decide_eq_true_eq, decide_eq_false_iff_not, Bool.not_eq_true', Bool.not_eq_false', Bool.and_eq_true, Bool.or_eq_true, Int.not_lt, Int.not_le, ne_eq, Decidable.not_not] at hc173
        refine wp_exit ?_
        refine hK166 _ _ ?_
        refine wp_region_lit ?_
        refine l_q rfl rfl (q_moveS rfl) ?_
        refine l_e rfl (fun K hK => ?_)
        refine e_buildSlice1 (e := 5) (zv := .int .u8 0) (xs := [_, _]) hS170 (by kernel_rfl) (by kernel_rfl) (by kernel_rfl) rfl rfl rfl rfl (allone (by repeat' (first | exact trivial | refine ⟨by first | rfl | assumption, ?_⟩))) rfl (fun b191 w191 (hS191 : St _ _ [.blk b191 (.cells #[.int .u8 (0 : Int), .int .u8 (1 : Int)] 5), .ow 5 1 oa (([(a.1.toNat % 256)] ++ esc (a.2.2.take i)).length) oc (bv ([(a.1.toNat % 256)] ++ esc (a.2.2.take i))), .blk b2 (.cells #[.int .i64 a.1, .int .i64 a.2.1, .string (bs a.2.2)] 32)] _) => ?_)
        clear hS170
        have hB191 : Bytes [0, 1] := by intro q hq; simp only [List.mem_cons, List.not_mem_nil, or_false] at hq; omega
        have hS191o : St _ _ [.ow 5 1 (some ⟨b191, 0, none⟩) 2 2 (bv [0, 1]), .ow 5 1 oa (([(a.1.toNat % 256)] ++ esc (a.2.2.take i)).length) oc (bv ([(a.1.toNat % 256)] ++ esc (a.2.2.take i))), .blk b2 (.cells #[.int .i64 a.1, .int .i64 a.2.1, .string (bs a.2.2)] 32)] _ := hS191.blkOw' (i := 0) (m := 2) (size := 1) (xs := bv [0, 1]) rfl rfl rfl (by decide); clear hS191
        refine hK _ _ ?_; clear hK K
        refine l_e rfl (fun K hK => ?_)
        have hB192 : Bytes (([(a.1.toNat % 256)] ++ esc (a.2.2.take i)) ++ [0, 1]) := Bytes.app (hkb.app (esc_bytes h.1.take)) hB191
        refine e_app (e := 5) (size := 1) (bytes := 1) (i := 1) (m' := (([(a.1.toNat % 256)] ++ esc (a.2.2.take i)) ++ [0, 1]).length) (by kernel_rfl) hS191o rfl rfl rfl (SlG.src (e := 5) (by kernel_rfl) (hS191o.owG (i := 0) rfl) (by first | (simp only [lls, Nat.mul_one]; done) | (simp only [lls]; omega) | rfl | (simp; done)) (by decide) (bv_one _)) (by first | omega | (simp only [lls] <;> omega) | (simp; done)) bv_app (by first | omega | (simp only [maxLen, lls] <;> omega) | (simp only [maxLen]; omega)) (by first | omega | (simp only [lls] <;> omega)) (fun ad192 cp192 w192 (hS192 : St _ _ [.ow 5 1 (some ⟨b191, 0, none⟩) 2 2 (bv [0, 1]), .ow 5 1 ad192 ((([(a.1.toNat % 256)] ++ esc (a.2.2.take i)) ++ [0, 1]).length) cp192 (bv (([(a.1.toNat % 256)] ++ esc (a.2.2.take i)) ++ [0, 1])), .blk b2 (.cells #[.int .i64 a.1, .int .i64 a.2.1, .string (bs a.2.2)] 32)] _) => ?_)
        clear hS191o
        refine hK _ _ ?_; clear hK K
        refine l_q rfl rfl (q_assignS rfl) ?_
        refine l_nil ?_
        refine hK5 _ _ ?_
        refine wp_seq_k (fun K193 hK193 => ?_)
        refine wp_region_lit ?_
        refine l_q rfl rfl (q_moveS rfl) ?_
        refine l_q rfl rfl (q_assignS rfl) ?_
        refine l_nil ?_
        refine hK193 _ _ ?_
        refine wp_ret ?_
        refine c_ret1 rfl rfl ?_
        have hS194 := hS192.fr1; clear hS192
        have hS195 : St _ _ [.ow 5 1 ad192 ((([(a.1.toNat % 256)] ++ esc (a.2.2.take i)) ++ [0, 1]).length) cp192 (bv (([(a.1.toNat % 256)] ++ esc (a.2.2.take i)) ++ [0, 1]))] _ := hS194.only 1; clear hS194
        have hti : a.2.2.take i = a.2.2 := List.take_of_length_le (by omega)
        have he : encV a = (([(a.1.toNat % 256)] ++ esc (a.2.2.take i)) ++ [0, 1]) := by rw [encV, encB4 (.inr (by omega)), hti]; simp
        exact ⟨_, _, rfl, ⟨_, _, congrArg (fun n : Nat => Value.slice ad192 n cp192) (show (([(a.1.toNat % 256)] ++ esc (a.2.2.take i)) ++ [0, 1]).length = (encV a).length from by rw [he] <;> first | rfl | simp), by rw [he] <;> first | rfl | simp⟩, hS195⟩
     ·
      have hc165b := hc165
      try simp only [decide_eq_true_eq, decide_eq_false_iff_not, Bool.not_eq_true', Bool.not_eq_false', Bool.and_eq_true, Bool.or_eq_true, Int.not_lt, Int.not_le, ne_eq, Decidable.not_not] at hc165
      refine wp_skip ?_
      refine hK5 _ _ ?_
      refine wp_seq_k (fun K196 hK196 => ?_)
      refine wp_region_lit ?_
      refine l_q rfl rfl (q_moveS rfl) ?_
      refine l_q rfl rfl (q_assignS rfl) ?_
      refine l_nil ?_
      refine hK196 _ _ ?_
      refine wp_ret ?_
      refine c_ret1 rfl rfl ?_
      have hS197 : St _ _ [.ow 5 1 (some ⟨b4, 0, none⟩) 1 1 (bv [(a.1.toNat % 256)])] _ := hS4o.only 1; clear hS4o
      have he : encV a = [(a.1.toNat % 256)] := by rw [encV, encB0 (by omega)]; try simp [be8, bia, xor_top htu]
      exact ⟨_, _, rfl, ⟨_, _, congrArg (fun n : Nat => Value.slice (some ⟨b4, 0, none⟩) n 1) (show 1 = (encV a).length from by rw [he] <;> first | rfl | simp), by rw [he] <;> first | rfl | simp⟩, hS197⟩

set_option maxHeartbeats 1000000 in
set_option maxRecDepth 100000 in
theorem renc_ok (L : List Vl) (hL : VsOk L) (n : Nat) (hn : L.length = n) (al : Option Addr) (cl : Nat) (w : World) (hG : SlG (hw w) al (List.flatMap vl L)) : Calls Tryd.prog 44 #[.slice al n cl] w (PostN w fun v G => ∃ oa oc, v = .tuple #[.slice oa (encR L).1.length oc, .int .i64 (encR L).2] ∧ G = [.ow 5 1 oa (encR L).1.length oc (bv (encR L).1)]) := by
 have hS := St.start w
 subst hn
 refine c_enter Tryd.func44 rfl rfl rfl ?_
 refine wp_seq_k (fun K1 hK1 => ?_)
 refine wp_region_lit ?_
 refine l_q rfl rfl (q_assignS rfl) ?_
 refine l_q rfl rfl (q_assignI rfl) ?_
 refine l_nil ?_
 refine hK1 _ _ ?_
 refine wp_seq_k (fun K2 hK2 => ?_)
 refine wp_seq_k (fun K3 hK3 => ?_)
 refine wp_region_lit ?_
 refine l_q rfl rfl (q_moveS rfl) ?_
 refine l_q rfl rfl (q_lenSl (e := 32) rfl (by kernel_rfl)) ?_
 refine l_q rfl rfl (q_gtr rfl rfl) ?_
 refine l_nil ?_
 refine hK3 _ _ ?_
 refine c_cond rfl (fun hc4 => ?_) (fun hc4 => ?_)
 ·
  have hc4b := hc4
  try simp only [decide_eq_true_eq, decide_eq_false_iff_not, Bool.not_eq_true', Bool.not_eq_false', Bool.and_eq_true, Bool.or_eq_true, Int.not_lt, Int.not_le, ne_eq, Decidable.not_not] at hc4
  refine wp_seq_k (fun K5 hK5 => ?_)
  refine wp_region_lit ?_
  refine l_q rfl rfl (q_assignS rfl) ?_
  refine l_q rfl rfl (q_assignI rfl) ?_
  refine l_nil ?_
  refine hK5 _ _ ?_
  refine wp_ret ?_
  refine c_ret2 rfl rfl rfl ?_
  have he := encR_many (L := L) (by omega)
  exact ⟨_, _, rfl, ⟨none, 0, by rw [he]; rfl, by rw [he]; rfl⟩, hS.drop.ow_nil _ _⟩
 ·
  have hc4b := hc4
  try simp only [decide_eq_true_eq, decide_eq_false_iff_not, Bool.not_eq_true', Bool.not_eq_false', Bool.and_eq_true, Bool.or_eq_true, Int.not_lt, Int.not_le, ne_eq, Decidable.not_not] at hc4
  refine wp_skip ?_
  refine hK2 _ _ ?_
  refine wp_seq_k (fun K6 hK6 => ?_)
  refine wp_region_lit ?_
  refine l_q rfl rfl (q_assignS rfl) ?_
  refine l_nil ?_
  refine hK6 _ _ ?_
  refine wp_seq_k (fun K7 hK7 => ?_)
  refine wp_seq_k (fun K8 hK8 => ?_)
  refine wp_region_lit ?_
  refine l_q rfl rfl (q_assignI rfl) ?_
  refine l_nil ?_
  refine hK8 _ _ ?_
  refine wp_block ?_
  have hS9 := hS.ow_nil 5 1; clear hS
  refine c_loop (τ := Nat × (Option Addr) × Nat) [(2, 6), (10, 29)] (fun x => (fun (i : Nat) (oa : Option Addr) (oc : Nat) => [(5, .int .i64 ((i : Nat) : Int)), (4, .slice oa ((enc (L.take i)).length) oc)]) x.1 x.2.1 x.2.2) (fun x w' => (fun (i : Nat) (oa : Option Addr) (oc : Nat) => St w (fun _ => False) [.ow 5 1 oa ((enc (L.take i)).length) oc (bv (enc (L.take i)))] w' ∧ i ≤ L.length ∧ (∀ v ∈ L.take i, rightB v = true)) x.1 x.2.1 x.2.2) (fun x => (fun (i : Nat) (oa : Option Addr) (oc : Nat) => L.length - i) x.1 x.2.1 x.2.2) (⟨0, none, 0⟩) ?_ (by refine ⟨rfl, ⟨by unfold enc; rfl, trivial⟩⟩) (fun x10 j10 w10 hJ10 K10 hK10 => ?_)
  ·
   have hz : enc (L.take 0) = [] := by unfold enc; rfl
   refine ⟨?_, Nat.zero_le _, fun v hv => by rw [List.take_zero] at hv; cases hv⟩
   show St _ _ [.ow 5 1 none (enc (L.take 0)).length 0 (bv (enc (L.take 0)))] _
   rw [hz]; exact hS9
  ·
   obtain ⟨i, oa, oc⟩ := x10
   obtain ⟨hS10, hi, hall⟩ := hJ10
   try dsimp only at hS10 hi hall ⊢
   have hlen0 := enc_len hall
   have hlt := List.length_take (i := i) (l := L)
   refine wp_seq_k (fun K11 hK11 => ?_)
   refine wp_seq_k (fun K12 hK12 => ?_)
   refine wp_region_lit ?_
   refine l_q rfl rfl (q_moveI rfl) ?_
   refine l_q rfl rfl (q_moveS rfl) ?_
   refine l_q rfl rfl (q_lenSl (e := 32) rfl (by kernel_rfl)) ?_
   refine l_q rfl rfl (q_lss rfl rfl) ?_
   refine l_nil ?_
   refine hK12 _ _ ?_
   refine c_cond rfl (fun hc13 => ?_) (fun hc13 => ?_)
   ·
    have hc13b := hc13
    try simp only [decide_eq_true_eq, decide_eq_false_iff_not, Bool.not_eq_true', Bool.not_eq_false', Bool.and_eq_true, Bool.or_eq_true, Int.not_lt, Int.not_le, ne_eq, Decidable.not_not] at hc13
    refine wp_skip ?_
    refine hK11 _ _ ?_
    refine wp_seq_k (fun K14 hK14 => ?_)
    refine wp_block ?_
    refine wp_seq_k (fun K15 hK15 => ?_)
    refine wp_region_lit ?_
    refine l_q rfl rfl (q_moveS rfl) ?_
    refine l_q rfl rfl (q_moveI rfl) ?_
    refine l_q rfl rfl (q_ixG (e := 32) (m := 3) (j := i) rfl rfl (by kernel_rfl) (by kernel_rfl) (by first | rfl | omega) (by omega) hG (by rw [rows_len (c := vl) (m := 3) (fun _ => rfl)]; first | omega | (simp only [lls] <;> omega))) ?_
    obtain ⟨x16, hx16⟩ : ∃ x, (L)[i]? = some x := ⟨_, List.getElem?_eq_getElem (by first | omega | (simp only [lls] <;> omega) | (simp <;> omega))⟩
    have hvb_x16 := (hL x16 (List.mem_of_getElem? hx16)).2
    refine l_q rfl rfl (q_loadGA (m := 3) rfl (by kernel_rfl) (by kernel_rfl) (hG.mono hS10.base) (row_take hx16 (c := vl) (m := 3) (fun _ => rfl)) rfl (by decide)) ?_
    refine l_e rfl (fun K hK => ?_)
    refine e_call (by kernel_rfl) (rright_ok x16 (hL x16 (List.mem_of_getElem? hx16)).1 _) rfl (after_R hS10 (fun v17 w17 hv17 hS17 => ?_))
    clear hS10
    obtain rfl := hv17
    refine hK _ _ ?_; clear hK K
    refine l_q rfl rfl (q_assignB rfl) ?_
    refine l_nil ?_
    refine hK15 _ _ ?_
    refine wp_seq_k (fun K18 hK18 => ?_)
    refine wp_seq_k (fun K19 hK19 => ?_)
    refine wp_region_lit ?_
    refine l_q rfl rfl (q_moveB rfl) ?_
    refine l_q rfl rfl (q_not rfl) ?_
    refine l_nil ?_
    refine hK19 _ _ ?_
    refine c_cond rfl (fun hc20 => ?_) (fun hc20 => ?_)
    ·
     have hc20b := hc20
     try simp only [decide_eq_true_eq, decide_eq_false_iff_not, Bool.not_eq_true', Bool.not_eq_false', Bool.and_eq_true, Bool.or_eq_true, Int.not_lt, Int.not_le, ne_eq, Decidable.not_not] at hc20
     refine wp_seq_k (fun K21 hK21 => ?_)
     refine wp_region_lit ?_
     refine l_q rfl rfl (q_assignS rfl) ?_
     refine l_q rfl rfl (q_assignI rfl) ?_
     refine l_nil ?_
     refine hK21 _ _ ?_
     refine wp_ret ?_
     refine c_ret2 rfl rfl rfl ?_
     have he := encR_not hx16 (by first | exact hc20 | simpa using hc20)
     exact ⟨_, _, rfl, ⟨none, 0, by rw [he]; rfl, by rw [he]; rfl⟩, hS17.drop.ow_nil _ _⟩
    ·
     have hc20b := hc20
     try simp only [decide_eq_true_eq, decide_eq_false_iff_not, Bool.not_eq_true', Bool.not_eq_false', Bool.and_eq_true, Bool.or_eq_true, Int.not_lt, Int.not_le, ne_eq, Decidable.not_not] at hc20
     have hr : rightB x16 = true := by first | exact hc20 | simpa using hc20
     obtain ⟨hk0, hk5, hk1, hks⟩ := right_k hr
     have hev := encV_len hks
     refine wp_skip ?_
     refine hK18 _ _ ?_
     refine wp_region_lit ?_
     refine l_q rfl rfl (q_moveS rfl) ?_
     refine l_q rfl rfl (q_moveS rfl) ?_
     refine l_q rfl rfl (q_moveI rfl) ?_
     refine l_q rfl rfl (q_ixG (e := 32) (m := 3) (j := i) rfl rfl (by kernel_rfl) (by kernel_rfl) (by first | rfl | omega) (by omega) hG (by rw [rows_len (c := vl) (m := 3) (fun _ => rfl)]; first | omega | (simp only [lls] <;> omega))) ?_
     refine l_q rfl rfl (q_loadGA (m := 3) rfl (by kernel_rfl) (by kernel_rfl) (hG.mono hS17.base) (row_take hx16 (c := vl) (m := 3) (fun _ => rfl)) rfl (by decide)) ?_
     refine l_e rfl (fun K hK => ?_)
     refine e_call (by kernel_rfl) (one_ok x16 (hL x16 (List.mem_of_getElem? hx16)) hr _) rfl (after_N hS17 (fun v22 G22 w22 hv22 hS22 => ?_))
     clear hS17
     obtain ⟨ad22, cp22, rfl, rfl⟩ := hv22
     have hS23 : St _ _ [.ow 5 1 ad22 ((encV x16).length) cp22 (bv (encV x16)), .ow 5 1 oa ((enc (L.take i)).length) oc (bv (enc (L.take i)))] _ := hS22; clear hS22
     refine hK _ _ ?_; clear hK K
     refine l_e rfl (fun K hK => ?_)
     have hB24 : Bytes ((enc (L.take i)) ++ (encV x16)) := Bytes.app (enc_bytes hL.take) (encV_bytes (hL x16 (List.mem_of_getElem? hx16)).1)
     refine e_app (e := 5) (size := 1) (bytes := 1) (i := 1) (m' := ((enc (L.take i)) ++ (encV x16)).length) (by kernel_rfl) hS23 rfl rfl rfl (SlG.src (e := 5) (by kernel_rfl) (hS23.owG (i := 0) rfl) (by first | (simp only [lls, Nat.mul_one]; done) | (simp only [lls]; omega) | rfl | (simp; done)) (by decide) (bv_one _)) (by first | omega | (simp only [lls] <;> omega) | (simp; done)) bv_app (by first | omega | (simp only [maxLen, lls] <;> omega) | (simp only [maxLen]; omega)) (by first | omega | (simp only [lls] <;> omega)) (fun ad24 cp24 w24 (hS24 : St _ _ [.ow 5 1 ad22 ((encV x16).length) cp22 (bv (encV x16)), .ow 5 1 ad24 (((enc (L.take i)) ++ (encV x16)).length) cp24 (bv ((enc (L.take i)) ++ (encV x16)))] _) => ?_)
     clear hS23
     refine hK _ _ ?_; clear hK K
     refine l_q rfl rfl (q_assignS rfl) ?_
     refine l_nil ?_
     refine hK14 _ _ ?_
     refine wp_region_lit ?_
     refine l_q rfl rfl (q_moveI rfl) ?_
     refine l_q rfl rfl (q_addx rfl rfl (by first | decide | omega) (by first | decide | omega)) ?_
     refine l_q rfl rfl (q_assignI rfl) ?_
     refine l_nil ?_
     have hnew : (enc (L.take (i + 1))) = ((enc (L.take i)) ++ (encV x16)) := enc_take hx16
     have hS25 : St _ _ [.ow 5 1 ad22 ((encV x16).length) cp22 (bv (encV x16)), .ow 5 1 ad24 ((enc (L.take (i + 1))).length) cp24 (bv (enc (L.take (i + 1))))] _ := hS24.cast (by rw [hnew]); clear hS24
     have har := all_take hall hx16 hr
     have hS26 := hS25.fr1; clear hS25
     have hS27 : St _ _ [.ow 5 1 ad24 ((enc (L.take (i + 1))).length) cp24 (bv (enc (L.take (i + 1))))] _ := hS26.only 1; clear hS26
     refine hK10 _ _ (came (⟨(i + 1), ad24, cp24⟩) (by repeat' (first | exact Agree.refl _ _ | refine Agree.up ?_ rfl | refine Agree.hav2 ?_ rfl | refine Agree.ups2 ?_ rfl)) (by repeat' (first | exact trivial | refine ⟨by first | rfl | exact int_succ _ | (rw [hnew]; rfl), ?_⟩)) ?_)
     exact ⟨⟨hS27, (by show i + 1 ≤ L.length; omega), har⟩, by (show L.length - (i + 1) < L.length - i); omega⟩
   ·
    have hc13b := hc13
    try simp only [decide_eq_true_eq, decide_eq_false_iff_not, Bool.not_eq_true', Bool.not_eq_false', Bool.and_eq_true, Bool.or_eq_true, Int.not_lt, Int.not_le, ne_eq, Decidable.not_not] at hc13
    refine wp_exit ?_
    refine hK7 _ _ ?_
    refine wp_seq_k (fun K28 hK28 => ?_)
    refine wp_region_lit ?_
    refine l_q rfl rfl (q_moveS rfl) ?_
    refine l_q rfl rfl (q_assignS rfl) ?_
    refine l_q rfl rfl (q_assignI rfl) ?_
    refine l_nil ?_
    refine hK28 _ _ ?_
    refine wp_ret ?_
    refine c_ret2 rfl rfl rfl ?_
    have hti : L.take i = L := List.take_of_length_le (by omega)
    rw [hti] at hS10 hall
    have he := encR_yes (L := L) (by omega) hall
    exact ⟨_, _, rfl, ⟨oa, oc, (congrArg (fun l : List Vl => Value.tuple #[.slice oa (enc l).length oc, .int .i64 0]) hti).trans (by rw [he]), by rw [he]⟩, hS10⟩

end Go.Proofs.YtmemgpcgjephmaaDoor
