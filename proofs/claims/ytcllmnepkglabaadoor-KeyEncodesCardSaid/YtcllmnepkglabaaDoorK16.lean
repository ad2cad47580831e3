/- law04: KeyEncodes. -/
import Derived.Test.YtcllmnepkglabaaDoorK15
set_option linter.unusedVariables false
set_option linter.unusedSimpArgs false
namespace Go.Proofs.YtcllmnepkglabaaDoor
open Go.RowKit
attribute [local irreducible] Oper.wp Sem.run Code.wp wpList wpAnyO callFunc execOp Calls
attribute [local irreducible] enc encR rightB toU encV nxB nxN fewB rightL vls vlt cmpZ cmB orL vcmp rcmp esc f8 decR

set_option maxRecDepth 100000 in
theorem kenc_ok (L : List Vl) (b : List Nat) (hL : VsOk L) (hb : Bytes b) (al ab : Option Addr) (cl cb : Nat) (hcb : b.length ≤ cb) (hLm : L.length ≤ 9223372036854775807) (w : World) (hG : SlG (hw w) al (List.flatMap vl L)) (hGb : SlG (hw w) ab (bv b)) : Calls Tryd.prog 7 #[.slice al L.length cl, .slice ab b.length cb] w (PostR w fun v => v = .bool true) := by
  have hS := St.start w
  have hb7 : (b ++ [7]).length = b.length + 1 := by simp
  have htk : (b ++ [7]).take b.length = b := by simp
  have htl : ((b ++ [7]).take b.length).length = b.length := by rw [htk]
  refine c_enter Tryd.func7 rfl rfl rfl ?_
  refine wp_seq_k (fun K1 hK1 => ?_)
  refine wp_region_lit ?_
  refine l_q rfl rfl (q_assignB rfl) ?_
  refine l_nil ?_
  refine hK1 _ _ ?_
  refine wp_seq_k (fun K2 hK2 => ?_)
  refine wp_region_lit ?_
  refine l_q rfl rfl (q_moveS rfl) ?_
  refine l_e rfl (fun K hK => ?_)
  refine e_call (by kernel_rfl) (few_ok L hL L.length (by first | omega | (simp only [List.length_append, List.length_map, List.length_cons, List.length_nil, List.length_take, List.length_drop, List.length_set] <;> omega)) _ _ _ (hG.mono hS.base)) rfl (after_R hS (fun v3 w3 hv3 hS3 => ?_))
  clear hS
  obtain rfl := hv3
  refine hK _ _ ?_; clear hK K
  refine l_q rfl rfl (q_assignB rfl) ?_
  refine l_nil ?_
  refine hK2 _ _ ?_
  refine wp_seq_k (fun K4 hK4 => ?_)
  refine wp_seq_k (fun K5 hK5 => ?_)
  refine wp_region_lit ?_
  refine l_q rfl rfl (q_moveB rfl) ?_
  refine l_q rfl rfl (q_not rfl) ?_
  refine l_q rfl rfl (q_moveB rfl) ?_
  refine g_splitL (t := 20) rfl (fun hg6 => ?_) (fun hg6 => ?_)
  ·
    have hg6b := hg6
    try simp only [decide_eq_true_eq, decide_eq_false_iff_not, Bool.not_eq_true', Bool.not_eq_false', Bool.and_eq_true, Bool.or_eq_true, Int.not_lt, Int.not_le, ne_eq, Decidable.not_not] at hg6
    refine l_off rfl rfl rfl hg6b ?_
    refine l_off rfl rfl rfl hg6b ?_
    refine l_off rfl rfl rfl hg6b ?_
    refine l_q rfl rfl (q_pickT rfl hg6b rfl) ?_
    refine l_nil ?_
    refine hK5 _ _ ?_
    refine c_condT rfl rfl ?_
    refine wp_seq_k (fun K8 hK8 => ?_)
    refine wp_region_lit ?_
    refine l_e rfl (fun K hK => ?_)
    refine e_call (by kernel_rfl) (alive4_ok _) rfl (after_R hS3 (fun v9 w9 hv9 hS9 => ?_))
    clear hS3
    obtain rfl := hv9
    refine hK _ _ ?_; clear hK K
    refine l_q rfl rfl (q_assignB rfl) ?_
    refine l_nil ?_
    refine hK8 _ _ ?_
    refine wp_ret ?_
    refine c_ret1 rfl rfl ?_
    exact ⟨_, rfl, rfl, hS9.drop⟩
  ·
    have hg6b := hg6
    try simp only [decide_eq_true_eq, decide_eq_false_iff_not, Bool.not_eq_true', Bool.not_eq_false', Bool.and_eq_true, Bool.or_eq_true, Int.not_lt, Int.not_le, ne_eq, Decidable.not_not] at hg6
    refine l_on rfl rfl hg6b ?_
    refine l_q rfl rfl (q_moveS rfl) ?_
    refine l_on rfl rfl hg6b ?_
    refine l_q rfl rfl (q_lenSl (e := 5) rfl (by kernel_rfl)) ?_
    refine l_on rfl rfl hg6b ?_
    refine l_q rfl rfl (q_gtr rfl rfl) ?_
    refine l_q rfl rfl (q_pickF rfl hg6b rfl) ?_
    refine l_nil ?_
    refine hK5 _ _ ?_
    refine c_cond rfl (fun hc10 => ?_) (fun hc10 => ?_)
    ·
      have hc10b := hc10
      try simp only [decide_eq_true_eq, decide_eq_false_iff_not, Bool.not_eq_true', Bool.not_eq_false', Bool.and_eq_true, Bool.or_eq_true, Int.not_lt, Int.not_le, ne_eq, Decidable.not_not] at hc10
      refine wp_seq_k (fun K11 hK11 => ?_)
      refine wp_region_lit ?_
      refine l_e rfl (fun K hK => ?_)
      refine e_call (by kernel_rfl) (alive4_ok _) rfl (after_R hS3 (fun v12 w12 hv12 hS12 => ?_))
      clear hS3
      obtain rfl := hv12
      refine hK _ _ ?_; clear hK K
      refine l_q rfl rfl (q_assignB rfl) ?_
      refine l_nil ?_
      refine hK11 _ _ ?_
      refine wp_ret ?_
      refine c_ret1 rfl rfl ?_
      exact ⟨_, rfl, rfl, hS12.drop⟩
    ·
      have hc10b := hc10
      try simp only [decide_eq_true_eq, decide_eq_false_iff_not, Bool.not_eq_true', Bool.not_eq_false', Bool.and_eq_true, Bool.or_eq_true, Int.not_lt, Int.not_le, ne_eq, Decidable.not_not] at hc10
      have hfl : fewB L = true := by assumption
      have hfw := fewB_le hfl
      refine wp_skip ?_
      refine hK4 _ _ ?_
      refine wp_seq_k (fun K13 hK13 => ?_)
      refine wp_region_lit ?_
      refine l_e rfl (fun K hK => ?_)
      refine e_buildSlice1 (e := 5) (zv := .int .u8 0) (xs := []) hS3 (by kernel_rfl) (by kernel_rfl) (by kernel_rfl) rfl rfl rfl rfl ((by intro u hu; cases hu)) rfl (fun b14 w14 (hS14 : St _ _ [.blk b14 (.cells #[] 5)] _) => ?_)
      clear hS3
      have hS14o : St _ _ [.ow 5 1 (some ⟨b14, 0, none⟩) 0 0 (bv [])] _ := hS14.blkOw' (i := 0) (m := 0) (size := 1) (xs := bv []) rfl rfl rfl (by decide); clear hS14
      refine hK _ _ ?_; clear hK K
      refine l_q rfl rfl (q_moveS rfl) ?_
      refine l_e rfl (fun K hK => ?_)
      refine e_app (e := 5) (size := 1) (bytes := 1) (i := 0) (m' := b.length) (by kernel_rfl) hS14o rfl rfl rfl (SlG.src (e := 5) (by kernel_rfl) (hGb.mono hS14o.base) (by first | (simp only [List.length_append, List.length_map, List.length_cons, List.length_nil, List.length_take, List.length_drop, List.length_set, Nat.mul_one]; done) | (simp only [List.length_append, List.length_map, List.length_cons, List.length_nil, List.length_take, List.length_drop, List.length_set]; omega) | rfl | (simp; done)) (by decide) (bv_one _)) (by first | omega | (simp only [List.length_append, List.length_map, List.length_cons, List.length_nil, List.length_take, List.length_drop, List.length_set] <;> omega) | (simp; done)) rfl (by first | omega | (simp only [maxLen, List.length_append, List.length_map, List.length_cons, List.length_nil, List.length_take, List.length_drop, List.length_set] <;> omega) | (simp only [maxLen]; omega)) (by first | omega | (simp only [List.length_append, List.length_map, List.length_cons, List.length_nil, List.length_take, List.length_drop, List.length_set] <;> omega)) (fun ad15 cp15 w15 (hS15 : St _ _ [.ow 5 1 ad15 b.length cp15 (bv b)] _) => ?_)
      clear hS14o
      refine hK _ _ ?_; clear hK K
      refine l_e rfl (fun K hK => ?_)
      refine e_buildSlice1 (e := 5) (zv := .int .u8 0) (xs := [_]) hS15 (by kernel_rfl) (by kernel_rfl) (by kernel_rfl) rfl rfl rfl rfl (allone (by repeat' (first | exact trivial | refine ⟨by first | rfl | assumption, ?_⟩))) rfl (fun b16 w16 (hS16 : St _ _ [.blk b16 (.cells #[.int .u8 (7 : Int)] 5), .ow 5 1 ad15 b.length cp15 (bv b)] _) => ?_)
      clear hS15
      have hS16o : St _ _ [.ow 5 1 (some ⟨b16, 0, none⟩) 1 1 (bv [7]), .ow 5 1 ad15 b.length cp15 (bv b)] _ := hS16.blkOw' (i := 0) (m := 1) (size := 1) (xs := bv [7]) rfl rfl rfl (by decide); clear hS16
      refine hK _ _ ?_; clear hK K
      refine l_e rfl (fun K hK => ?_)
      have hB17 : Bytes (b ++ [7]) := Bytes.app hb (by decide)
      refine e_app (e := 5) (size := 1) (bytes := 1) (i := 1) (m' := (b ++ [7]).length) (by kernel_rfl) hS16o rfl rfl rfl (SlG.src (e := 5) (by kernel_rfl) (hS16o.owG (i := 0) rfl) (by first | (simp only [List.length_append, List.length_map, List.length_cons, List.length_nil, List.length_take, List.length_drop, List.length_set, Nat.mul_one]; done) | (simp only [List.length_append, List.length_map, List.length_cons, List.length_nil, List.length_take, List.length_drop, List.length_set]; omega) | rfl | (simp; done)) (by decide) (bv_one _)) (by first | omega | (simp only [List.length_append, List.length_map, List.length_cons, List.length_nil, List.length_take, List.length_drop, List.length_set] <;> omega) | (simp; done)) bv_app (by first | omega | (simp only [maxLen, List.length_append, List.length_map, List.length_cons, List.length_nil, List.length_take, List.length_drop, List.length_set] <;> omega) | (simp only [maxLen]; omega)) (by first | omega | (simp only [List.length_append, List.length_map, List.length_cons, List.length_nil, List.length_take, List.length_drop, List.length_set] <;> omega)) (fun ad17 cp17 w17 (hS17 : St _ _ [.ow 5 1 (some ⟨b16, 0, none⟩) 1 1 (bv [7]), .ow 5 1 ad17 ((b ++ [7]).length) cp17 (bv (b ++ [7]))] _) => ?_)
      clear hS16o
      refine hK _ _ ?_; clear hK K
      refine l_q rfl rfl (q_moveS rfl) ?_
      refine l_q rfl rfl (q_lenSl (e := 5) rfl (by kernel_rfl)) ?_
      have hcp18 := (hS17.owLen (i := 1) rfl).2.1
      refine l_q rfl rfl (q_sliceX (e := 5) (size := 1) (l := 0) (h := b.length) (m := cp17) (ad' := ad17) (len' := b.length) (cap' := cp17) rfl (by kernel_rfl) (by kernel_rfl) rfl ⟨_, int_nat (by first | rfl | omega) rfl⟩ rfl (by omega) (by first | omega | (simp only [List.length_append, List.length_map, List.length_cons, List.length_nil, List.length_take, List.length_drop, List.length_set] <;> omega)) (by first | omega | (simp only [List.length_append, List.length_map, List.length_cons, List.length_nil, List.length_take, List.length_drop, List.length_set] <;> omega)) rfl subS_zero (Nat.sub_zero _) (Nat.sub_zero _)) ?_
      refine l_q rfl rfl (q_assignS rfl) ?_
      refine l_nil ?_
      refine hK13 _ _ ?_
      refine wp_seq_k (fun K19 hK19 => ?_)
      refine wp_region_lit ?_
      refine l_q rfl rfl (q_moveS rfl) ?_
      refine l_e rfl (fun K hK => ?_)
      have hel20 := encR_len L
      refine e_call (by kernel_rfl) (enc_ok L hL L.length (by first | omega | (simp only [List.length_append, List.length_map, List.length_cons, List.length_nil, List.length_take, List.length_drop, List.length_set] <;> omega)) _ _ _ (hG.mono hS17.base)) rfl (after_N hS17 (fun v20 G20 w20 hv20 hS20 => ?_))
      clear hS17
      obtain ⟨oa20, oc20, rfl, rfl⟩ := hv20
      have hS21 : St _ _ [.ow 5 1 oa20 (((encR L).1).length) oc20 (bv ((encR L).1)), .ow 5 1 (some ⟨b16, 0, none⟩) 1 1 (bv [7]), .ow 5 1 ad17 ((b ++ [7]).length) cp17 (bv (b ++ [7]))] _ := hS20; clear hS20
      refine hK _ _ ?_; clear hK K
      refine l_q rfl rfl (q_move rfl) ?_
      refine l_q rfl rfl (q_extract rfl rfl) ?_
      refine l_q rfl rfl (q_extract rfl rfl) ?_
      refine l_q rfl rfl (q_assignS rfl) ?_
      refine l_q rfl rfl (q_assignI rfl) ?_
      refine l_nil ?_
      refine hK19 _ _ ?_
      refine wp_seq_k (fun K22 hK22 => ?_)
      refine wp_region_lit ?_
      refine l_q rfl rfl (q_moveS rfl) ?_
      refine l_e rfl (fun K hK => ?_)
      have hel23 := encR_len L
      refine e_call (by kernel_rfl) (renc_ok L hL L.length (by first | omega | (simp only [List.length_append, List.length_map, List.length_cons, List.length_nil, List.length_take, List.length_drop, List.length_set] <;> omega)) _ _ _ (hG.mono hS21.base)) rfl (after_N hS21 (fun v23 G23 w23 hv23 hS23 => ?_))
      clear hS21
      obtain ⟨oa23, oc23, rfl, rfl⟩ := hv23
      have hS24 : St _ _ [.ow 5 1 oa23 (((encR L).1).length) oc23 (bv ((encR L).1)), .ow 5 1 oa20 (((encR L).1).length) oc20 (bv ((encR L).1)), .ow 5 1 (some ⟨b16, 0, none⟩) 1 1 (bv [7]), .ow 5 1 ad17 ((b ++ [7]).length) cp17 (bv (b ++ [7]))] _ := hS23; clear hS23
      refine hK _ _ ?_; clear hK K
      refine l_q rfl rfl (q_move rfl) ?_
      refine l_q rfl rfl (q_extract rfl rfl) ?_
      refine l_q rfl rfl (q_extract rfl rfl) ?_
      refine l_q rfl rfl (q_assignS rfl) ?_
      refine l_q rfl rfl (q_assignI rfl) ?_
      refine l_nil ?_
      refine hK22 _ _ ?_
      refine wp_seq_k (fun K25 hK25 => ?_)
      refine wp_region_lit ?_
      refine l_q rfl rfl (q_moveS rfl) ?_
      refine l_e rfl (fun K hK => ?_)
      have hd26 := decR_len ((b ++ [7]).take b.length)
      refine e_call (by kernel_rfl) (dec_ok ((b ++ [7]).take b.length) (Bytes.take hB17) b.length (by first | omega | (simp only [List.length_append, List.length_map, List.length_cons, List.length_nil, List.length_take, List.length_drop, List.length_set] <;> omega)) _ _ (by first | omega | (simp only [List.length_append, List.length_map, List.length_cons, List.length_nil, List.length_take, List.length_drop, List.length_set] <;> omega)) (by first | omega | (simp only [List.length_append, List.length_map, List.length_cons, List.length_nil, List.length_take, List.length_drop, List.length_set] <;> omega)) _ _ (Gle.refl _) ((fun q => (bv_takeG (n := b.length) q)) (hS24.owG (i := 3) rfl))) rfl (after_N hS24 (fun v26 G26 w26 hv26 hS26 => ?_))
      clear hS24
      obtain ⟨oa26, oc26, rfl, rfl⟩ := hv26
      have hS27 : St _ _ [.ow 31 3 oa26 (((decR ((b ++ [7]).take b.length)).1).length) oc26 (List.flatMap vl ((decR ((b ++ [7]).take b.length)).1)), .ow 5 1 oa23 (((encR L).1).length) oc23 (bv ((encR L).1)), .ow 5 1 oa20 (((encR L).1).length) oc20 (bv ((encR L).1)), .ow 5 1 (some ⟨b16, 0, none⟩) 1 1 (bv [7]), .ow 5 1 ad17 ((b ++ [7]).length) cp17 (bv (b ++ [7]))] _ := hS26; clear hS26
      refine hK _ _ ?_; clear hK K
      refine l_q rfl rfl (q_move rfl) ?_
      refine l_q rfl rfl (q_extract rfl rfl) ?_
      refine l_q rfl rfl (q_extract rfl rfl) ?_
      refine l_q rfl rfl (q_assignS rfl) ?_
      refine l_q rfl rfl (q_assignI rfl) ?_
      refine l_nil ?_
      refine hK25 _ _ ?_
      refine wp_seq_k (fun K28 hK28 => ?_)
      refine wp_region_lit ?_
      refine l_q rfl rfl (q_moveS rfl) ?_
      refine l_e rfl (fun K hK => ?_)
      have hd29 := decR_len b
      refine e_call (by kernel_rfl) (rdec_ok b hb b.length (by first | omega | (simp only [List.length_append, List.length_map, List.length_cons, List.length_nil, List.length_take, List.length_drop, List.length_set] <;> omega)) _ _ (by first | omega | (simp only [List.length_append, List.length_map, List.length_cons, List.length_nil, List.length_take, List.length_drop, List.length_set] <;> omega)) (by first | omega | (simp only [List.length_append, List.length_map, List.length_cons, List.length_nil, List.length_take, List.length_drop, List.length_set] <;> omega)) _ _ (Gle.refl _) (hGb.mono hS27.base)) rfl (after_N hS27 (fun v29 G29 w29 hv29 hS29 => ?_))
      clear hS27
      obtain ⟨oa29, oc29, rfl, rfl⟩ := hv29
      have hS30 : St _ _ [.ow 31 3 oa29 (((decR b).1).length) oc29 (List.flatMap vl ((decR b).1)), .ow 31 3 oa26 (((decR ((b ++ [7]).take b.length)).1).length) oc26 (List.flatMap vl ((decR ((b ++ [7]).take b.length)).1)), .ow 5 1 oa23 (((encR L).1).length) oc23 (bv ((encR L).1)), .ow 5 1 oa20 (((encR L).1).length) oc20 (bv ((encR L).1)), .ow 5 1 (some ⟨b16, 0, none⟩) 1 1 (bv [7]), .ow 5 1 ad17 ((b ++ [7]).length) cp17 (bv (b ++ [7]))] _ := hS29; clear hS29
      refine hK _ _ ?_; clear hK K
      refine l_q rfl rfl (q_move rfl) ?_
      refine l_q rfl rfl (q_extract rfl rfl) ?_
      refine l_q rfl rfl (q_extract rfl rfl) ?_
      refine l_q rfl rfl (q_assignS rfl) ?_
      refine l_q rfl rfl (q_assignI rfl) ?_
      refine l_nil ?_
      refine hK28 _ _ ?_
      refine wp_seq_k (fun K31 hK31 => ?_)
      refine wp_region_lit ?_
      refine l_q rfl rfl (q_moveS rfl) ?_
      refine l_q rfl rfl (q_moveS rfl) ?_
      refine l_e rfl (fun K hK => ?_)
      refine e_call (by kernel_rfl) (same_ok ((decR ((b ++ [7]).take b.length)).1) ((decR b).1) (decR_vs ((b ++ [7]).take b.length)) (decR_vs b) _ _ _ _ (by first | omega | (simp only [List.length_append, List.length_map, List.length_cons, List.length_nil, List.length_take, List.length_drop, List.length_set] <;> omega)) (by first | omega | (simp only [List.length_append, List.length_map, List.length_cons, List.length_nil, List.length_take, List.length_drop, List.length_set] <;> omega)) _ _ (by first | omega | (simp only [List.length_append, List.length_map, List.length_cons, List.length_nil, List.length_take, List.length_drop, List.length_set] <;> omega)) _ (hS30.owG (i := 1) rfl) (hS30.owG (i := 0) rfl)) rfl (after_R hS30 (fun v32 w32 hv32 hS32 => ?_))
      clear hS30
      obtain rfl := hv32
      refine hK _ _ ?_; clear hK K
      refine l_q rfl rfl (q_assignB rfl) ?_
      refine l_nil ?_
      refine hK31 _ _ ?_
      refine wp_seq_k (fun K33 hK33 => ?_)
      refine wp_region_lit ?_
      refine l_e rfl (fun K hK => ?_)
      refine e_call (by kernel_rfl) (alive4_ok _) rfl (after_R hS32 (fun v34 w34 hv34 hS34 => ?_))
      clear hS32
      obtain rfl := hv34
      refine hK _ _ ?_; clear hK K
      refine l_q rfl rfl (q_moveB rfl) ?_
      refine l_on rfl rfl rfl ?_
      refine l_q rfl rfl (q_moveS rfl) ?_
      refine l_on rfl rfl rfl ?_
      refine l_q rfl rfl (q_convBS (l := (encR L).1) rfl (hS34.owG (i := 3) rfl) (by first | omega | (simp only [List.length_append, List.length_map, List.length_cons, List.length_nil, List.length_take, List.length_drop, List.length_set] <;> omega)) (by kernel_rfl) (by kernel_rfl)) ?_
      refine l_on rfl rfl rfl ?_
      refine l_q rfl rfl (q_moveS rfl) ?_
      refine l_on rfl rfl rfl ?_
      refine l_q rfl rfl (q_convBS (l := (encR L).1) rfl (hS34.owG (i := 2) rfl) (by first | omega | (simp only [List.length_append, List.length_map, List.length_cons, List.length_nil, List.length_take, List.length_drop, List.length_set] <;> omega)) (by kernel_rfl) (by kernel_rfl)) ?_
      refine l_on rfl rfl rfl ?_
      refine l_q rfl rfl (q_str_eql (l := ((encR L).1)) (m := ((encR L).1)) rfl rfl (encR_bytes hL) (encR_bytes hL)) ?_
      refine l_q rfl rfl (q_pickT rfl rfl rfl) ?_
      refine l_q rfl rfl (q_moveB rfl) ?_
      refine l_on rfl rfl (decide_eq_true rfl) ?_
      refine l_q rfl rfl (q_moveI rfl) ?_
      refine l_on rfl rfl (decide_eq_true rfl) ?_
      refine l_q rfl rfl (q_moveI rfl) ?_
      refine l_on rfl rfl (decide_eq_true rfl) ?_
      refine l_q rfl rfl (q_eql rfl rfl) ?_
      refine l_q rfl rfl (q_pickT rfl (decide_eq_true rfl) rfl) ?_
      refine l_q rfl rfl (q_moveB rfl) ?_
      refine l_on rfl rfl (decide_eq_true rfl) ?_
      refine l_q rfl rfl (q_moveB rfl) ?_
      refine l_q rfl rfl (q_pickT rfl (decide_eq_true rfl) rfl) ?_
      refine l_q rfl rfl (q_moveB rfl) ?_
      refine l_on rfl rfl (decide_eq_true (by rw [htk])) ?_
      refine l_q rfl rfl (q_moveI rfl) ?_
      refine l_on rfl rfl (decide_eq_true (by rw [htk])) ?_
      refine l_q rfl rfl (q_moveI rfl) ?_
      refine l_on rfl rfl (decide_eq_true (by rw [htk])) ?_
      refine l_q rfl rfl (q_eql rfl rfl) ?_
      refine l_q rfl rfl (q_pickT rfl (decide_eq_true (by rw [htk])) rfl) ?_
      refine l_q rfl rfl (q_moveB rfl) ?_
      refine l_on rfl rfl (decide_eq_true (by rw [htk])) ?_
      refine l_q rfl rfl (q_moveS rfl) ?_
      refine l_on rfl rfl (decide_eq_true (by rw [htk])) ?_
      refine l_q rfl rfl (q_convBS (l := ((b ++ [7]).take b.length)) rfl ((fun q => (bv_takeG (n := b.length) q)) (hS34.owG (i := 5) rfl)) (by first | omega | (simp only [List.length_append, List.length_map, List.length_cons, List.length_nil, List.length_take, List.length_drop, List.length_set] <;> omega)) (by kernel_rfl) (by kernel_rfl)) ?_
      refine l_on rfl rfl (decide_eq_true (by rw [htk])) ?_
      refine l_q rfl rfl (q_moveS rfl) ?_
      refine l_on rfl rfl (decide_eq_true (by rw [htk])) ?_
      refine l_q rfl rfl (q_convBS (l := b) rfl (hGb.mono hS34.base) (by first | omega | (simp only [List.length_append, List.length_map, List.length_cons, List.length_nil, List.length_take, List.length_drop, List.length_set] <;> omega)) (by kernel_rfl) (by kernel_rfl)) ?_
      refine l_on rfl rfl (decide_eq_true (by rw [htk])) ?_
      refine l_q rfl rfl (q_str_eql (l := ((b ++ [7]).take b.length)) (m := b) rfl rfl (Bytes.take hB17) hb) ?_
      refine l_q rfl rfl (q_pickT rfl (decide_eq_true (by rw [htk])) rfl) ?_
      refine l_q rfl rfl (q_assignB rfl) ?_
      refine l_nil ?_
      refine hK33 _ _ ?_
      refine wp_ret ?_
      refine c_ret1 rfl rfl ?_
      exact ⟨_, rfl, congrArg Value.bool (decide_eq_true htk), hS34.drop⟩

end Go.Proofs.YtcllmnepkglabaaDoor
