/- NumberCompares: number's Compare. -/
import Derived.Test.YtdlmcgflgdmjgaaDoorQ9
set_option linter.unusedVariables false
set_option linter.unusedSimpArgs false
namespace Go.Proofs.YtdlmcgflgdmjgaaDoor
open Go.RowKit
attribute [local irreducible] Oper.wp Sem.run Code.wp wpList wpAnyO callFunc execOp Calls
attribute [local irreducible] rightQ cmpZ cmB orL vcmp
attribute [local irreducible] toU dv sv sgn sclQ sg03

theorem c03_bytes (op : Int) (a b : Vl) : Bytes (c03 op a b).1.2.2 := by
 unfold c03
 repeat' split
 all_goals exact Bytes.nil
theorem c03_bad {op : Int} {a b : Vl} (h : (c03 op a b).2.1 ≠ 0) : (c03 op a b).1 = (0, 0, []) := by
 unfold c03 at *
 repeat' split
 all_goals first | rfl | (exfalso; simp_all; done)
theorem sg03_bad {a b : Vl} (h : (sg03 a b).2.1 ≠ 0) : (sg03 a b).1 = 0 := by
 by_cases h1 : rightQ a = false ∨ a.1 = 0
 · rw [sg_1 h1]
 · by_cases h2 : rightQ b = false ∨ b.1 = 0 ∨ (a.1 ≠ b.1 ∧ ¬((a.1 = 2 ∨ a.1 = 3) ∧ (b.1 = 2 ∨ b.1 = 3)))
   · rw [sg_2 h1 h2]
   · by_cases h3 : a.1 = 2 ∨ a.1 = 3
     · rw [sg_3 h1 h2 h3] at h; exact absurd rfl h
     · rw [sg_4 h1 h2 h3] at h; exact absurd rfl h
theorem cmp_good (op : Int) (a b : Vl) (haB : Bytes a.2.2) (hbB : Bytes b.2.2) (han0 : -9223372036854775808 ≤ a.2.1) (han1 : a.2.1 ≤ 9223372036854775807) (hbn0 : -9223372036854775808 ≤ b.2.1) (hbn1 : b.2.1 ≤ 9223372036854775807)  (hz : (c03 op a b).2.1 = 0) (w : World) : Calls Tryd.prog 34 #[.int .i64 op, .agg (vl a).toArray, .agg (vl b).toArray] w (PostR w fun v => v = .tuple #[.agg (vl (c03 op a b).1).toArray, .nilIface]) := by
 by_cases h : op < 8 ∨ 13 < op
 · rw [c_1 h] at hz; exact absurd hz (by decide)
 · cases h1 : rightQ a with
   | false => rw [c_2 h h1] at hz; exact absurd hz (by decide)
   | true =>
     cases h2 : rightQ b with
     | false => rw [c_3 h h1 h2] at hz; exact absurd hz (by decide)
     | true =>
       by_cases hnull : a.1 = 0 ∨ b.1 = 0
       · exact cmpg_op op a b haB hbB han0 han1 hbn0 hbn1 hnull hz w
       · by_cases h5 : (sg03 a b).2.1 = 0
         · have h3 : ¬a.1 = 0 := by omega
           have h4 : ¬b.1 = 0 := by omega
           have h' : op = 8 ∨ op = 9 ∨ op = 10 ∨ op = 11 ∨ op = 12 ∨ op = 13 := by omega
           rcases h' with rfl | rfl | rfl | rfl | rfl | rfl
           · exact cmpg_8 a b haB hbB han0 han1 hbn0 hbn1 h1 h2 h3 h4 h5 hz w
           · exact cmpg_9 a b haB hbB han0 han1 hbn0 hbn1 h1 h2 h3 h4 h5 hz w
           · exact cmpg_10 a b haB hbB han0 han1 hbn0 hbn1 h1 h2 h3 h4 h5 hz w
           · exact cmpg_11 a b haB hbB han0 han1 hbn0 hbn1 h1 h2 h3 h4 h5 hz w
           · exact cmpg_12 a b haB hbB han0 han1 hbn0 hbn1 h1 h2 h3 h4 h5 hz w
           · exact cmpg_13 a b haB hbB han0 han1 hbn0 hbn1 h1 h2 h3 h4 h5 hz w
         · rw [c_5 h h1 h2 hnull h5] at hz; exact absurd hz h5
theorem rcmp_bad (op : Int) (a b : Vl) (haB : Bytes a.2.2) (hbB : Bytes b.2.2) (han0 : -9223372036854775808 ≤ a.2.1) (han1 : a.2.1 ≤ 9223372036854775807) (hbn0 : -9223372036854775808 ≤ b.2.1) (hbn1 : b.2.1 ≤ 9223372036854775807)  (hz : (c03 op a b).2.1 ≠ 0) (w : World) : Calls Tryd.prog 35 #[.int .i64 op, .agg (vl a).toArray, .agg (vl b).toArray] w (PostR w fun v => v = .tuple #[.agg #[.int .i64 0, .int .i64 0, .string (bs [])], .agg #[.int .i64 (c03 op a b).2.1, .int .i64 (c03 op a b).2.2]]) := by
 have h := rcompare_ok op a b haB hbB han0 han1 hbn0 hbn1 w
 rw [c03_bad hz] at h; exact h
theorem rsign_bad (a b : Vl) (haB : Bytes a.2.2) (hbB : Bytes b.2.2) (han0 : -9223372036854775808 ≤ a.2.1) (han1 : a.2.1 ≤ 9223372036854775807) (hbn0 : -9223372036854775808 ≤ b.2.1) (hbn1 : b.2.1 ≤ 9223372036854775807)  (hz : (sg03 a b).2.1 ≠ 0) (w : World) : Calls Tryd.prog 36 #[.agg (vl a).toArray, .agg (vl b).toArray] w (PostR w fun v => v = .tuple #[.int .i64 0, .agg #[.int .i64 (sg03 a b).2.1, .int .i64 (sg03 a b).2.2]]) := by
 have h := rsign_ok a b haB hbB han0 han1 hbn0 hbn1 w
 rw [sg03_bad hz] at h; exact h
theorem alive_RQ (w : World) (hl : LaidV w) : Calls Tryd.prog 28 #[] w (PostR w fun v => v = .bool true) :=
 (alive_true w hl).mono fun e w' ⟨h, hw⟩ => ⟨_, h, rfl, Below.stQ hw⟩
attribute [local irreducible] c03

set_option maxHeartbeats 4000000 in
set_option maxRecDepth 100000 in
theorem ncmp_ok (op : Int) (a b : Vl) (haB : Bytes a.2.2) (hbB : Bytes b.2.2) (han0 : -9223372036854775808 ≤ a.2.1) (han1 : a.2.1 ≤ 9223372036854775807) (hbn0 : -9223372036854775808 ≤ b.2.1) (hbn1 : b.2.1 ≤ 9223372036854775807) (w : World) (hl : LaidV w) : Calls Tryd.prog 13 #[.int .i64 op, .agg (vl a).toArray, .agg (vl b).toArray] w (PostR w fun v => v = .bool true) := by
 have hS := St.start w
 refine c_enter Tryd.func13 rfl rfl rfl ?_
 refine wp_seq_k (fun K1 hK1 => ?_)
 refine wp_region_lit ?_
 refine l_e rfl (fun K hK => ?_)
 refine e_boxA hS rfl (fun b2 w2 (hS2 : St _ _ [.blk b2 (.cells #[.int .i64 a.1, .int .i64 a.2.1, .string (bs a.2.2)] 51)] _) => ?_)
 clear hS
 refine hK _ _ ?_; clear hK K
 refine l_e rfl (fun K hK => ?_)
 refine e_boxA hS2 rfl (fun b3 w3 (hS3 : St _ _ [.blk b3 (.cells #[.int .i64 b.1, .int .i64 b.2.1, .string (bs b.2.2)] 51), _] _) => ?_)
 clear hS2
 refine hK _ _ ?_; clear hK K
 refine l_q rfl rfl (q_assignB rfl) ?_
 refine l_nil ?_
 refine hK1 _ _ ?_
 refine wp_seq_k (fun K4 hK4 => ?_)
 refine wp_seq_k (fun K5 hK5 => ?_)
 refine wp_region_lit ?_
 refine l_q rfl rfl (q_fieldAddr (ft := 9) (o := 2) rfl (by kernel_rfl)) ?_
 refine l_q rfl rfl (q_load1 rfl (by kernel_rfl) (hS3.cell (i := 1) rfl rfl)) ?_
 refine l_q rfl rfl (q_lenStrB (l := a.2.2) rfl (by kernel_rfl)) ?_
 refine l_q rfl rfl (q_gtr rfl rfl) ?_
 refine l_q rfl rfl (q_moveB rfl) ?_
 refine g_splitL (t := 21) rfl (fun hg6 => ?_) (fun hg6 => ?_)
 ·
  have hg6b := hg6
  try simp only [decide_eq_true_eq, decide_eq_false_iff_not, Bool.not_eq_true', Bool.not_eq_false', Bool.and_eq_true, Bool.or_eq_true, Int.not_lt, Int.not_le, ne_eq, Decidable.not_not] at hg6
  refine l_off rfl rfl rfl hg6b ?_
  refine l_off rfl rfl rfl hg6b ?_
  refine l_off rfl rfl rfl hg6b ?_
  refine l_off rfl rfl rfl hg6b ?_
  refine l_q rfl rfl (q_pickT rfl hg6b rfl) ?_
  refine l_nil ?_
  refine hK5 _ _ ?_
  refine c_condT rfl rfl ?_
  refine wp_seq_k (fun K8 hK8 => ?_)
  refine wp_region_lit ?_
  refine l_e rfl (fun K hK => ?_)
  refine e_call (by kernel_rfl) (alive_RQ _ (hl.keep id hS3)) rfl (after_R hS3 (fun v9 w9 hv9 hS9 => ?_))
  clear hS3
  obtain rfl := hv9
  refine hK _ _ ?_; clear hK K
  refine l_q rfl rfl (q_assignB rfl) ?_
  refine l_nil ?_
  refine hK8 _ _ ?_
  refine wp_ret ?_
  refine c_ret1 rfl rfl ?_
  exact ⟨_, rfl, by first | rfl | exact congrArg Value.bool (decide_eq_true ⟨rfl, rfl⟩) | exact congrArg Value.bool (decide_eq_true ⟨hs.symm, (sg03_fine hs).symm⟩), hS9.drop⟩
 ·
  have hg6b := hg6
  try simp only [decide_eq_true_eq, decide_eq_false_iff_not, Bool.not_eq_true', Bool.not_eq_false', Bool.and_eq_true, Bool.or_eq_true, Int.not_lt, Int.not_le, ne_eq, Decidable.not_not] at hg6
  refine l_on rfl rfl hg6b ?_
  refine l_q rfl rfl (q_fieldAddr (ft := 9) (o := 2) rfl (by kernel_rfl)) ?_
  refine l_on rfl rfl hg6b ?_
  refine l_q rfl rfl (q_load1 rfl (by kernel_rfl) (hS3.cell (i := 0) rfl rfl)) ?_
  refine l_on rfl rfl hg6b ?_
  refine l_q rfl rfl (q_lenStrB (l := b.2.2) rfl (by kernel_rfl)) ?_
  refine l_on rfl rfl hg6b ?_
  refine l_q rfl rfl (q_gtr rfl rfl) ?_
  refine l_q rfl rfl (q_pickF rfl hg6b rfl) ?_
  refine l_nil ?_
  refine hK5 _ _ ?_
  refine c_cond rfl (fun hc10 => ?_) (fun hc10 => ?_)
  ·
   have hc10b := hc10
   try simp only [decide_eq_true_eq, decide_eq_false_iff_not, Bool.not_eq_true', Bool.not_eq_false', Bool.and_eq_true, Bool.or_eq_true, Int.not_lt, Int.not_le, ne_eq, Decidable.not_not] at hc10
   refine wp_seq_k (fun K11 hK11 => ?_)
   refine wp_region_lit ?_
   refine l_e rfl (fun K hK => ?_)
   refine e_call (by kernel_rfl) (alive_RQ _ (hl.keep id hS3)) rfl (after_R hS3 (fun v12 w12 hv12 hS12 => ?_))
   clear hS3
   obtain rfl := hv12
   refine hK _ _ ?_; clear hK K
   refine l_q rfl rfl (q_assignB rfl) ?_
   refine l_nil ?_
   refine hK11 _ _ ?_
   refine wp_ret ?_
   refine c_ret1 rfl rfl ?_
   exact ⟨_, rfl, by first | rfl | exact congrArg Value.bool (decide_eq_true ⟨rfl, rfl⟩) | exact congrArg Value.bool (decide_eq_true ⟨hs.symm, (sg03_fine hs).symm⟩), hS12.drop⟩
  ·
   have hc10b := hc10
   try simp only [decide_eq_true_eq, decide_eq_false_iff_not, Bool.not_eq_true', Bool.not_eq_false', Bool.and_eq_true, Bool.or_eq_true, Int.not_lt, Int.not_le, ne_eq, Decidable.not_not] at hc10
   refine wp_skip ?_
   refine hK4 _ _ ?_
   refine wp_seq_k (fun K13 hK13 => ?_)
   refine wp_region_lit ?_
   refine l_q rfl rfl (q_moveI rfl) ?_
   refine l_q rfl rfl (q_loadA (m := 3) rfl (by kernel_rfl) (by kernel_rfl) (hS3.blk (i := 1) rfl) rfl rfl) ?_
   refine l_q rfl rfl (q_loadA (m := 3) rfl (by kernel_rfl) (by kernel_rfl) (hS3.blk (i := 0) rfl) rfl rfl) ?_
   by_cases hc : (c03 op a b).2.1 = 0
   ·
    refine l_e rfl (fun K hK => ?_)
    refine e_call (by kernel_rfl) (cmp_good op a b haB hbB han0 han1 hbn0 hbn1 hc _) rfl (after_R hS3 (fun v14 w14 hv14 hS14 => ?_))
    clear hS3
    obtain rfl := hv14
    refine hK _ _ ?_; clear hK K
    refine l_q rfl rfl (q_move rfl) ?_
    refine l_q rfl rfl (q_extract rfl rfl) ?_
    refine l_q rfl rfl (q_extract rfl rfl) ?_
    refine l_e rfl (fun K hK => ?_)
    refine e_alloc (zv := .agg #[.int .i64 0, .int .i64 0, .string ⟨#[]⟩]) hS14 (by kernel_rfl) (fun b15 w15 (hS15 : St _ _ [.blk b15 (.cells #[.int .i64 (0 : Int), .int .i64 (0 : Int), .string (bs [])] 51), _, _] _) => ?_)
    clear hS14
    refine hK _ _ ?_; clear hK K
    refine l_e rfl (fun K hK => ?_)
    refine e_storeA hS15 rfl rfl (by kernel_rfl) (by repeat' (first | exact trivial | refine ⟨by first | rfl | assumption | exact one_if (by assumption), ?_⟩)) (i := 0) rfl rfl (fun w16 (hS16 : St _ _ [.blk b15 (.cells #[.int .i64 (c03 op a b).1.1, .int .i64 (c03 op a b).1.2.1, .string (bs ((c03 op a b).1.2.2))] 51), _, _] _) => ?_)
    clear hS15
    refine hK _ _ ?_; clear hK K
    refine l_q rfl rfl (q_assign rfl) ?_
    refine l_nil ?_
    refine hK13 _ _ ?_
    refine wp_seq_k (fun K17 hK17 => ?_)
    refine wp_region_lit ?_
    refine l_q rfl rfl (q_moveI rfl) ?_
    refine l_q rfl rfl (q_loadA (m := 3) rfl (by kernel_rfl) (by kernel_rfl) (hS16.blk (i := 2) rfl) rfl rfl) ?_
    refine l_q rfl rfl (q_loadA (m := 3) rfl (by kernel_rfl) (by kernel_rfl) (hS16.blk (i := 1) rfl) rfl rfl) ?_
    refine l_e rfl (fun K hK => ?_)
    refine e_call (by kernel_rfl) (rcompare_ok op a b haB hbB han0 han1 hbn0 hbn1 _) rfl (after_R hS16 (fun v18 w18 hv18 hS18 => ?_))
    clear hS16
    obtain rfl := hv18
    refine hK _ _ ?_; clear hK K
    refine l_q rfl rfl (q_move rfl) ?_
    refine l_q rfl rfl (q_extract rfl rfl) ?_
    refine l_q rfl rfl (q_extract rfl rfl) ?_
    refine l_e rfl (fun K hK => ?_)
    refine e_alloc (zv := .agg #[.int .i64 0, .int .i64 0, .string ⟨#[]⟩]) hS18 (by kernel_rfl) (fun b19 w19 (hS19 : St _ _ [.blk b19 (.cells #[.int .i64 (0 : Int), .int .i64 (0 : Int), .string (bs [])] 51), _, _, _] _) => ?_)
    clear hS18
    refine hK _ _ ?_; clear hK K
    refine l_e rfl (fun K hK => ?_)
    refine e_alloc (zv := .agg #[.int .i64 0, .int .i64 0]) hS19 (by kernel_rfl) (fun b20 w20 (hS20 : St _ _ [.blk b20 (.cells #[.int .i64 (0 : Int), .int .i64 (0 : Int)] 72), _, _, _, _] _) => ?_)
    clear hS19
    refine hK _ _ ?_; clear hK K
    refine l_e rfl (fun K hK => ?_)
    refine e_storeA hS20 rfl rfl (by kernel_rfl) (by repeat' (first | exact trivial | refine ⟨by first | rfl | assumption | exact one_if (by assumption), ?_⟩)) (i := 1) rfl rfl (fun w21 (hS21 : St _ _ [_, .blk b19 (.cells #[.int .i64 (c03 op a b).1.1, .int .i64 (c03 op a b).1.2.1, .string (bs ((c03 op a b).1.2.2))] 51), _, _, _] _) => ?_)
    clear hS20
    refine hK _ _ ?_; clear hK K
    refine l_e rfl (fun K hK => ?_)
    refine e_storeA hS21 rfl rfl (by kernel_rfl) (by repeat' (first | exact trivial | refine ⟨by first | rfl | assumption | exact one_if (by assumption), ?_⟩)) (i := 0) rfl rfl (fun w22 (hS22 : St _ _ [.blk b20 (.cells #[.int .i64 (c03 op a b).2.1, .int .i64 (c03 op a b).2.2] 72), _, _, _, _] _) => ?_)
    clear hS21
    refine hK _ _ ?_; clear hK K
    refine l_nil ?_
    refine hK17 _ _ ?_
    refine wp_seq_k (fun K23 hK23 => ?_)
    refine wp_region_lit ?_
    refine l_q rfl rfl (q_loadA (m := 3) rfl (by kernel_rfl) (by kernel_rfl) (hS22.blk (i := 4) rfl) rfl rfl) ?_
    refine l_q rfl rfl (q_loadA (m := 3) rfl (by kernel_rfl) (by kernel_rfl) (hS22.blk (i := 3) rfl) rfl rfl) ?_
    by_cases hs : (sg03 a b).2.1 = 0
    ·
     refine l_e rfl (fun K hK => ?_)
     refine e_call (by kernel_rfl) (sign_good a b haB hbB han0 han1 hbn0 hbn1 hs _) rfl (after_R hS22 (fun v24 w24 hv24 hS24 => ?_))
     clear hS22
     obtain rfl := hv24
     refine hK _ _ ?_; clear hK K
     refine l_q rfl rfl (q_move rfl) ?_
     refine l_q rfl rfl (q_extract rfl rfl) ?_
     refine l_q rfl rfl (q_extract rfl rfl) ?_
     refine l_q rfl rfl (q_assignI rfl) ?_
     refine l_q rfl rfl (q_assign rfl) ?_
     refine l_nil ?_
     refine hK23 _ _ ?_
     refine wp_seq_k (fun K25 hK25 => ?_)
     refine wp_region_lit ?_
     refine l_q rfl rfl (q_loadA (m := 3) rfl (by kernel_rfl) (by kernel_rfl) (hS24.blk (i := 4) rfl) rfl rfl) ?_
     refine l_q rfl rfl (q_loadA (m := 3) rfl (by kernel_rfl) (by kernel_rfl) (hS24.blk (i := 3) rfl) rfl rfl) ?_
     refine l_e rfl (fun K hK => ?_)
     refine e_call (by kernel_rfl) (rsign_ok a b haB hbB han0 han1 hbn0 hbn1 _) rfl (after_R hS24 (fun v26 w26 hv26 hS26 => ?_))
     clear hS24
     obtain rfl := hv26
     refine hK _ _ ?_; clear hK K
     refine l_q rfl rfl (q_move rfl) ?_
     refine l_q rfl rfl (q_extract rfl rfl) ?_
     refine l_q rfl rfl (q_extract rfl rfl) ?_
     refine l_e rfl (fun K hK => ?_)
     refine e_alloc (zv := .agg #[.int .i64 0, .int .i64 0]) hS26 (by kernel_rfl) (fun b27 w27 (hS27 : St _ _ [.blk b27 (.cells #[.int .i64 (0 : Int), .int .i64 (0 : Int)] 72), _, _, _, _, _] _) => ?_)
     clear hS26
     refine hK _ _ ?_; clear hK K
     refine l_q rfl rfl (q_assignI rfl) ?_
     refine l_e rfl (fun K hK => ?_)
     refine e_storeA hS27 rfl rfl (by kernel_rfl) (by repeat' (first | exact trivial | refine ⟨by first | rfl | assumption | exact one_if (by assumption), ?_⟩)) (i := 0) rfl rfl (fun w28 (hS28 : St _ _ [.blk b27 (.cells #[.int .i64 (sg03 a b).2.1, .int .i64 (sg03 a b).2.2] 72), _, _, _, _, _] _) => ?_)
     clear hS27
     refine hK _ _ ?_; clear hK K
     refine l_nil ?_
     refine hK25 _ _ ?_
     refine wp_seq_k (fun K29 hK29 => ?_)
     refine wp_region_lit ?_
     refine l_q rfl rfl (q_move rfl) ?_
     refine l_q rfl rfl (q_loadA (m := 2) rfl (by kernel_rfl) (by kernel_rfl) (hS28.blk (i := 1) rfl) rfl rfl) ?_
     refine l_e rfl (fun K hK => ?_)
     refine e_call (by kernel_rfl) (told_nil ((c03 op a b).2.1) ((c03 op a b).2.2) _ (hl.keep id hS28)) rfl (after_R hS28 (fun v30 w30 hv30 hS30 => ?_))
     clear hS28
     obtain rfl := hv30
     refine hK _ _ ?_; clear hK K
     refine l_q rfl rfl (q_assignB rfl) ?_
     refine l_nil ?_
     refine hK29 _ _ ?_
     refine wp_seq_k (fun K31 hK31 => ?_)
     refine wp_region_lit ?_
     refine l_q rfl rfl (q_move rfl) ?_
     refine l_q rfl rfl (q_loadA (m := 2) rfl (by kernel_rfl) (by kernel_rfl) (hS30.blk (i := 0) rfl) rfl rfl) ?_
     refine l_e rfl (fun K hK => ?_)
     refine e_call (by kernel_rfl) (told_nil ((sg03 a b).2.1) ((sg03 a b).2.2) _ (hl.keep id hS30)) rfl (after_R hS30 (fun v32 w32 hv32 hS32 => ?_))
     clear hS30
     obtain rfl := hv32
     refine hK _ _ ?_; clear hK K
     refine l_q rfl rfl (q_assignB rfl) ?_
     refine l_nil ?_
     refine hK31 _ _ ?_
     refine wp_seq_k (fun K33 hK33 => ?_)
     refine wp_region_lit ?_
     refine l_e rfl (fun K hK => ?_)
     refine e_call (by kernel_rfl) (alive_RQ _ (hl.keep id hS32)) rfl (after_R hS32 (fun v34 w34 hv34 hS34 => ?_))
     clear hS32
     obtain rfl := hv34
     refine hK _ _ ?_; clear hK K
     refine l_q rfl rfl (q_moveB rfl) ?_
     refine l_on rfl rfl rfl ?_
     refine l_q rfl rfl (q_loadA (m := 3) rfl (by kernel_rfl) (by kernel_rfl) (hS34.blk (i := 3) rfl) rfl rfl) ?_
     refine l_on rfl rfl rfl ?_
     refine l_q rfl rfl (q_loadA (m := 3) rfl (by kernel_rfl) (by kernel_rfl) (hS34.blk (i := 2) rfl) rfl rfl) ?_
     refine l_on rfl rfl rfl ?_
     refine l_q rfl rfl (q_iis_eql (a := (c03 op a b).1.1) (b := (c03 op a b).1.2.1) (l := (c03 op a b).1.2.2) (a' := (c03 op a b).1.1) (b' := (c03 op a b).1.2.1) (l' := (c03 op a b).1.2.2) rfl rfl (by kernel_rfl) (c03_bytes op a b) (c03_bytes op a b)) ?_
     refine l_q rfl rfl (q_pickT rfl rfl rfl) ?_
     refine l_q rfl rfl (q_moveB rfl) ?_
     refine l_on rfl rfl (decide_eq_true rfl) ?_
     refine l_q rfl rfl (q_moveI rfl) ?_
     refine l_on rfl rfl (decide_eq_true rfl) ?_
     refine l_q rfl rfl (q_moveI rfl) ?_
     refine l_on rfl rfl (decide_eq_true rfl) ?_
     refine l_q rfl rfl (q_eql rfl rfl) ?_
     refine l_q rfl rfl (q_pickT rfl (decide_eq_true rfl) rfl) ?_
     refine l_q rfl rfl (q_moveB rfl) ?_
     refine l_on rfl rfl (decide_eq_true rfl) ?_
     refine l_q rfl rfl (q_moveB rfl) ?_
     refine l_q rfl rfl (q_pickT rfl (decide_eq_true rfl) rfl) ?_
     refine l_q rfl rfl (q_moveB rfl) ?_
     refine l_on rfl rfl (decide_eq_true ⟨hc.symm, (c03_fine hc).symm⟩) ?_
     refine l_q rfl rfl (q_moveB rfl) ?_
     refine l_q rfl rfl (q_pickT rfl (decide_eq_true ⟨hc.symm, (c03_fine hc).symm⟩) rfl) ?_
     refine l_q rfl rfl (q_assignB rfl) ?_
     refine l_nil ?_
     refine hK33 _ _ ?_
     refine wp_ret ?_
     refine c_ret1 rfl rfl ?_
     exact ⟨_, rfl, by first | rfl | exact congrArg Value.bool (decide_eq_true ⟨rfl, rfl⟩) | exact congrArg Value.bool (decide_eq_true ⟨hs.symm, (sg03_fine hs).symm⟩), hS34.drop⟩
    ·
     refine l_e rfl (fun K hK => ?_)
     refine e_call (by kernel_rfl) (sign_bad a b haB hbB han0 han1 hbn0 hbn1 hs _) rfl (after_N hS22 (fun v37 G37 w37 hv37 hS37 => ?_))
     clear hS22
     obtain ⟨b37, rfl, rfl⟩ := hv37
     have hS38 : St _ _ [.blk b37 (.cells #[.int .i64 (sg03 a b).2.1, .int .i64 (sg03 a b).2.2, _] 87), _, _, _, _, _] _ := hS37; clear hS37
     refine hK _ _ ?_; clear hK K
     refine l_q rfl rfl (q_move rfl) ?_
     refine l_q rfl rfl (q_extract rfl rfl) ?_
     refine l_q rfl rfl (q_extract rfl rfl) ?_
     refine l_q rfl rfl (q_assignI rfl) ?_
     refine l_q rfl rfl (q_assign rfl) ?_
     refine l_nil ?_
     refine hK23 _ _ ?_
     refine wp_seq_k (fun K39 hK39 => ?_)
     refine wp_region_lit ?_
     refine l_q rfl rfl (q_loadA (m := 3) rfl (by kernel_rfl) (by kernel_rfl) (hS38.blk (i := 5) rfl) rfl rfl) ?_
     refine l_q rfl rfl (q_loadA (m := 3) rfl (by kernel_rfl) (by kernel_rfl) (hS38.blk (i := 4) rfl) rfl rfl) ?_
     refine l_e rfl (fun K hK => ?_)
     refine e_call (by kernel_rfl) (rsign_bad a b haB hbB han0 han1 hbn0 hbn1 hs _) rfl (after_R hS38 (fun v40 w40 hv40 hS40 => ?_))
     clear hS38
     obtain rfl := hv40
     refine hK _ _ ?_; clear hK K
     refine l_q rfl rfl (q_move rfl) ?_
     refine l_q rfl rfl (q_extract rfl rfl) ?_
     refine l_q rfl rfl (q_extract rfl rfl) ?_
     refine l_e rfl (fun K hK => ?_)
     refine e_alloc (zv := .agg #[.int .i64 0, .int .i64 0]) hS40 (by kernel_rfl) (fun b41 w41 (hS41 : St _ _ [.blk b41 (.cells #[.int .i64 (0 : Int), .int .i64 (0 : Int)] 72), _, _, _, _, _, _] _) => ?_)
     clear hS40
     refine hK _ _ ?_; clear hK K
     refine l_q rfl rfl (q_assignI rfl) ?_
     refine l_e rfl (fun K hK => ?_)
     refine e_storeA hS41 rfl rfl (by kernel_rfl) (by repeat' (first | exact trivial | refine ⟨by first | rfl | assumption | exact one_if (by assumption), ?_⟩)) (i := 0) rfl rfl (fun w42 (hS42 : St _ _ [.blk b41 (.cells #[.int .i64 (sg03 a b).2.1, .int .i64 (sg03 a b).2.2] 72), _, _, _, _, _, _] _) => ?_)
     clear hS41
     refine hK _ _ ?_; clear hK K
     refine l_nil ?_
     refine hK39 _ _ ?_
     refine wp_seq_k (fun K43 hK43 => ?_)
     refine wp_region_lit ?_
     refine l_q rfl rfl (q_move rfl) ?_
     refine l_q rfl rfl (q_loadA (m := 2) rfl (by kernel_rfl) (by kernel_rfl) (hS42.blk (i := 2) rfl) rfl rfl) ?_
     refine l_e rfl (fun K hK => ?_)
     refine e_call (by kernel_rfl) (told_nil ((c03 op a b).2.1) ((c03 op a b).2.2) _ (hl.keep id hS42)) rfl (after_R hS42 (fun v44 w44 hv44 hS44 => ?_))
     clear hS42
     obtain rfl := hv44
     refine hK _ _ ?_; clear hK K
     refine l_q rfl rfl (q_assignB rfl) ?_
     refine l_nil ?_
     refine hK43 _ _ ?_
     refine wp_seq_k (fun K45 hK45 => ?_)
     refine wp_region_lit ?_
     refine l_q rfl rfl (q_move rfl) ?_
     refine l_q rfl rfl (q_loadA (m := 2) rfl (by kernel_rfl) (by kernel_rfl) (hS44.blk (i := 0) rfl) rfl rfl) ?_
     refine l_e rfl (fun K hK => ?_)
     refine e_call (by kernel_rfl) (told_flt ((sg03 a b).2.1) ((sg03 a b).2.2) b37 hs ((sg03 a b).2.1) ((sg03 a b).2.2) _ (hl.keep id hS44) (hS44.blk (i := 1) rfl)) rfl (after_R hS44 (fun v46 w46 hv46 hS46 => ?_))
     clear hS44
     obtain rfl := hv46
     refine hK _ _ ?_; clear hK K
     refine l_q rfl rfl (q_assignB rfl) ?_
     refine l_nil ?_
     refine hK45 _ _ ?_
     refine wp_seq_k (fun K47 hK47 => ?_)
     refine wp_region_lit ?_
     refine l_e rfl (fun K hK => ?_)
     refine e_call (by kernel_rfl) (alive_RQ _ (hl.keep id hS46)) rfl (after_R hS46 (fun v48 w48 hv48 hS48 => ?_))
     clear hS46
     obtain rfl := hv48
     refine hK _ _ ?_; clear hK K
     refine l_q rfl rfl (q_moveB rfl) ?_
     refine l_on rfl rfl rfl ?_
     refine l_q rfl rfl (q_loadA (m := 3) rfl (by kernel_rfl) (by kernel_rfl) (hS48.blk (i := 4) rfl) rfl rfl) ?_
     refine l_on rfl rfl rfl ?_
     refine l_q rfl rfl (q_loadA (m := 3) rfl (by kernel_rfl) (by kernel_rfl) (hS48.blk (i := 3) rfl) rfl rfl) ?_
     refine l_on rfl rfl rfl ?_
     refine l_q rfl rfl (q_iis_eql (a := (c03 op a b).1.1) (b := (c03 op a b).1.2.1) (l := (c03 op a b).1.2.2) (a' := (c03 op a b).1.1) (b' := (c03 op a b).1.2.1) (l' := (c03 op a b).1.2.2) rfl rfl (by kernel_rfl) (c03_bytes op a b) (c03_bytes op a b)) ?_
     refine l_q rfl rfl (q_pickT rfl rfl rfl) ?_
     refine l_q rfl rfl (q_moveB rfl) ?_
     refine l_on rfl rfl (decide_eq_true rfl) ?_
     refine l_q rfl rfl (q_moveI rfl) ?_
     refine l_on rfl rfl (decide_eq_true rfl) ?_
     refine l_q rfl rfl (q_moveI rfl) ?_
     refine l_on rfl rfl (decide_eq_true rfl) ?_
     refine l_q rfl rfl (q_eql rfl rfl) ?_
     refine l_q rfl rfl (q_pickT rfl (decide_eq_true rfl) rfl) ?_
     refine l_q rfl rfl (q_moveB rfl) ?_
     refine l_on rfl rfl (by decide) ?_
     refine l_q rfl rfl (q_moveB rfl) ?_
     refine l_q rfl rfl (q_pickT rfl (by decide) rfl) ?_
     refine l_q rfl rfl (q_moveB rfl) ?_
     refine l_on rfl rfl (decide_eq_true ⟨hc.symm, (c03_fine hc).symm⟩) ?_
     refine l_q rfl rfl (q_moveB rfl) ?_
     refine l_q rfl rfl (q_pickT rfl (decide_eq_true ⟨hc.symm, (c03_fine hc).symm⟩) rfl) ?_
     refine l_q rfl rfl (q_assignB rfl) ?_
     refine l_nil ?_
     refine hK47 _ _ ?_
     refine wp_ret ?_
     refine c_ret1 rfl rfl ?_
     exact ⟨_, rfl, by first | rfl | exact congrArg Value.bool (decide_eq_true ⟨rfl, rfl⟩) | exact congrArg Value.bool (decide_eq_true ⟨hs.symm, (sg03_fine hs).symm⟩), hS48.drop⟩
   ·
    refine l_e rfl (fun K hK => ?_)
    refine e_call (by kernel_rfl) (cmpb_op op a b haB hbB han0 han1 hbn0 hbn1 hc _) rfl (after_N hS3 (fun v50 G50 w50 hv50 hS50 => ?_))
    clear hS3
    obtain ⟨b50, rfl, rfl⟩ := hv50
    have hS51 : St _ _ [.blk b50 (.cells #[.int .i64 (c03 op a b).2.1, .int .i64 (c03 op a b).2.2, _] 87), _, _] _ := hS50; clear hS50
    refine hK _ _ ?_; clear hK K
    refine l_q rfl rfl (q_move rfl) ?_
    refine l_q rfl rfl (q_extract rfl rfl) ?_
    refine l_q rfl rfl (q_extract rfl rfl) ?_
    refine l_e rfl (fun K hK => ?_)
    refine e_alloc (zv := .agg #[.int .i64 0, .int .i64 0, .string ⟨#[]⟩]) hS51 (by kernel_rfl) (fun b52 w52 (hS52 : St _ _ [.blk b52 (.cells #[.int .i64 (0 : Int), .int .i64 (0 : Int), .string (bs [])] 51), _, _, _] _) => ?_)
    clear hS51
    refine hK _ _ ?_; clear hK K
    refine l_e rfl (fun K hK => ?_)
    refine e_storeA hS52 rfl rfl (by kernel_rfl) (by repeat' (first | exact trivial | refine ⟨by first | rfl | assumption | exact one_if (by assumption), ?_⟩)) (i := 0) rfl rfl (fun w53 (hS53 : St _ _ [_, _, _, _] _) => ?_)
    clear hS52
    refine hK _ _ ?_; clear hK K
    refine l_q rfl rfl (q_assign rfl) ?_
    refine l_nil ?_
    refine hK13 _ _ ?_
    refine wp_seq_k (fun K54 hK54 => ?_)
    refine wp_region_lit ?_
    refine l_q rfl rfl (q_moveI rfl) ?_
    refine l_q rfl rfl (q_loadA (m := 3) rfl (by kernel_rfl) (by kernel_rfl) (hS53.blk (i := 3) rfl) rfl rfl) ?_
    refine l_q rfl rfl (q_loadA (m := 3) rfl (by kernel_rfl) (by kernel_rfl) (hS53.blk (i := 2) rfl) rfl rfl) ?_
    refine l_e rfl (fun K hK => ?_)
    refine e_call (by kernel_rfl) (rcmp_bad op a b haB hbB han0 han1 hbn0 hbn1 hc _) rfl (after_R hS53 (fun v55 w55 hv55 hS55 => ?_))
    clear hS53
    obtain rfl := hv55
    refine hK _ _ ?_; clear hK K
    refine l_q rfl rfl (q_move rfl) ?_
    refine l_q rfl rfl (q_extract rfl rfl) ?_
    refine l_q rfl rfl (q_extract rfl rfl) ?_
    refine l_e rfl (fun K hK => ?_)
    refine e_alloc (zv := .agg #[.int .i64 0, .int .i64 0, .string ⟨#[]⟩]) hS55 (by kernel_rfl) (fun b56 w56 (hS56 : St _ _ [.blk b56 (.cells #[.int .i64 (0 : Int), .int .i64 (0 : Int), .string (bs [])] 51), _, _, _, _] _) => ?_)
    clear hS55
    refine hK _ _ ?_; clear hK K
    refine l_e rfl (fun K hK => ?_)
    refine e_alloc (zv := .agg #[.int .i64 0, .int .i64 0]) hS56 (by kernel_rfl) (fun b57 w57 (hS57 : St _ _ [.blk b57 (.cells #[.int .i64 (0 : Int), .int .i64 (0 : Int)] 72), _, _, _, _, _] _) => ?_)
    clear hS56
    refine hK _ _ ?_; clear hK K
    refine l_e rfl (fun K hK => ?_)
    refine e_storeA hS57 rfl rfl (by kernel_rfl) (by repeat' (first | exact trivial | refine ⟨by first | rfl | assumption | exact one_if (by assumption), ?_⟩)) (i := 1) rfl rfl (fun w58 (hS58 : St _ _ [_, _, _, _, _, _] _) => ?_)
    clear hS57
    refine hK _ _ ?_; clear hK K
    refine l_e rfl (fun K hK => ?_)
    refine e_storeA hS58 rfl rfl (by kernel_rfl) (by repeat' (first | exact trivial | refine ⟨by first | rfl | assumption | exact one_if (by assumption), ?_⟩)) (i := 0) rfl rfl (fun w59 (hS59 : St _ _ [.blk b57 (.cells #[.int .i64 (c03 op a b).2.1, .int .i64 (c03 op a b).2.2] 72), _, _, _, _, _] _) => ?_)
    clear hS58
    refine hK _ _ ?_; clear hK K
    refine l_nil ?_
    refine hK54 _ _ ?_
    refine wp_seq_k (fun K60 hK60 => ?_)
    refine wp_region_lit ?_
    refine l_q rfl rfl (q_loadA (m := 3) rfl (by kernel_rfl) (by kernel_rfl) (hS59.blk (i := 5) rfl) rfl rfl) ?_
    refine l_q rfl rfl (q_loadA (m := 3) rfl (by kernel_rfl) (by kernel_rfl) (hS59.blk (i := 4) rfl) rfl rfl) ?_
    by_cases hs : (sg03 a b).2.1 = 0
    ·
     refine l_e rfl (fun K hK => ?_)
     refine e_call (by kernel_rfl) (sign_good a b haB hbB han0 han1 hbn0 hbn1 hs _) rfl (after_R hS59 (fun v61 w61 hv61 hS61 => ?_))
     clear hS59
     obtain rfl := hv61
     refine hK _ _ ?_; clear hK K
     refine l_q rfl rfl (q_move rfl) ?_
     refine l_q rfl rfl (q_extract rfl rfl) ?_
     refine l_q rfl rfl (q_extract rfl rfl) ?_
     refine l_q rfl rfl (q_assignI rfl) ?_
     refine l_q rfl rfl (q_assign rfl) ?_
     refine l_nil ?_
     refine hK60 _ _ ?_
     refine wp_seq_k (fun K62 hK62 => ?_)
     refine wp_region_lit ?_
     refine l_q rfl rfl (q_loadA (m := 3) rfl (by kernel_rfl) (by kernel_rfl) (hS61.blk (i := 5) rfl) rfl rfl) ?_
     refine l_q rfl rfl (q_loadA (m := 3) rfl (by kernel_rfl) (by kernel_rfl) (hS61.blk (i := 4) rfl) rfl rfl) ?_
     refine l_e rfl (fun K hK => ?_)
     refine e_call (by kernel_rfl) (rsign_ok a b haB hbB han0 han1 hbn0 hbn1 _) rfl (after_R hS61 (fun v63 w63 hv63 hS63 => ?_))
     clear hS61
     obtain rfl := hv63
     refine hK _ _ ?_; clear hK K
     refine l_q rfl rfl (q_move rfl) ?_
     refine l_q rfl rfl (q_extract rfl rfl) ?_
     refine l_q rfl rfl (q_extract rfl rfl) ?_
     refine l_e rfl (fun K hK => ?_)
     refine e_alloc (zv := .agg #[.int .i64 0, .int .i64 0]) hS63 (by kernel_rfl) (fun b64 w64 (hS64 : St _ _ [.blk b64 (.cells #[.int .i64 (0 : Int), .int .i64 (0 : Int)] 72), _, _, _, _, _, _] _) => ?_)
     clear hS63
     refine hK _ _ ?_; clear hK K
     refine l_q rfl rfl (q_assignI rfl) ?_
     refine l_e rfl (fun K hK => ?_)
     refine e_storeA hS64 rfl rfl (by kernel_rfl) (by repeat' (first | exact trivial | refine ⟨by first | rfl | assumption | exact one_if (by assumption), ?_⟩)) (i := 0) rfl rfl (fun w65 (hS65 : St _ _ [.blk b64 (.cells #[.int .i64 (sg03 a b).2.1, .int .i64 (sg03 a b).2.2] 72), _, _, _, _, _, _] _) => ?_)
     clear hS64
     refine hK _ _ ?_; clear hK K
     refine l_nil ?_
     refine hK62 _ _ ?_
     refine wp_seq_k (fun K66 hK66 => ?_)
     refine wp_region_lit ?_
     refine l_q rfl rfl (q_move rfl) ?_
     refine l_q rfl rfl (q_loadA (m := 2) rfl (by kernel_rfl) (by kernel_rfl) (hS65.blk (i := 1) rfl) rfl rfl) ?_
     refine l_e rfl (fun K hK => ?_)
     refine e_call (by kernel_rfl) (told_flt ((c03 op a b).2.1) ((c03 op a b).2.2) b50 hc ((c03 op a b).2.1) ((c03 op a b).2.2) _ (hl.keep id hS65) (hS65.blk (i := 4) rfl)) rfl (after_R hS65 (fun v67 w67 hv67 hS67 => ?_))
     clear hS65
     obtain rfl := hv67
     refine hK _ _ ?_; clear hK K
     refine l_q rfl rfl (q_assignB rfl) ?_
     refine l_nil ?_
     refine hK66 _ _ ?_
     refine wp_seq_k (fun K68 hK68 => ?_)
     refine wp_region_lit ?_
     refine l_q rfl rfl (q_move rfl) ?_
     refine l_q rfl rfl (q_loadA (m := 2) rfl (by kernel_rfl) (by kernel_rfl) (hS67.blk (i := 0) rfl) rfl rfl) ?_
     refine l_e rfl (fun K hK => ?_)
     refine e_call (by kernel_rfl) (told_nil ((sg03 a b).2.1) ((sg03 a b).2.2) _ (hl.keep id hS67)) rfl (after_R hS67 (fun v69 w69 hv69 hS69 => ?_))
     clear hS67
     obtain rfl := hv69
     refine hK _ _ ?_; clear hK K
     refine l_q rfl rfl (q_assignB rfl) ?_
     refine l_nil ?_
     refine hK68 _ _ ?_
     refine wp_seq_k (fun K70 hK70 => ?_)
     refine wp_region_lit ?_
     refine l_e rfl (fun K hK => ?_)
     refine e_call (by kernel_rfl) (alive_RQ _ (hl.keep id hS69)) rfl (after_R hS69 (fun v71 w71 hv71 hS71 => ?_))
     clear hS69
     obtain rfl := hv71
     refine hK _ _ ?_; clear hK K
     refine l_q rfl rfl (q_moveB rfl) ?_
     refine l_on rfl rfl rfl ?_
     refine l_q rfl rfl (q_loadA (m := 3) rfl (by kernel_rfl) (by kernel_rfl) (hS71.blk (i := 3) rfl) rfl rfl) ?_
     refine l_on rfl rfl rfl ?_
     refine l_q rfl rfl (q_loadA (m := 3) rfl (by kernel_rfl) (by kernel_rfl) (hS71.blk (i := 2) rfl) rfl rfl) ?_
     refine l_on rfl rfl rfl ?_
     refine l_q rfl rfl (q_iis_eql (a := (0 : Int)) (b := (0 : Int)) (l := []) (a' := (0 : Int)) (b' := (0 : Int)) (l' := []) rfl rfl (by kernel_rfl) Bytes.nil Bytes.nil) ?_
     refine l_q rfl rfl (q_pickT rfl rfl rfl) ?_
     refine l_q rfl rfl (q_moveB rfl) ?_
     refine l_on rfl rfl (decide_eq_true rfl) ?_
     refine l_q rfl rfl (q_moveI rfl) ?_
     refine l_on rfl rfl (decide_eq_true rfl) ?_
     refine l_q rfl rfl (q_moveI rfl) ?_
     refine l_on rfl rfl (decide_eq_true rfl) ?_
     refine l_q rfl rfl (q_eql rfl rfl) ?_
     refine l_q rfl rfl (q_pickT rfl (decide_eq_true rfl) rfl) ?_
     refine l_q rfl rfl (q_moveB rfl) ?_
     refine l_on rfl rfl (decide_eq_true rfl) ?_
     refine l_q rfl rfl (q_moveB rfl) ?_
     refine l_q rfl rfl (q_pickT rfl (decide_eq_true rfl) rfl) ?_
     refine l_q rfl rfl (q_moveB rfl) ?_
     refine l_on rfl rfl (decide_eq_true ⟨rfl, rfl⟩) ?_
     refine l_q rfl rfl (q_moveB rfl) ?_
     refine l_q rfl rfl (q_pickT rfl (decide_eq_true ⟨rfl, rfl⟩) rfl) ?_
     refine l_q rfl rfl (q_assignB rfl) ?_
     refine l_nil ?_
     refine hK70 _ _ ?_
     refine wp_ret ?_
     refine c_ret1 rfl rfl ?_
     exact ⟨_, rfl, by first | rfl | exact congrArg Value.bool (decide_eq_true ⟨rfl, rfl⟩) | exact congrArg Value.bool (decide_eq_true ⟨hs.symm, (sg03_fine hs).symm⟩), hS71.drop⟩
    ·
     refine l_e rfl (fun K hK => ?_)
     refine e_call (by kernel_rfl) (sign_bad a b haB hbB han0 han1 hbn0 hbn1 hs _) rfl (after_N hS59 (fun v74 G74 w74 hv74 hS74 => ?_))
     clear hS59
     obtain ⟨b74, rfl, rfl⟩ := hv74
     have hS75 : St _ _ [.blk b74 (.cells #[.int .i64 (sg03 a b).2.1, .int .i64 (sg03 a b).2.2, _] 87), _, _, _, _, _, _] _ := hS74; clear hS74
     refine hK _ _ ?_; clear hK K
     refine l_q rfl rfl (q_move rfl) ?_
     refine l_q rfl rfl (q_extract rfl rfl) ?_
     refine l_q rfl rfl (q_extract rfl rfl) ?_
     refine l_q rfl rfl (q_assignI rfl) ?_
     refine l_q rfl rfl (q_assign rfl) ?_
     refine l_nil ?_
     refine hK60 _ _ ?_
     refine wp_seq_k (fun K76 hK76 => ?_)
     refine wp_region_lit ?_
     refine l_q rfl rfl (q_loadA (m := 3) rfl (by kernel_rfl) (by kernel_rfl) (hS75.blk (i := 6) rfl) rfl rfl) ?_
     refine l_q rfl rfl (q_loadA (m := 3) rfl (by kernel_rfl) (by kernel_rfl) (hS75.blk (i := 5) rfl) rfl rfl) ?_
     refine l_e rfl (fun K hK => ?_)
     refine e_call (by kernel_rfl) (rsign_bad a b haB hbB han0 han1 hbn0 hbn1 hs _) rfl (after_R hS75 (fun v77 w77 hv77 hS77 => ?_))
     clear hS75
     obtain rfl := hv77
     refine hK _ _ ?_; clear hK K
     refine l_q rfl rfl (q_move rfl) ?_
     refine l_q rfl rfl (q_extract rfl rfl) ?_
     refine l_q rfl rfl (q_extract rfl rfl) ?_
     refine l_e rfl (fun K hK => ?_)
     refine e_alloc (zv := .agg #[.int .i64 0, .int .i64 0]) hS77 (by kernel_rfl) (fun b78 w78 (hS78 : St _ _ [.blk b78 (.cells #[.int .i64 (0 : Int), .int .i64 (0 : Int)] 72), _, _, _, _, _, _, _] _) => ?_)
     clear hS77
     refine hK _ _ ?_; clear hK K
     refine l_q rfl rfl (q_assignI rfl) ?_
     refine l_e rfl (fun K hK => ?_)
     refine e_storeA hS78 rfl rfl (by kernel_rfl) (by repeat' (first | exact trivial | refine ⟨by first | rfl | assumption | exact one_if (by assumption), ?_⟩)) (i := 0) rfl rfl (fun w79 (hS79 : St _ _ [.blk b78 (.cells #[.int .i64 (sg03 a b).2.1, .int .i64 (sg03 a b).2.2] 72), _, _, _, _, _, _, _] _) => ?_)
     clear hS78
     refine hK _ _ ?_; clear hK K
     refine l_nil ?_
     refine hK76 _ _ ?_
     refine wp_seq_k (fun K80 hK80 => ?_)
     refine wp_region_lit ?_
     refine l_q rfl rfl (q_move rfl) ?_
     refine l_q rfl rfl (q_loadA (m := 2) rfl (by kernel_rfl) (by kernel_rfl) (hS79.blk (i := 2) rfl) rfl rfl) ?_
     refine l_e rfl (fun K hK => ?_)
     refine e_call (by kernel_rfl) (told_flt ((c03 op a b).2.1) ((c03 op a b).2.2) b50 hc ((c03 op a b).2.1) ((c03 op a b).2.2) _ (hl.keep id hS79) (hS79.blk (i := 5) rfl)) rfl (after_R hS79 (fun v81 w81 hv81 hS81 => ?_))
     clear hS79
     obtain rfl := hv81
     refine hK _ _ ?_; clear hK K
     refine l_q rfl rfl (q_assignB rfl) ?_
     refine l_nil ?_
     refine hK80 _ _ ?_
     refine wp_seq_k (fun K82 hK82 => ?_)
     refine wp_region_lit ?_
     refine l_q rfl rfl (q_move rfl) ?_
     refine l_q rfl rfl (q_loadA (m := 2) rfl (by kernel_rfl) (by kernel_rfl) (hS81.blk (i := 0) rfl) rfl rfl) ?_
     refine l_e rfl (fun K hK => ?_)
     refine e_call (by kernel_rfl) (told_flt ((sg03 a b).2.1) ((sg03 a b).2.2) b74 hs ((sg03 a b).2.1) ((sg03 a b).2.2) _ (hl.keep id hS81) (hS81.blk (i := 1) rfl)) rfl (after_R hS81 (fun v83 w83 hv83 hS83 => ?_))
     clear hS81
     obtain rfl := hv83
     refine hK _ _ ?_; clear hK K
     refine l_q rfl rfl (q_assignB rfl) ?_
     refine l_nil ?_
     refine hK82 _ _ ?_
     refine wp_seq_k (fun K84 hK84 => ?_)
     refine wp_region_lit ?_
     refine l_e rfl (fun K hK => ?_)
     refine e_call (by kernel_rfl) (alive_RQ _ (hl.keep id hS83)) rfl (after_R hS83 (fun v85 w85 hv85 hS85 => ?_))
     clear hS83
     obtain rfl := hv85
     refine hK _ _ ?_; clear hK K
     refine l_q rfl rfl (q_moveB rfl) ?_
     refine l_on rfl rfl rfl ?_
     refine l_q rfl rfl (q_loadA (m := 3) rfl (by kernel_rfl) (by kernel_rfl) (hS85.blk (i := 4) rfl) rfl rfl) ?_
     refine l_on rfl rfl rfl ?_
     refine l_q rfl rfl (q_loadA (m := 3) rfl (by kernel_rfl) (by kernel_rfl) (hS85.blk (i := 3) rfl) rfl rfl) ?_
     refine l_on rfl rfl rfl ?_
     refine l_q rfl rfl (q_iis_eql (a := (0 : Int)) (b := (0 : Int)) (l := []) (a' := (0 : Int)) (b' := (0 : Int)) (l' := []) rfl rfl (by kernel_rfl) Bytes.nil Bytes.nil) ?_
     refine l_q rfl rfl (q_pickT rfl rfl rfl) ?_
     refine l_q rfl rfl (q_moveB rfl) ?_
     refine l_on rfl rfl (decide_eq_true rfl) ?_
     refine l_q rfl rfl (q_moveI rfl) ?_
     refine l_on rfl rfl (decide_eq_true rfl) ?_
     refine l_q rfl rfl (q_moveI rfl) ?_
     refine l_on rfl rfl (decide_eq_true rfl) ?_
     refine l_q rfl rfl (q_eql rfl rfl) ?_
     refine l_q rfl rfl (q_pickT rfl (decide_eq_true rfl) rfl) ?_
     refine l_q rfl rfl (q_moveB rfl) ?_
     refine l_on rfl rfl (by decide) ?_
     refine l_q rfl rfl (q_moveB rfl) ?_
     refine l_q rfl rfl (q_pickT rfl (by decide) rfl) ?_
     refine l_q rfl rfl (q_moveB rfl) ?_
     refine l_on rfl rfl (decide_eq_true ⟨rfl, rfl⟩) ?_
     refine l_q rfl rfl (q_moveB rfl) ?_
     refine l_q rfl rfl (q_pickT rfl (decide_eq_true ⟨rfl, rfl⟩) rfl) ?_
     refine l_q rfl rfl (q_assignB rfl) ?_
     refine l_nil ?_
     refine hK84 _ _ ?_
     refine wp_ret ?_
     refine c_ret1 rfl rfl ?_
     exact ⟨_, rfl, by first | rfl | exact congrArg Value.bool (decide_eq_true ⟨rfl, rfl⟩) | exact congrArg Value.bool (decide_eq_true ⟨hs.symm, (sg03_fine hs).symm⟩), hS85.drop⟩

end Go.Proofs.YtdlmcgflgdmjgaaDoor
