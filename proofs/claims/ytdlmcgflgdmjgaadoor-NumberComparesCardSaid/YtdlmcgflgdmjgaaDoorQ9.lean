/- NumberCompares: number's Compare. -/
import Derived.Test.YtdlmcgflgdmjgaaDoorQ8
set_option linter.unusedVariables false
set_option linter.unusedSimpArgs false
namespace Go.Proofs.YtdlmcgflgdmjgaaDoor
open Go.RowKit
attribute [local irreducible] Oper.wp Sem.run Code.wp wpList wpAnyO callFunc execOp Calls
attribute [local irreducible] rightQ cmpZ cmB orL vcmp
attribute [local irreducible] toU dv sv sgn sclQ sg03

set_option maxHeartbeats 4000000 in
set_option maxRecDepth 100000 in
theorem cmpb_op (op : Int) (a b : Vl) (haB : Bytes a.2.2) (hbB : Bytes b.2.2) (han0 : -9223372036854775808 ≤ a.2.1) (han1 : a.2.1 ≤ 9223372036854775807) (hbn0 : -9223372036854775808 ≤ b.2.1) (hbn1 : b.2.1 ≤ 9223372036854775807) (hz : (c03 op a b).2.1 ≠ 0) (w : World) : Calls Tryd.prog 34 #[.int .i64 op, .agg (vl a).toArray, .agg (vl b).toArray] w (PostN w fun v G => ∃ b', v = .tuple #[.agg #[.int .i64 0, .int .i64 0, .string (bs [])], fV b'] ∧ G = [.blk b' (fO (c03 op a b).2.1 (c03 op a b).2.2 .nilIface)]) := by
 have hS := St.start w
 refine c_enter Tryd.func34 rfl rfl rfl ?_
 refine wp_seq_k (fun K1 hK1 => ?_)
 refine wp_region_lit ?_
 refine l_e rfl (fun K hK => ?_)
 refine e_boxA hS rfl (fun b2 w2 (hS2 : St _ _ [.blk b2 (.cells #[.int .i64 a.1, .int .i64 a.2.1, .string (bs a.2.2)] 51)] _) => ?_)
 clear hS
 refine hK _ _ ?_; clear hK K
 refine l_e rfl (fun K hK => ?_)
 refine e_boxA hS2 rfl (fun b3 w3 (hS3 : St _ _ [.blk b3 (.cells #[.int .i64 b.1, .int .i64 b.2.1, .string (bs b.2.2)] 51), _] _) => ?_)
 clear hS2
 refine hK _ _ ?_; clear hK K
 refine l_e rfl (fun K hK => ?_)
 refine e_alloc (zv := .agg #[.int .i64 0, .int .i64 0, .string ⟨#[]⟩]) hS3 (by kernel_rfl) (fun b4 w4 (hS4 : St _ _ [.blk b4 (.cells #[.int .i64 (0 : Int), .int .i64 (0 : Int), .string (bs [])] 51), _, _] _) => ?_)
 clear hS3
 refine hK _ _ ?_; clear hK K
 refine l_q rfl rfl (q_assign rfl) ?_
 refine l_nil ?_
 refine hK1 _ _ ?_
 refine wp_seq_k (fun K5 hK5 => ?_)
 refine wp_block ?_
 refine wp_seq_k (fun K6 hK6 => ?_)
 refine wp_region_lit ?_
 refine l_q rfl rfl (q_moveI rfl) ?_
 refine l_q rfl rfl (q_lss rfl rfl) ?_
 refine l_q rfl rfl (q_moveB rfl) ?_
 refine g_splitL (t := 15) rfl (fun hg7 => ?_) (fun hg7 => ?_)
 ·
  have hg7b := hg7
  try simp only [decide_eq_true_eq, decide_eq_false_iff_not, Bool.not_eq_true', Bool.not_eq_false', Bool.and_eq_true, Bool.or_eq_true, Int.not_lt, Int.not_le, ne_eq, Decidable.not_not] at hg7
  refine l_off rfl rfl rfl hg7b ?_
  refine l_off rfl rfl rfl hg7b ?_
  refine l_q rfl rfl (q_pickT rfl hg7b rfl) ?_
  refine l_q rfl rfl (q_assignB rfl) ?_
  refine l_nil ?_
  refine hK6 _ _ ?_
  refine c_condT rfl rfl ?_
  refine wp_seq_k (fun K9 hK9 => ?_)
  refine wp_region_lit ?_
  refine l_q rfl rfl (q_build (ps := [(0, 1), (1, 1), (2, 1)]) (zv := .agg #[.int .i64 0, .int .i64 0, .string ⟨#[]⟩]) (by kernel_rfl) (by kernel_rfl) rfl (by repeat' (first | exact trivial | refine ⟨fun _ => by first | rfl | assumption | exact one_if (by assumption), ?_⟩ | refine ⟨fun ⟨_, h⟩ => by simp at h, ?_⟩)) rfl) ?_
  refine l_e rfl (fun K hK => ?_)
  refine e_call (by kernel_rfl) (fnew_ok (1 : Int) (0 : Int) rfl _) rfl (after_N hS4 (fun v10 G10 w10 hv10 hS10 => ?_))
  clear hS4
  obtain ⟨b10, rfl, rfl⟩ := hv10
  have hS11 : St _ _ [.blk b10 (.cells #[.int .i64 (1 : Int), .int .i64 (0 : Int), _] 87), _, _, _] _ := hS10; clear hS10
  refine hK _ _ ?_; clear hK K
  refine l_e rfl (fun K hK => ?_)
  refine e_storeA hS11 rfl rfl (by kernel_rfl) (by repeat' (first | exact trivial | refine ⟨by first | rfl | assumption | exact one_if (by assumption), ?_⟩)) (i := 1) rfl rfl (fun w12 (hS12 : St _ _ [_, _, _, _] _) => ?_)
  clear hS11
  refine hK _ _ ?_; clear hK K
  refine l_q rfl rfl (q_assign rfl) ?_
  refine l_nil ?_
  refine hK9 _ _ ?_
  refine wp_ret ?_
  refine c_retCT (m := 3) rfl (by kernel_rfl) (by kernel_rfl) rfl (hS12.blk (i := 1) rfl) rfl rfl ?_
  have hS13 : St _ _ [_] _ := hS12.only 1; clear hS12
  have he : c03 op a b = _ := c_1 (by omega)
  exact ⟨_, _, rfl, ⟨b10, rfl, by rw [he]⟩, hS13⟩
 ·
  have hg7b := hg7
  try simp only [decide_eq_true_eq, decide_eq_false_iff_not, Bool.not_eq_true', Bool.not_eq_false', Bool.and_eq_true, Bool.or_eq_true, Int.not_lt, Int.not_le, ne_eq, Decidable.not_not] at hg7
  refine l_on rfl rfl hg7b ?_
  refine l_q rfl rfl (q_moveI rfl) ?_
  refine l_on rfl rfl hg7b ?_
  refine l_q rfl rfl (q_gtr rfl rfl) ?_
  refine l_q rfl rfl (q_pickF rfl hg7b rfl) ?_
  refine l_q rfl rfl (q_assignB rfl) ?_
  refine l_nil ?_
  refine hK6 _ _ ?_
  refine c_cond rfl (fun hc14 => ?_) (fun hc14 => ?_)
  ·
   have hc14b := hc14
   try simp only [decide_eq_true_eq, decide_eq_false_iff_not, Bool.not_eq_true', Bool.not_eq_false', Bool.and_eq_true, Bool.or_eq_true, Int.not_lt, Int.not_le, ne_eq, Decidable.not_not] at hc14
   refine wp_seq_k (fun K15 hK15 => ?_)
   refine wp_region_lit ?_
   refine l_q rfl rfl (q_build (ps := [(0, 1), (1, 1), (2, 1)]) (zv := .agg #[.int .i64 0, .int .i64 0, .string ⟨#[]⟩]) (by kernel_rfl) (by kernel_rfl) rfl (by repeat' (first | exact trivial | refine ⟨fun _ => by first | rfl | assumption | exact one_if (by assumption), ?_⟩ | refine ⟨fun ⟨_, h⟩ => by simp at h, ?_⟩)) rfl) ?_
   refine l_e rfl (fun K hK => ?_)
   refine e_call (by kernel_rfl) (fnew_ok (1 : Int) (0 : Int) rfl _) rfl (after_N hS4 (fun v16 G16 w16 hv16 hS16 => ?_))
   clear hS4
   obtain ⟨b16, rfl, rfl⟩ := hv16
   have hS17 : St _ _ [.blk b16 (.cells #[.int .i64 (1 : Int), .int .i64 (0 : Int), _] 87), _, _, _] _ := hS16; clear hS16
   refine hK _ _ ?_; clear hK K
   refine l_e rfl (fun K hK => ?_)
   refine e_storeA hS17 rfl rfl (by kernel_rfl) (by repeat' (first | exact trivial | refine ⟨by first | rfl | assumption | exact one_if (by assumption), ?_⟩)) (i := 1) rfl rfl (fun w18 (hS18 : St _ _ [_, _, _, _] _) => ?_)
   clear hS17
   refine hK _ _ ?_; clear hK K
   refine l_q rfl rfl (q_assign rfl) ?_
   refine l_nil ?_
   refine hK15 _ _ ?_
   refine wp_ret ?_
   refine c_retCT (m := 3) rfl (by kernel_rfl) (by kernel_rfl) rfl (hS18.blk (i := 1) rfl) rfl rfl ?_
   have hS19 : St _ _ [_] _ := hS18.only 1; clear hS18
   have he : c03 op a b = _ := c_1 (by omega)
   exact ⟨_, _, rfl, ⟨b16, rfl, by rw [he]⟩, hS19⟩
  ·
   have hc14b := hc14
   try simp only [decide_eq_true_eq, decide_eq_false_iff_not, Bool.not_eq_true', Bool.not_eq_false', Bool.and_eq_true, Bool.or_eq_true, Int.not_lt, Int.not_le, ne_eq, Decidable.not_not] at hc14
   refine wp_seq_k (fun K20 hK20 => ?_)
   refine wp_region_lit ?_
   refine l_q rfl rfl (q_loadA (m := 3) rfl (by kernel_rfl) (by kernel_rfl) (hS4.blk (i := 2) rfl) rfl rfl) ?_
   refine l_e rfl (fun K hK => ?_)
   refine e_call (by kernel_rfl) (right_ok a haB _) rfl (after_R hS4 (fun v21 w21 hv21 hS21 => ?_))
   clear hS4
   obtain rfl := hv21
   refine hK _ _ ?_; clear hK K
   refine l_q rfl rfl (q_not rfl) ?_
   refine l_q rfl rfl (q_assignB rfl) ?_
   refine l_nil ?_
   refine hK20 _ _ ?_
   refine c_cond rfl (fun hc22 => ?_) (fun hc22 => ?_)
   ·
    have hc22b := hc22
    try simp only [decide_eq_true_eq, decide_eq_false_iff_not, Bool.not_eq_true', Bool.not_eq_false', Bool.and_eq_true, Bool.or_eq_true, Int.not_lt, Int.not_le, ne_eq, Decidable.not_not] at hc22
    refine wp_seq_k (fun K23 hK23 => ?_)
    refine wp_region_lit ?_
    refine l_q rfl rfl (q_build (ps := [(0, 1), (1, 1), (2, 1)]) (zv := .agg #[.int .i64 0, .int .i64 0, .string ⟨#[]⟩]) (by kernel_rfl) (by kernel_rfl) rfl (by repeat' (first | exact trivial | refine ⟨fun _ => by first | rfl | assumption | exact one_if (by assumption), ?_⟩ | refine ⟨fun ⟨_, h⟩ => by simp at h, ?_⟩)) rfl) ?_
    refine l_e rfl (fun K hK => ?_)
    refine e_call (by kernel_rfl) (fnew_ok (22 : Int) (0 : Int) rfl _) rfl (after_N hS21 (fun v24 G24 w24 hv24 hS24 => ?_))
    clear hS21
    obtain ⟨b24, rfl, rfl⟩ := hv24
    have hS25 : St _ _ [.blk b24 (.cells #[.int .i64 (22 : Int), .int .i64 (0 : Int), _] 87), _, _, _] _ := hS24; clear hS24
    refine hK _ _ ?_; clear hK K
    refine l_e rfl (fun K hK => ?_)
    refine e_storeA hS25 rfl rfl (by kernel_rfl) (by repeat' (first | exact trivial | refine ⟨by first | rfl | assumption | exact one_if (by assumption), ?_⟩)) (i := 1) rfl rfl (fun w26 (hS26 : St _ _ [_, _, _, _] _) => ?_)
    clear hS25
    refine hK _ _ ?_; clear hK K
    refine l_q rfl rfl (q_assign rfl) ?_
    refine l_nil ?_
    refine hK23 _ _ ?_
    refine wp_ret ?_
    refine c_retCT (m := 3) rfl (by kernel_rfl) (by kernel_rfl) rfl (hS26.blk (i := 1) rfl) rfl rfl ?_
    have hS27 : St _ _ [_] _ := hS26.only 1; clear hS26
    have he : c03 op a b = _ := c_2 (by omega) (by assumption)
    exact ⟨_, _, rfl, ⟨b24, rfl, by rw [he]⟩, hS27⟩
   ·
    have hc22b := hc22
    try simp only [decide_eq_true_eq, decide_eq_false_iff_not, Bool.not_eq_true', Bool.not_eq_false', Bool.and_eq_true, Bool.or_eq_true, Int.not_lt, Int.not_le, ne_eq, Decidable.not_not] at hc22
    refine wp_seq_k (fun K28 hK28 => ?_)
    refine wp_region_lit ?_
    refine l_q rfl rfl (q_loadA (m := 3) rfl (by kernel_rfl) (by kernel_rfl) (hS21.blk (i := 1) rfl) rfl rfl) ?_
    refine l_e rfl (fun K hK => ?_)
    refine e_call (by kernel_rfl) (right_ok b hbB _) rfl (after_R hS21 (fun v29 w29 hv29 hS29 => ?_))
    clear hS21
    obtain rfl := hv29
    refine hK _ _ ?_; clear hK K
    refine l_q rfl rfl (q_not rfl) ?_
    refine l_q rfl rfl (q_assignB rfl) ?_
    refine l_nil ?_
    refine hK28 _ _ ?_
    refine c_cond rfl (fun hc30 => ?_) (fun hc30 => ?_)
    ·
     have hc30b := hc30
     try simp only [decide_eq_true_eq, decide_eq_false_iff_not, Bool.not_eq_true', Bool.not_eq_false', Bool.and_eq_true, Bool.or_eq_true, Int.not_lt, Int.not_le, ne_eq, Decidable.not_not] at hc30
     refine wp_seq_k (fun K31 hK31 => ?_)
     refine wp_region_lit ?_
     refine l_q rfl rfl (q_build (ps := [(0, 1), (1, 1), (2, 1)]) (zv := .agg #[.int .i64 0, .int .i64 0, .string ⟨#[]⟩]) (by kernel_rfl) (by kernel_rfl) rfl (by repeat' (first | exact trivial | refine ⟨fun _ => by first | rfl | assumption | exact one_if (by assumption), ?_⟩ | refine ⟨fun ⟨_, h⟩ => by simp at h, ?_⟩)) rfl) ?_
     refine l_e rfl (fun K hK => ?_)
     refine e_call (by kernel_rfl) (fnew_ok (22 : Int) (1 : Int) rfl _) rfl (after_N hS29 (fun v32 G32 w32 hv32 hS32 => ?_))
     clear hS29
     obtain ⟨b32, rfl, rfl⟩ := hv32
     have hS33 : St _ _ [.blk b32 (.cells #[.int .i64 (22 : Int), .int .i64 (1 : Int), _] 87), _, _, _] _ := hS32; clear hS32
     refine hK _ _ ?_; clear hK K
     refine l_e rfl (fun K hK => ?_)
     refine e_storeA hS33 rfl rfl (by kernel_rfl) (by repeat' (first | exact trivial | refine ⟨by first | rfl | assumption | exact one_if (by assumption), ?_⟩)) (i := 1) rfl rfl (fun w34 (hS34 : St _ _ [_, _, _, _] _) => ?_)
     clear hS33
     refine hK _ _ ?_; clear hK K
     refine l_q rfl rfl (q_assign rfl) ?_
     refine l_nil ?_
     refine hK31 _ _ ?_
     refine wp_ret ?_
     refine c_retCT (m := 3) rfl (by kernel_rfl) (by kernel_rfl) rfl (hS34.blk (i := 1) rfl) rfl rfl ?_
     have hS35 : St _ _ [_] _ := hS34.only 1; clear hS34
     have he : c03 op a b = _ := c_3 (by omega) (by assumption) (by assumption)
     exact ⟨_, _, rfl, ⟨b32, rfl, by rw [he]⟩, hS35⟩
    ·
     have hc30b := hc30
     try simp only [decide_eq_true_eq, decide_eq_false_iff_not, Bool.not_eq_true', Bool.not_eq_false', Bool.and_eq_true, Bool.or_eq_true, Int.not_lt, Int.not_le, ne_eq, Decidable.not_not] at hc30
     refine wp_seq_k (fun K36 hK36 => ?_)
     refine wp_region_lit ?_
     refine l_q rfl rfl (q_fieldAddr (ft := 49) (o := 0) rfl (by kernel_rfl)) ?_
     refine l_q rfl rfl (q_load1 rfl (by kernel_rfl) (hS29.cell (i := 2) rfl rfl)) ?_
     refine l_q rfl rfl (q_eql rfl rfl) ?_
     refine l_q rfl rfl (q_moveB rfl) ?_
     refine g_splitL (t := 37) rfl (fun hg37 => ?_) (fun hg37 => ?_)
     ·
      have hg37b := hg37
      try simp only [decide_eq_true_eq, decide_eq_false_iff_not, Bool.not_eq_true', Bool.not_eq_false', Bool.and_eq_true, Bool.or_eq_true, Int.not_lt, Int.not_le, ne_eq, Decidable.not_not] at hg37
      refine l_off rfl rfl rfl hg37b ?_
      refine l_off rfl rfl rfl hg37b ?_
      refine l_off rfl rfl rfl hg37b ?_
      refine l_q rfl rfl (q_pickT rfl hg37b rfl) ?_
      refine l_q rfl rfl (q_assignB rfl) ?_
      refine l_nil ?_
      refine hK36 _ _ ?_
      refine c_condT rfl rfl ?_
      refine wp_seq_k (fun K39 hK39 => ?_)
      refine wp_region_lit ?_
      refine l_q rfl rfl (q_build (ps := [(0, 1), (1, 1), (2, 1)]) (zv := .agg #[.int .i64 0, .int .i64 0, .string ⟨#[]⟩]) (by kernel_rfl) (by kernel_rfl) rfl (by repeat' (first | exact trivial | refine ⟨fun _ => by first | rfl | assumption | exact one_if (by assumption), ?_⟩ | refine ⟨fun ⟨_, h⟩ => by simp at h, ?_⟩)) rfl) ?_
      refine l_e rfl (fun K hK => ?_)
      refine e_storeA hS29 rfl rfl (by kernel_rfl) (by repeat' (first | exact trivial | refine ⟨by first | rfl | assumption | exact one_if (by assumption), ?_⟩)) (i := 0) rfl rfl (fun w40 (hS40 : St _ _ [_, _, _] _) => ?_)
      clear hS29
      refine hK _ _ ?_; clear hK K
      refine l_q rfl rfl (q_assign rfl) ?_
      refine l_nil ?_
      refine hK39 _ _ ?_
      refine wp_ret ?_
      refine c_retCT (m := 3) rfl (by kernel_rfl) (by kernel_rfl) rfl (hS40.blk (i := 0) rfl) rfl rfl ?_
      have he : c03 op a b = _ := c_4 (by omega) (by assumption) (by assumption) (by omega)
      rw [he] at hz
      exact absurd rfl hz
     ·
      have hg37b := hg37
      try simp only [decide_eq_true_eq, decide_eq_false_iff_not, Bool.not_eq_true', Bool.not_eq_false', Bool.and_eq_true, Bool.or_eq_true, Int.not_lt, Int.not_le, ne_eq, Decidable.not_not] at hg37
      refine l_on rfl rfl hg37b ?_
      refine l_q rfl rfl (q_fieldAddr (ft := 49) (o := 0) rfl (by kernel_rfl)) ?_
      refine l_on rfl rfl hg37b ?_
      refine l_q rfl rfl (q_load1 rfl (by kernel_rfl) (hS29.cell (i := 1) rfl rfl)) ?_
      refine l_on rfl rfl hg37b ?_
      refine l_q rfl rfl (q_eql rfl rfl) ?_
      refine l_q rfl rfl (q_pickF rfl hg37b rfl) ?_
      refine l_q rfl rfl (q_assignB rfl) ?_
      refine l_nil ?_
      refine hK36 _ _ ?_
      refine c_cond rfl (fun hc41 => ?_) (fun hc41 => ?_)
      ·
       have hc41b := hc41
       try simp only [decide_eq_true_eq, decide_eq_false_iff_not, Bool.not_eq_true', Bool.not_eq_false', Bool.and_eq_true, Bool.or_eq_true, Int.not_lt, Int.not_le, ne_eq, Decidable.not_not] at hc41
       refine wp_seq_k (fun K42 hK42 => ?_)
       refine wp_region_lit ?_
       refine l_q rfl rfl (q_build (ps := [(0, 1), (1, 1), (2, 1)]) (zv := .agg #[.int .i64 0, .int .i64 0, .string ⟨#[]⟩]) (by kernel_rfl) (by kernel_rfl) rfl (by repeat' (first | exact trivial | refine ⟨fun _ => by first | rfl | assumption | exact one_if (by assumption), ?_⟩ | refine ⟨fun ⟨_, h⟩ => by simp at h, ?_⟩)) rfl) ?_
       refine l_e rfl (fun K hK => ?_)
       refine e_storeA hS29 rfl rfl (by kernel_rfl) (by repeat' (first | exact trivial | refine ⟨by first | rfl | assumption | exact one_if (by assumption), ?_⟩)) (i := 0) rfl rfl (fun w43 (hS43 : St _ _ [_, _, _] _) => ?_)
       clear hS29
       refine hK _ _ ?_; clear hK K
       refine l_q rfl rfl (q_assign rfl) ?_
       refine l_nil ?_
       refine hK42 _ _ ?_
       refine wp_ret ?_
       refine c_retCT (m := 3) rfl (by kernel_rfl) (by kernel_rfl) rfl (hS43.blk (i := 0) rfl) rfl rfl ?_
       have he : c03 op a b = _ := c_4 (by omega) (by assumption) (by assumption) (by omega)
       rw [he] at hz
       exact absurd rfl hz
      ·
       have hc41b := hc41
       try simp only [decide_eq_true_eq, decide_eq_false_iff_not, Bool.not_eq_true', Bool.not_eq_false', Bool.and_eq_true, Bool.or_eq_true, Int.not_lt, Int.not_le, ne_eq, Decidable.not_not] at hc41
       refine wp_skip ?_
       refine hK5 _ _ ?_
       refine wp_seq_k (fun K44 hK44 => ?_)
       refine wp_region_lit ?_
       refine l_q rfl rfl (q_loadA (m := 3) rfl (by kernel_rfl) (by kernel_rfl) (hS29.blk (i := 2) rfl) rfl rfl) ?_
       refine l_q rfl rfl (q_loadA (m := 3) rfl (by kernel_rfl) (by kernel_rfl) (hS29.blk (i := 1) rfl) rfl rfl) ?_
       by_cases hs : (sg03 a b).2.1 = 0
       ·
        exact absurd (c_z (by omega) (by assumption) (by assumption) (by omega) hs) hz
       ·
        refine l_e rfl (fun K hK => ?_)
        refine e_call (by kernel_rfl) (sign_bad a b haB hbB han0 han1 hbn0 hbn1 hs _) rfl (after_N hS29 (fun v45 G45 w45 hv45 hS45 => ?_))
        clear hS29
        obtain ⟨b45, rfl, rfl⟩ := hv45
        have hS46 : St _ _ [.blk b45 (.cells #[.int .i64 (sg03 a b).2.1, .int .i64 (sg03 a b).2.2, _] 87), _, _, _] _ := hS45; clear hS45
        refine hK _ _ ?_; clear hK K
        refine l_q rfl rfl (q_move rfl) ?_
        refine l_q rfl rfl (q_extract rfl rfl) ?_
        refine l_q rfl rfl (q_extract rfl rfl) ?_
        refine l_q rfl rfl (q_assignI rfl) ?_
        refine l_q rfl rfl (q_assign rfl) ?_
        refine l_nil ?_
        refine hK44 _ _ ?_
        refine wp_seq_k (fun K47 hK47 => ?_)
        refine wp_seq_k (fun K48 hK48 => ?_)
        refine wp_region_lit ?_
        refine l_q rfl rfl (q_move rfl) ?_
        refine l_q rfl rfl (q_ine0 rfl (by kernel_rfl)) ?_
        refine l_nil ?_
        refine hK48 _ _ ?_
        refine c_condT rfl rfl ?_
        refine wp_seq_k (fun K50 hK50 => ?_)
        refine wp_region_lit ?_
        refine l_q rfl rfl (q_build (ps := [(0, 1), (1, 1), (2, 1)]) (zv := .agg #[.int .i64 0, .int .i64 0, .string ⟨#[]⟩]) (by kernel_rfl) (by kernel_rfl) rfl (by repeat' (first | exact trivial | refine ⟨fun _ => by first | rfl | assumption | exact one_if (by assumption), ?_⟩ | refine ⟨fun ⟨_, h⟩ => by simp at h, ?_⟩)) rfl) ?_
        refine l_q rfl rfl (q_move rfl) ?_
        refine l_e rfl (fun K hK => ?_)
        refine e_storeA hS46 rfl rfl (by kernel_rfl) (by repeat' (first | exact trivial | refine ⟨by first | rfl | assumption | exact one_if (by assumption), ?_⟩)) (i := 1) rfl rfl (fun w51 (hS51 : St _ _ [_, _, _, _] _) => ?_)
        clear hS46
        refine hK _ _ ?_; clear hK K
        refine l_q rfl rfl (q_assign rfl) ?_
        refine l_nil ?_
        refine hK50 _ _ ?_
        refine wp_ret ?_
        refine c_retCT (m := 3) rfl (by kernel_rfl) (by kernel_rfl) rfl (hS51.blk (i := 1) rfl) rfl rfl ?_
        have hS52 : St _ _ [_] _ := hS51.only 1; clear hS51
        have he : c03 op a b = _ := c_5 (by omega) (by assumption) (by assumption) (by omega) (by omega)
        exact ⟨_, _, rfl, ⟨b45, rfl, by rw [he]⟩, hS52⟩

set_option maxHeartbeats 4000000 in
set_option maxRecDepth 100000 in
theorem cmpg_op (op : Int) (a b : Vl) (haB : Bytes a.2.2) (hbB : Bytes b.2.2) (han0 : -9223372036854775808 ≤ a.2.1) (han1 : a.2.1 ≤ 9223372036854775807) (hbn0 : -9223372036854775808 ≤ b.2.1) (hbn1 : b.2.1 ≤ 9223372036854775807) (hnull : a.1 = 0 ∨ b.1 = 0) (hz : (c03 op a b).2.1 = 0) (w : World) : Calls Tryd.prog 34 #[.int .i64 op, .agg (vl a).toArray, .agg (vl b).toArray] w (PostR w fun v => v = .tuple #[.agg (vl (c03 op a b).1).toArray, .nilIface]) := by
 have hS := St.start w
 refine c_enter Tryd.func34 rfl rfl rfl ?_
 refine wp_seq_k (fun K1 hK1 => ?_)
 refine wp_region_lit ?_
 refine l_e rfl (fun K hK => ?_)
 refine e_boxA hS rfl (fun b2 w2 (hS2 : St _ _ [.blk b2 (.cells #[.int .i64 a.1, .int .i64 a.2.1, .string (bs a.2.2)] 51)] _) => ?_)
 clear hS
 refine hK _ _ ?_; clear hK K
 refine l_e rfl (fun K hK => ?_)
 refine e_boxA hS2 rfl (fun b3 w3 (hS3 : St _ _ [.blk b3 (.cells #[.int .i64 b.1, .int .i64 b.2.1, .string (bs b.2.2)] 51), _] _) => ?_)
 clear hS2
 refine hK _ _ ?_; clear hK K
 refine l_e rfl (fun K hK => ?_)
 refine e_alloc (zv := .agg #[.int .i64 0, .int .i64 0, .string ⟨#[]⟩]) hS3 (by kernel_rfl) (fun b4 w4 (hS4 : St _ _ [.blk b4 (.cells #[.int .i64 (0 : Int), .int .i64 (0 : Int), .string (bs [])] 51), _, _] _) => ?_)
 clear hS3
 refine hK _ _ ?_; clear hK K
 refine l_q rfl rfl (q_assign rfl) ?_
 refine l_nil ?_
 refine hK1 _ _ ?_
 refine wp_seq_k (fun K5 hK5 => ?_)
 refine wp_block ?_
 refine wp_seq_k (fun K6 hK6 => ?_)
 refine wp_region_lit ?_
 refine l_q rfl rfl (q_moveI rfl) ?_
 refine l_q rfl rfl (q_lss rfl rfl) ?_
 refine l_q rfl rfl (q_moveB rfl) ?_
 refine g_splitL (t := 15) rfl (fun hg7 => ?_) (fun hg7 => ?_)
 ·
  have hg7b := hg7
  try simp only [decide_eq_true_eq, decide_eq_false_iff_not, Bool.not_eq_true', Bool.not_eq_false', Bool.and_eq_true, Bool.or_eq_true, Int.not_lt, Int.not_le, ne_eq, Decidable.not_not] at hg7
  refine l_off rfl rfl rfl hg7b ?_
  refine l_off rfl rfl rfl hg7b ?_
  refine l_q rfl rfl (q_pickT rfl hg7b rfl) ?_
  refine l_q rfl rfl (q_assignB rfl) ?_
  refine l_nil ?_
  refine hK6 _ _ ?_
  refine c_condT rfl rfl ?_
  refine wp_seq_k (fun K9 hK9 => ?_)
  refine wp_region_lit ?_
  refine l_q rfl rfl (q_build (ps := [(0, 1), (1, 1), (2, 1)]) (zv := .agg #[.int .i64 0, .int .i64 0, .string ⟨#[]⟩]) (by kernel_rfl) (by kernel_rfl) rfl (by repeat' (first | exact trivial | refine ⟨fun _ => by first | rfl | assumption | exact one_if (by assumption), ?_⟩ | refine ⟨fun ⟨_, h⟩ => by simp at h, ?_⟩)) rfl) ?_
  refine l_e rfl (fun K hK => ?_)
  refine e_call (by kernel_rfl) (fnew_ok (1 : Int) (0 : Int) rfl _) rfl (after_N hS4 (fun v10 G10 w10 hv10 hS10 => ?_))
  clear hS4
  obtain ⟨b10, rfl, rfl⟩ := hv10
  have hS11 : St _ _ [.blk b10 (.cells #[.int .i64 (1 : Int), .int .i64 (0 : Int), _] 87), _, _, _] _ := hS10; clear hS10
  refine hK _ _ ?_; clear hK K
  refine l_e rfl (fun K hK => ?_)
  refine e_storeA hS11 rfl rfl (by kernel_rfl) (by repeat' (first | exact trivial | refine ⟨by first | rfl | assumption | exact one_if (by assumption), ?_⟩)) (i := 1) rfl rfl (fun w12 (hS12 : St _ _ [_, _, _, _] _) => ?_)
  clear hS11
  refine hK _ _ ?_; clear hK K
  refine l_q rfl rfl (q_assign rfl) ?_
  refine l_nil ?_
  refine hK9 _ _ ?_
  refine wp_ret ?_
  refine c_retCT (m := 3) rfl (by kernel_rfl) (by kernel_rfl) rfl (hS12.blk (i := 1) rfl) rfl rfl ?_
  have he : c03 op a b = _ := c_1 (by omega)
  rw [he] at hz
  exact absurd hz (by decide)
 ·
  have hg7b := hg7
  try simp only [decide_eq_true_eq, decide_eq_false_iff_not, Bool.not_eq_true', Bool.not_eq_false', Bool.and_eq_true, Bool.or_eq_true, Int.not_lt, Int.not_le, ne_eq, Decidable.not_not] at hg7
  refine l_on rfl rfl hg7b ?_
  refine l_q rfl rfl (q_moveI rfl) ?_
  refine l_on rfl rfl hg7b ?_
  refine l_q rfl rfl (q_gtr rfl rfl) ?_
  refine l_q rfl rfl (q_pickF rfl hg7b rfl) ?_
  refine l_q rfl rfl (q_assignB rfl) ?_
  refine l_nil ?_
  refine hK6 _ _ ?_
  refine c_cond rfl (fun hc13 => ?_) (fun hc13 => ?_)
  ·
   have hc13b := hc13
   try simp only [decide_eq_true_eq, decide_eq_false_iff_not, Bool.not_eq_true', Bool.not_eq_false', Bool.and_eq_true, Bool.or_eq_true, Int.not_lt, Int.not_le, ne_eq, Decidable.not_not] at hc13
   refine wp_seq_k (fun K14 hK14 => ?_)
   refine wp_region_lit ?_
   refine l_q rfl rfl (q_build (ps := [(0, 1), (1, 1), (2, 1)]) (zv := .agg #[.int .i64 0, .int .i64 0, .string ⟨#[]⟩]) (by kernel_rfl) (by kernel_rfl) rfl (by repeat' (first | exact trivial | refine ⟨fun _ => by first | rfl | assumption | exact one_if (by assumption), ?_⟩ | refine ⟨fun ⟨_, h⟩ => by simp at h, ?_⟩)) rfl) ?_
   refine l_e rfl (fun K hK => ?_)
   refine e_call (by kernel_rfl) (fnew_ok (1 : Int) (0 : Int) rfl _) rfl (after_N hS4 (fun v15 G15 w15 hv15 hS15 => ?_))
   clear hS4
   obtain ⟨b15, rfl, rfl⟩ := hv15
   have hS16 : St _ _ [.blk b15 (.cells #[.int .i64 (1 : Int), .int .i64 (0 : Int), _] 87), _, _, _] _ := hS15; clear hS15
   refine hK _ _ ?_; clear hK K
   refine l_e rfl (fun K hK => ?_)
   refine e_storeA hS16 rfl rfl (by kernel_rfl) (by repeat' (first | exact trivial | refine ⟨by first | rfl | assumption | exact one_if (by assumption), ?_⟩)) (i := 1) rfl rfl (fun w17 (hS17 : St _ _ [_, _, _, _] _) => ?_)
   clear hS16
   refine hK _ _ ?_; clear hK K
   refine l_q rfl rfl (q_assign rfl) ?_
   refine l_nil ?_
   refine hK14 _ _ ?_
   refine wp_ret ?_
   refine c_retCT (m := 3) rfl (by kernel_rfl) (by kernel_rfl) rfl (hS17.blk (i := 1) rfl) rfl rfl ?_
   have he : c03 op a b = _ := c_1 (by omega)
   rw [he] at hz
   exact absurd hz (by decide)
  ·
   have hc13b := hc13
   try simp only [decide_eq_true_eq, decide_eq_false_iff_not, Bool.not_eq_true', Bool.not_eq_false', Bool.and_eq_true, Bool.or_eq_true, Int.not_lt, Int.not_le, ne_eq, Decidable.not_not] at hc13
   refine wp_seq_k (fun K18 hK18 => ?_)
   refine wp_region_lit ?_
   refine l_q rfl rfl (q_loadA (m := 3) rfl (by kernel_rfl) (by kernel_rfl) (hS4.blk (i := 2) rfl) rfl rfl) ?_
   refine l_e rfl (fun K hK => ?_)
   refine e_call (by kernel_rfl) (right_ok a haB _) rfl (after_R hS4 (fun v19 w19 hv19 hS19 => ?_))
   clear hS4
   obtain rfl := hv19
   refine hK _ _ ?_; clear hK K
   refine l_q rfl rfl (q_not rfl) ?_
   refine l_q rfl rfl (q_assignB rfl) ?_
   refine l_nil ?_
   refine hK18 _ _ ?_
   refine c_cond rfl (fun hc20 => ?_) (fun hc20 => ?_)
   ·
    have hc20b := hc20
    try simp only [decide_eq_true_eq, decide_eq_false_iff_not, Bool.not_eq_true', Bool.not_eq_false', Bool.and_eq_true, Bool.or_eq_true, Int.not_lt, Int.not_le, ne_eq, Decidable.not_not] at hc20
    refine wp_seq_k (fun K21 hK21 => ?_)
    refine wp_region_lit ?_
    refine l_q rfl rfl (q_build (ps := [(0, 1), (1, 1), (2, 1)]) (zv := .agg #[.int .i64 0, .int .i64 0, .string ⟨#[]⟩]) (by kernel_rfl) (by kernel_rfl) rfl (by repeat' (first | exact trivial | refine ⟨fun _ => by first | rfl | assumption | exact one_if (by assumption), ?_⟩ | refine ⟨fun ⟨_, h⟩ => by simp at h, ?_⟩)) rfl) ?_
    refine l_e rfl (fun K hK => ?_)
    refine e_call (by kernel_rfl) (fnew_ok (22 : Int) (0 : Int) rfl _) rfl (after_N hS19 (fun v22 G22 w22 hv22 hS22 => ?_))
    clear hS19
    obtain ⟨b22, rfl, rfl⟩ := hv22
    have hS23 : St _ _ [.blk b22 (.cells #[.int .i64 (22 : Int), .int .i64 (0 : Int), _] 87), _, _, _] _ := hS22; clear hS22
    refine hK _ _ ?_; clear hK K
    refine l_e rfl (fun K hK => ?_)
    refine e_storeA hS23 rfl rfl (by kernel_rfl) (by repeat' (first | exact trivial | refine ⟨by first | rfl | assumption | exact one_if (by assumption), ?_⟩)) (i := 1) rfl rfl (fun w24 (hS24 : St _ _ [_, _, _, _] _) => ?_)
    clear hS23
    refine hK _ _ ?_; clear hK K
    refine l_q rfl rfl (q_assign rfl) ?_
    refine l_nil ?_
    refine hK21 _ _ ?_
    refine wp_ret ?_
    refine c_retCT (m := 3) rfl (by kernel_rfl) (by kernel_rfl) rfl (hS24.blk (i := 1) rfl) rfl rfl ?_
    have he : c03 op a b = _ := c_2 (by omega) (by assumption)
    rw [he] at hz
    exact absurd hz (by decide)
   ·
    have hc20b := hc20
    try simp only [decide_eq_true_eq, decide_eq_false_iff_not, Bool.not_eq_true', Bool.not_eq_false', Bool.and_eq_true, Bool.or_eq_true, Int.not_lt, Int.not_le, ne_eq, Decidable.not_not] at hc20
    refine wp_seq_k (fun K25 hK25 => ?_)
    refine wp_region_lit ?_
    refine l_q rfl rfl (q_loadA (m := 3) rfl (by kernel_rfl) (by kernel_rfl) (hS19.blk (i := 1) rfl) rfl rfl) ?_
    refine l_e rfl (fun K hK => ?_)
    refine e_call (by kernel_rfl) (right_ok b hbB _) rfl (after_R hS19 (fun v26 w26 hv26 hS26 => ?_))
    clear hS19
    obtain rfl := hv26
    refine hK _ _ ?_; clear hK K
    refine l_q rfl rfl (q_not rfl) ?_
    refine l_q rfl rfl (q_assignB rfl) ?_
    refine l_nil ?_
    refine hK25 _ _ ?_
    refine c_cond rfl (fun hc27 => ?_) (fun hc27 => ?_)
    ·
     have hc27b := hc27
     try simp only [decide_eq_true_eq, decide_eq_false_iff_not, Bool.not_eq_true', Bool.not_eq_false', Bool.and_eq_true, Bool.or_eq_true, Int.not_lt, Int.not_le, ne_eq, Decidable.not_not] at hc27
     refine wp_seq_k (fun K28 hK28 => ?_)
     refine wp_region_lit ?_
     refine l_q rfl rfl (q_build (ps := [(0, 1), (1, 1), (2, 1)]) (zv := .agg #[.int .i64 0, .int .i64 0, .string ⟨#[]⟩]) (by kernel_rfl) (by kernel_rfl) rfl (by repeat' (first | exact trivial | refine ⟨fun _ => by first | rfl | assumption | exact one_if (by assumption), ?_⟩ | refine ⟨fun ⟨_, h⟩ => by simp at h, ?_⟩)) rfl) ?_
     refine l_e rfl (fun K hK => ?_)
     refine e_call (by kernel_rfl) (fnew_ok (22 : Int) (1 : Int) rfl _) rfl (after_N hS26 (fun v29 G29 w29 hv29 hS29 => ?_))
     clear hS26
     obtain ⟨b29, rfl, rfl⟩ := hv29
     have hS30 : St _ _ [.blk b29 (.cells #[.int .i64 (22 : Int), .int .i64 (1 : Int), _] 87), _, _, _] _ := hS29; clear hS29
     refine hK _ _ ?_; clear hK K
     refine l_e rfl (fun K hK => ?_)
     refine e_storeA hS30 rfl rfl (by kernel_rfl) (by repeat' (first | exact trivial | refine ⟨by first | rfl | assumption | exact one_if (by assumption), ?_⟩)) (i := 1) rfl rfl (fun w31 (hS31 : St _ _ [_, _, _, _] _) => ?_)
     clear hS30
     refine hK _ _ ?_; clear hK K
     refine l_q rfl rfl (q_assign rfl) ?_
     refine l_nil ?_
     refine hK28 _ _ ?_
     refine wp_ret ?_
     refine c_retCT (m := 3) rfl (by kernel_rfl) (by kernel_rfl) rfl (hS31.blk (i := 1) rfl) rfl rfl ?_
     have he : c03 op a b = _ := c_3 (by omega) (by assumption) (by assumption)
     rw [he] at hz
     exact absurd hz (by decide)
    ·
     have hc27b := hc27
     try simp only [decide_eq_true_eq, decide_eq_false_iff_not, Bool.not_eq_true', Bool.not_eq_false', Bool.and_eq_true, Bool.or_eq_true, Int.not_lt, Int.not_le, ne_eq, Decidable.not_not] at hc27
     refine wp_seq_k (fun K32 hK32 => ?_)
     refine wp_region_lit ?_
     refine l_q rfl rfl (q_fieldAddr (ft := 49) (o := 0) rfl (by kernel_rfl)) ?_
     refine l_q rfl rfl (q_load1 rfl (by kernel_rfl) (hS26.cell (i := 2) rfl rfl)) ?_
     refine l_q rfl rfl (q_eql rfl rfl) ?_
     refine l_q rfl rfl (q_moveB rfl) ?_
     refine g_splitL (t := 37) rfl (fun hg33 => ?_) (fun hg33 => ?_)
     ·
      have hg33b := hg33
      try simp only [decide_eq_true_eq, decide_eq_false_iff_not, Bool.not_eq_true', Bool.not_eq_false', Bool.and_eq_true, Bool.or_eq_true, Int.not_lt, Int.not_le, ne_eq, Decidable.not_not] at hg33
      refine l_off rfl rfl rfl hg33b ?_
      refine l_off rfl rfl rfl hg33b ?_
      refine l_off rfl rfl rfl hg33b ?_
      refine l_q rfl rfl (q_pickT rfl hg33b rfl) ?_
      refine l_q rfl rfl (q_assignB rfl) ?_
      refine l_nil ?_
      refine hK32 _ _ ?_
      refine c_condT rfl rfl ?_
      refine wp_seq_k (fun K35 hK35 => ?_)
      refine wp_region_lit ?_
      refine l_q rfl rfl (q_build (ps := [(0, 1), (1, 1), (2, 1)]) (zv := .agg #[.int .i64 0, .int .i64 0, .string ⟨#[]⟩]) (by kernel_rfl) (by kernel_rfl) rfl (by repeat' (first | exact trivial | refine ⟨fun _ => by first | rfl | assumption | exact one_if (by assumption), ?_⟩ | refine ⟨fun ⟨_, h⟩ => by simp at h, ?_⟩)) rfl) ?_
      refine l_e rfl (fun K hK => ?_)
      refine e_storeA hS26 rfl rfl (by kernel_rfl) (by repeat' (first | exact trivial | refine ⟨by first | rfl | assumption | exact one_if (by assumption), ?_⟩)) (i := 0) rfl rfl (fun w36 (hS36 : St _ _ [_, _, _] _) => ?_)
      clear hS26
      refine hK _ _ ?_; clear hK K
      refine l_q rfl rfl (q_assign rfl) ?_
      refine l_nil ?_
      refine hK35 _ _ ?_
      refine wp_ret ?_
      refine c_retCT (m := 3) rfl (by kernel_rfl) (by kernel_rfl) rfl (hS36.blk (i := 0) rfl) rfl rfl ?_
      have he : c03 op a b = _ := c_4 (by omega) (by assumption) (by assumption) (by omega)
      exact ⟨_, rfl, (by rw [he]; rfl), hS36.drop⟩
     ·
      have hg33b := hg33
      try simp only [decide_eq_true_eq, decide_eq_false_iff_not, Bool.not_eq_true', Bool.not_eq_false', Bool.and_eq_true, Bool.or_eq_true, Int.not_lt, Int.not_le, ne_eq, Decidable.not_not] at hg33
      refine l_on rfl rfl hg33b ?_
      refine l_q rfl rfl (q_fieldAddr (ft := 49) (o := 0) rfl (by kernel_rfl)) ?_
      refine l_on rfl rfl hg33b ?_
      refine l_q rfl rfl (q_load1 rfl (by kernel_rfl) (hS26.cell (i := 1) rfl rfl)) ?_
      refine l_on rfl rfl hg33b ?_
      refine l_q rfl rfl (q_eql rfl rfl) ?_
      refine l_q rfl rfl (q_pickF rfl hg33b rfl) ?_
      refine l_q rfl rfl (q_assignB rfl) ?_
      refine l_nil ?_
      refine hK32 _ _ ?_
      refine c_cond rfl (fun hc37 => ?_) (fun hc37 => ?_)
      ·
       have hc37b := hc37
       try simp only [decide_eq_true_eq, decide_eq_false_iff_not, Bool.not_eq_true', Bool.not_eq_false', Bool.and_eq_true, Bool.or_eq_true, Int.not_lt, Int.not_le, ne_eq, Decidable.not_not] at hc37
       refine wp_seq_k (fun K38 hK38 => ?_)
       refine wp_region_lit ?_
       refine l_q rfl rfl (q_build (ps := [(0, 1), (1, 1), (2, 1)]) (zv := .agg #[.int .i64 0, .int .i64 0, .string ⟨#[]⟩]) (by kernel_rfl) (by kernel_rfl) rfl (by repeat' (first | exact trivial | refine ⟨fun _ => by first | rfl | assumption | exact one_if (by assumption), ?_⟩ | refine ⟨fun ⟨_, h⟩ => by simp at h, ?_⟩)) rfl) ?_
       refine l_e rfl (fun K hK => ?_)
       refine e_storeA hS26 rfl rfl (by kernel_rfl) (by repeat' (first | exact trivial | refine ⟨by first | rfl | assumption | exact one_if (by assumption), ?_⟩)) (i := 0) rfl rfl (fun w39 (hS39 : St _ _ [_, _, _] _) => ?_)
       clear hS26
       refine hK _ _ ?_; clear hK K
       refine l_q rfl rfl (q_assign rfl) ?_
       refine l_nil ?_
       refine hK38 _ _ ?_
       refine wp_ret ?_
       refine c_retCT (m := 3) rfl (by kernel_rfl) (by kernel_rfl) rfl (hS39.blk (i := 0) rfl) rfl rfl ?_
       have he : c03 op a b = _ := c_4 (by omega) (by assumption) (by assumption) (by omega)
       exact ⟨_, rfl, (by rw [he]; rfl), hS39.drop⟩
      ·
       have hc37b := hc37
       try simp only [decide_eq_true_eq, decide_eq_false_iff_not, Bool.not_eq_true', Bool.not_eq_false', Bool.and_eq_true, Bool.or_eq_true, Int.not_lt, Int.not_le, ne_eq, Decidable.not_not] at hc37
       exact absurd hnull (by omega)

set_option maxHeartbeats 4000000 in
set_option maxRecDepth 100000 in
theorem cmpg_8 (a b : Vl) (haB : Bytes a.2.2) (hbB : Bytes b.2.2) (han0 : -9223372036854775808 ≤ a.2.1) (han1 : a.2.1 ≤ 9223372036854775807) (hbn0 : -9223372036854775808 ≤ b.2.1) (hbn1 : b.2.1 ≤ 9223372036854775807) (h1 : rightQ a = true) (h2 : rightQ b = true) (h3 : ¬a.1 = 0) (h4 : ¬b.1 = 0) (h5 : (sg03 a b).2.1 = 0) (hz : (c03 8 a b).2.1 = 0) (w : World) : Calls Tryd.prog 34 #[.int .i64 8, .agg (vl a).toArray, .agg (vl b).toArray] w (PostR w fun v => v = .tuple #[.agg (vl (c03 8 a b).1).toArray, .nilIface]) := by
 have hS := St.start w
 refine c_enter Tryd.func34 rfl rfl rfl ?_
 refine wp_seq_k (fun K1 hK1 => ?_)
 refine wp_region_lit ?_
 refine l_e rfl (fun K hK => ?_)
 refine e_boxA hS rfl (fun b2 w2 (hS2 : St _ _ [.blk b2 (.cells #[.int .i64 a.1, .int .i64 a.2.1, .string (bs a.2.2)] 51)] _) => ?_)
 clear hS
 refine hK _ _ ?_; clear hK K
 refine l_e rfl (fun K hK => ?_)
 refine e_boxA hS2 rfl (fun b3 w3 (hS3 : St _ _ [.blk b3 (.cells #[.int .i64 b.1, .int .i64 b.2.1, .string (bs b.2.2)] 51), _] _) => ?_)
 clear hS2
 refine hK _ _ ?_; clear hK K
 refine l_e rfl (fun K hK => ?_)
 refine e_alloc (zv := .agg #[.int .i64 0, .int .i64 0, .string ⟨#[]⟩]) hS3 (by kernel_rfl) (fun b4 w4 (hS4 : St _ _ [.blk b4 (.cells #[.int .i64 (0 : Int), .int .i64 (0 : Int), .string (bs [])] 51), _, _] _) => ?_)
 clear hS3
 refine hK _ _ ?_; clear hK K
 refine l_q rfl rfl (q_assign rfl) ?_
 refine l_nil ?_
 refine hK1 _ _ ?_
 refine wp_seq_k (fun K5 hK5 => ?_)
 refine wp_block ?_
 refine wp_seq_k (fun K6 hK6 => ?_)
 refine wp_region_lit ?_
 refine l_q rfl rfl (q_moveI rfl) ?_
 refine l_q rfl rfl (q_lss rfl rfl) ?_
 refine l_q rfl rfl (q_moveB rfl) ?_
 refine l_on rfl rfl (by decide) ?_
 refine l_q rfl rfl (q_moveI rfl) ?_
 refine l_on rfl rfl (by decide) ?_
 refine l_q rfl rfl (q_gtr rfl rfl) ?_
 refine l_q rfl rfl (q_pickF rfl (by decide) rfl) ?_
 refine l_q rfl rfl (q_assignB rfl) ?_
 refine l_nil ?_
 refine hK6 _ _ ?_
 refine c_condF rfl (by decide) ?_
 refine wp_seq_k (fun K8 hK8 => ?_)
 refine wp_region_lit ?_
 refine l_q rfl rfl (q_loadA (m := 3) rfl (by kernel_rfl) (by kernel_rfl) (hS4.blk (i := 2) rfl) rfl rfl) ?_
 refine l_e rfl (fun K hK => ?_)
 refine e_call (by kernel_rfl) (right_ok a haB _) rfl (after_R hS4 (fun v9 w9 hv9 hS9 => ?_))
 clear hS4
 obtain rfl := hv9
 refine hK _ _ ?_; clear hK K
 refine l_q rfl rfl (q_not rfl) ?_
 refine l_q rfl rfl (q_assignB rfl) ?_
 refine l_nil ?_
 refine hK8 _ _ ?_
 refine c_condF rfl (by rw [show _ = _ from h1]; rfl) ?_
 refine wp_seq_k (fun K11 hK11 => ?_)
 refine wp_region_lit ?_
 refine l_q rfl rfl (q_loadA (m := 3) rfl (by kernel_rfl) (by kernel_rfl) (hS9.blk (i := 1) rfl) rfl rfl) ?_
 refine l_e rfl (fun K hK => ?_)
 refine e_call (by kernel_rfl) (right_ok b hbB _) rfl (after_R hS9 (fun v12 w12 hv12 hS12 => ?_))
 clear hS9
 obtain rfl := hv12
 refine hK _ _ ?_; clear hK K
 refine l_q rfl rfl (q_not rfl) ?_
 refine l_q rfl rfl (q_assignB rfl) ?_
 refine l_nil ?_
 refine hK11 _ _ ?_
 refine c_condF rfl (by rw [show _ = _ from h2]; rfl) ?_
 refine wp_seq_k (fun K14 hK14 => ?_)
 refine wp_region_lit ?_
 refine l_q rfl rfl (q_fieldAddr (ft := 49) (o := 0) rfl (by kernel_rfl)) ?_
 refine l_q rfl rfl (q_load1 rfl (by kernel_rfl) (hS12.cell (i := 2) rfl rfl)) ?_
 refine l_q rfl rfl (q_eql rfl rfl) ?_
 refine l_q rfl rfl (q_moveB rfl) ?_
 refine l_on rfl rfl (decide_eq_false h3) ?_
 refine l_q rfl rfl (q_fieldAddr (ft := 49) (o := 0) rfl (by kernel_rfl)) ?_
 refine l_on rfl rfl (decide_eq_false h3) ?_
 refine l_q rfl rfl (q_load1 rfl (by kernel_rfl) (hS12.cell (i := 1) rfl rfl)) ?_
 refine l_on rfl rfl (decide_eq_false h3) ?_
 refine l_q rfl rfl (q_eql rfl rfl) ?_
 refine l_q rfl rfl (q_pickF rfl (decide_eq_false h3) rfl) ?_
 refine l_q rfl rfl (q_assignB rfl) ?_
 refine l_nil ?_
 refine hK14 _ _ ?_
 refine c_condF rfl (decide_eq_false h4) ?_
 refine wp_skip ?_
 refine hK5 _ _ ?_
 refine wp_seq_k (fun K17 hK17 => ?_)
 refine wp_region_lit ?_
 refine l_q rfl rfl (q_loadA (m := 3) rfl (by kernel_rfl) (by kernel_rfl) (hS12.blk (i := 2) rfl) rfl rfl) ?_
 refine l_q rfl rfl (q_loadA (m := 3) rfl (by kernel_rfl) (by kernel_rfl) (hS12.blk (i := 1) rfl) rfl rfl) ?_
 refine l_e rfl (fun K hK => ?_)
 have hs := h5
 refine e_call (by kernel_rfl) (sign_good a b haB hbB han0 han1 hbn0 hbn1 h5 _) rfl (after_R hS12 (fun v18 w18 hv18 hS18 => ?_))
 clear hS12
 obtain rfl := hv18
 refine hK _ _ ?_; clear hK K
 refine l_q rfl rfl (q_move rfl) ?_
 refine l_q rfl rfl (q_extract rfl rfl) ?_
 refine l_q rfl rfl (q_extract rfl rfl) ?_
 refine l_q rfl rfl (q_assignI rfl) ?_
 refine l_q rfl rfl (q_assign rfl) ?_
 refine l_nil ?_
 refine hK17 _ _ ?_
 refine wp_seq_k (fun K19 hK19 => ?_)
 refine wp_seq_k (fun K20 hK20 => ?_)
 refine wp_region_lit ?_
 refine l_q rfl rfl (q_move rfl) ?_
 refine l_q rfl rfl (q_ine1 rfl (by kernel_rfl)) ?_
 refine l_nil ?_
 refine hK20 _ _ ?_
 refine c_condF rfl rfl ?_
 refine wp_skip ?_
 refine hK19 _ _ ?_
 refine wp_seq_k (fun K22 hK22 => ?_)
 refine wp_region_lit ?_
 refine l_q rfl rfl (q_assignB rfl) ?_
 refine l_nil ?_
 refine hK22 _ _ ?_
 refine wp_seq_k (fun K23 hK23 => ?_)
 refine wp_seq_k (fun K24 hK24 => ?_)
 refine wp_region_lit ?_
 refine l_q rfl rfl (q_moveI rfl) ?_
 refine l_nil ?_
 refine hK24 _ _ ?_
 refine wp_block ?_
 refine wp_seq_k (fun K25 hK25 => ?_)
 refine wp_block ?_
 refine wp_seq_k (fun K26 hK26 => ?_)
 refine wp_block ?_
 refine wp_seq_k (fun K27 hK27 => ?_)
 refine wp_block ?_
 refine wp_seq_k (fun K28 hK28 => ?_)
 refine wp_block ?_
 refine wp_seq_k (fun K29 hK29 => ?_)
 refine wp_block ?_
 refine wp_seq_k (fun K30 hK30 => ?_)
 refine wp_block ?_
 refine wp_seq_k (fun K31 hK31 => ?_)
 refine wp_seq_k (fun K32 hK32 => ?_)
 refine wp_seq_k (fun K33 hK33 => ?_)
 refine wp_region_lit ?_
 refine l_q rfl rfl (q_eql rfl rfl) ?_
 refine l_q rfl rfl (q_assignB rfl) ?_
 refine l_nil ?_
 refine hK33 _ _ ?_
 refine c_condF rfl (by decide) ?_
 refine wp_skip ?_
 refine hK32 _ _ ?_
 refine wp_seq_k (fun K35 hK35 => ?_)
 refine wp_seq_k (fun K36 hK36 => ?_)
 refine wp_region_lit ?_
 refine l_q rfl rfl (q_eql rfl rfl) ?_
 refine l_q rfl rfl (q_assignB rfl) ?_
 refine l_nil ?_
 refine hK36 _ _ ?_
 refine c_condF rfl (by decide) ?_
 refine wp_skip ?_
 refine hK35 _ _ ?_
 refine wp_seq_k (fun K38 hK38 => ?_)
 refine wp_seq_k (fun K39 hK39 => ?_)
 refine wp_region_lit ?_
 refine l_q rfl rfl (q_eql rfl rfl) ?_
 refine l_q rfl rfl (q_assignB rfl) ?_
 refine l_nil ?_
 refine hK39 _ _ ?_
 refine c_condF rfl (by decide) ?_
 refine wp_skip ?_
 refine hK38 _ _ ?_
 refine wp_seq_k (fun K41 hK41 => ?_)
 refine wp_seq_k (fun K42 hK42 => ?_)
 refine wp_region_lit ?_
 refine l_q rfl rfl (q_eql rfl rfl) ?_
 refine l_q rfl rfl (q_assignB rfl) ?_
 refine l_nil ?_
 refine hK42 _ _ ?_
 refine c_condF rfl (by decide) ?_
 refine wp_skip ?_
 refine hK41 _ _ ?_
 refine wp_seq_k (fun K44 hK44 => ?_)
 refine wp_region_lit ?_
 refine l_q rfl rfl (q_eql rfl rfl) ?_
 refine l_q rfl rfl (q_assignB rfl) ?_
 refine l_nil ?_
 refine hK44 _ _ ?_
 refine c_condF rfl (by decide) ?_
 refine wp_skip ?_
 refine hK31 _ _ ?_
 refine wp_exit ?_
 refine hK25 _ _ ?_
 refine wp_seq_k (fun K46 hK46 => ?_)
 refine wp_region_lit ?_
 refine l_q rfl rfl (q_moveI rfl) ?_
 refine l_q rfl rfl (q_eql rfl rfl) ?_
 refine l_q rfl rfl (q_assignB rfl) ?_
 refine l_nil ?_
 refine hK46 _ _ ?_
 refine wp_exit ?_
 refine hK23 _ _ ?_
 refine wp_seq_k (fun K47 hK47 => ?_)
 refine wp_region_lit ?_
 refine l_q rfl rfl (q_build (ps := [(0, 1), (1, 1), (2, 1)]) (zv := .agg #[.int .i64 0, .int .i64 0, .string ⟨#[]⟩]) (by kernel_rfl) (by kernel_rfl) rfl (by repeat' (first | exact trivial | refine ⟨fun _ => by first | rfl | assumption | exact one_if (by assumption), ?_⟩ | refine ⟨fun ⟨_, h⟩ => by simp at h, ?_⟩)) rfl) ?_
 refine l_e rfl (fun K hK => ?_)
 refine e_alloc (zv := .agg #[.int .i64 0, .int .i64 0, .string ⟨#[]⟩]) hS18 (by kernel_rfl) (fun b48 w48 (hS48 : St _ _ [.blk b48 (.cells #[.int .i64 (0 : Int), .int .i64 (0 : Int), .string (bs [])] 51), _, _, _] _) => ?_)
 clear hS18
 refine hK _ _ ?_; clear hK K
 refine l_e rfl (fun K hK => ?_)
 refine e_storeA hS48 rfl rfl (by kernel_rfl) (by repeat' (first | exact trivial | refine ⟨by first | rfl | assumption | exact one_if (by assumption), ?_⟩)) (i := 0) rfl rfl (fun w49 (hS49 : St _ _ [.blk b48 (.cells #[.int .i64 (1 : Int), .int .i64 (0 : Int), .string (bs [])] 51), _, _, _] _) => ?_)
 clear hS48
 refine hK _ _ ?_; clear hK K
 refine l_nil ?_
 refine hK47 _ _ ?_
 refine wp_seq_k (fun K50 hK50 => ?_)
 refine wp_seq_k (fun K51 hK51 => ?_)
 refine wp_region_lit ?_
 refine l_q rfl rfl (q_moveB rfl) ?_
 refine l_nil ?_
 refine hK51 _ _ ?_
 refine c_cond rfl (fun hc52 => ?_) (fun hc52 => ?_)
 ·
  have hc52b := hc52
  try simp only [decide_eq_true_eq, decide_eq_false_iff_not, Bool.not_eq_true', Bool.not_eq_false', Bool.and_eq_true, Bool.or_eq_true, Int.not_lt, Int.not_le, ne_eq, Decidable.not_not] at hc52
  refine wp_region_lit ?_
  refine l_q rfl rfl (q_fieldAddr (ft := 2) (o := 1) rfl (by kernel_rfl)) ?_
  refine l_e rfl (fun K hK => ?_)
  refine e_store1 hS49 rfl rfl (by kernel_rfl) (by first | rfl | assumption) (i := 0) rfl rfl (fun w53 (hS53 : St _ _ [.blk b48 (.cells #[.int .i64 (1 : Int), .int .i64 (1 : Int), .string (bs [])] 51), _, _, _] _) => ?_)
  clear hS49
  refine hK _ _ ?_; clear hK K
  refine l_nil ?_
  refine hK50 _ _ ?_
  refine wp_seq_k (fun K54 hK54 => ?_)
  refine wp_region_lit ?_
  refine l_q rfl rfl (q_loadA (m := 3) rfl (by kernel_rfl) (by kernel_rfl) (hS53.blk (i := 0) rfl) rfl rfl) ?_
  refine l_e rfl (fun K hK => ?_)
  refine e_storeA hS53 rfl rfl (by kernel_rfl) (by repeat' (first | exact trivial | refine ⟨by first | rfl | assumption | exact one_if (by assumption), ?_⟩)) (i := 1) rfl rfl (fun w55 (hS55 : St _ _ [_, .blk b4 (.cells #[.int .i64 (1 : Int), .int .i64 (1 : Int), .string (bs [])] 51), _, _] _) => ?_)
  clear hS53
  refine hK _ _ ?_; clear hK K
  refine l_q rfl rfl (q_assign rfl) ?_
  refine l_nil ?_
  refine hK54 _ _ ?_
  refine wp_ret ?_
  refine c_retCT (m := 3) rfl (by kernel_rfl) (by kernel_rfl) rfl (hS55.blk (i := 1) rfl) rfl rfl ?_
  have he : c03 8 a b = _ := c_6 (by omega) (by assumption) (by assumption) (by omega) (by omega) (decide_eq_true (by omega))
  exact ⟨_, rfl, (by rw [he]; rfl), hS55.drop⟩
 ·
  have hc52b := hc52
  try simp only [decide_eq_true_eq, decide_eq_false_iff_not, Bool.not_eq_true', Bool.not_eq_false', Bool.and_eq_true, Bool.or_eq_true, Int.not_lt, Int.not_le, ne_eq, Decidable.not_not] at hc52
  refine wp_skip ?_
  refine hK50 _ _ ?_
  refine wp_seq_k (fun K56 hK56 => ?_)
  refine wp_region_lit ?_
  refine l_q rfl rfl (q_loadA (m := 3) rfl (by kernel_rfl) (by kernel_rfl) (hS49.blk (i := 0) rfl) rfl rfl) ?_
  refine l_e rfl (fun K hK => ?_)
  refine e_storeA hS49 rfl rfl (by kernel_rfl) (by repeat' (first | exact trivial | refine ⟨by first | rfl | assumption | exact one_if (by assumption), ?_⟩)) (i := 1) rfl rfl (fun w57 (hS57 : St _ _ [_, .blk b4 (.cells #[.int .i64 (1 : Int), .int .i64 (0 : Int), .string (bs [])] 51), _, _] _) => ?_)
  clear hS49
  refine hK _ _ ?_; clear hK K
  refine l_q rfl rfl (q_assign rfl) ?_
  refine l_nil ?_
  refine hK56 _ _ ?_
  refine wp_ret ?_
  refine c_retCT (m := 3) rfl (by kernel_rfl) (by kernel_rfl) rfl (hS57.blk (i := 1) rfl) rfl rfl ?_
  have he : c03 8 a b = _ := c_7 (by omega) (by assumption) (by assumption) (by omega) (by omega) (decide_eq_false (by omega))
  exact ⟨_, rfl, (by rw [he]; rfl), hS57.drop⟩

set_option maxHeartbeats 4000000 in
set_option maxRecDepth 100000 in
theorem cmpg_9 (a b : Vl) (haB : Bytes a.2.2) (hbB : Bytes b.2.2) (han0 : -9223372036854775808 ≤ a.2.1) (han1 : a.2.1 ≤ 9223372036854775807) (hbn0 : -9223372036854775808 ≤ b.2.1) (hbn1 : b.2.1 ≤ 9223372036854775807) (h1 : rightQ a = true) (h2 : rightQ b = true) (h3 : ¬a.1 = 0) (h4 : ¬b.1 = 0) (h5 : (sg03 a b).2.1 = 0) (hz : (c03 9 a b).2.1 = 0) (w : World) : Calls Tryd.prog 34 #[.int .i64 9, .agg (vl a).toArray, .agg (vl b).toArray] w (PostR w fun v => v = .tuple #[.agg (vl (c03 9 a b).1).toArray, .nilIface]) := by
 have hS := St.start w
 refine c_enter Tryd.func34 rfl rfl rfl ?_
 refine wp_seq_k (fun K1 hK1 => ?_)
 refine wp_region_lit ?_
 refine l_e rfl (fun K hK => ?_)
 refine e_boxA hS rfl (fun b2 w2 (hS2 : St _ _ [.blk b2 (.cells #[.int .i64 a.1, .int .i64 a.2.1, .string (bs a.2.2)] 51)] _) => ?_)
 clear hS
 refine hK _ _ ?_; clear hK K
 refine l_e rfl (fun K hK => ?_)
 refine e_boxA hS2 rfl (fun b3 w3 (hS3 : St _ _ [.blk b3 (.cells #[.int .i64 b.1, .int .i64 b.2.1, .string (bs b.2.2)] 51), _] _) => ?_)
 clear hS2
 refine hK _ _ ?_; clear hK K
 refine l_e rfl (fun K hK => ?_)
 refine e_alloc (zv := .agg #[.int .i64 0, .int .i64 0, .string ⟨#[]⟩]) hS3 (by kernel_rfl) (fun b4 w4 (hS4 : St _ _ [.blk b4 (.cells #[.int .i64 (0 : Int), .int .i64 (0 : Int), .string (bs [])] 51), _, _] _) => ?_)
 clear hS3
 refine hK _ _ ?_; clear hK K
 refine l_q rfl rfl (q_assign rfl) ?_
 refine l_nil ?_
 refine hK1 _ _ ?_
 refine wp_seq_k (fun K5 hK5 => ?_)
 refine wp_block ?_
 refine wp_seq_k (fun K6 hK6 => ?_)
 refine wp_region_lit ?_
 refine l_q rfl rfl (q_moveI rfl) ?_
 refine l_q rfl rfl (q_lss rfl rfl) ?_
 refine l_q rfl rfl (q_moveB rfl) ?_
 refine l_on rfl rfl (by decide) ?_
 refine l_q rfl rfl (q_moveI rfl) ?_
 refine l_on rfl rfl (by decide) ?_
 refine l_q rfl rfl (q_gtr rfl rfl) ?_
 refine l_q rfl rfl (q_pickF rfl (by decide) rfl) ?_
 refine l_q rfl rfl (q_assignB rfl) ?_
 refine l_nil ?_
 refine hK6 _ _ ?_
 refine c_condF rfl (by decide) ?_
 refine wp_seq_k (fun K8 hK8 => ?_)
 refine wp_region_lit ?_
 refine l_q rfl rfl (q_loadA (m := 3) rfl (by kernel_rfl) (by kernel_rfl) (hS4.blk (i := 2) rfl) rfl rfl) ?_
 refine l_e rfl (fun K hK => ?_)
 refine e_call (by kernel_rfl) (right_ok a haB _) rfl (after_R hS4 (fun v9 w9 hv9 hS9 => ?_))
 clear hS4
 obtain rfl := hv9
 refine hK _ _ ?_; clear hK K
 refine l_q rfl rfl (q_not rfl) ?_
 refine l_q rfl rfl (q_assignB rfl) ?_
 refine l_nil ?_
 refine hK8 _ _ ?_
 refine c_condF rfl (by rw [show _ = _ from h1]; rfl) ?_
 refine wp_seq_k (fun K11 hK11 => ?_)
 refine wp_region_lit ?_
 refine l_q rfl rfl (q_loadA (m := 3) rfl (by kernel_rfl) (by kernel_rfl) (hS9.blk (i := 1) rfl) rfl rfl) ?_
 refine l_e rfl (fun K hK => ?_)
 refine e_call (by kernel_rfl) (right_ok b hbB _) rfl (after_R hS9 (fun v12 w12 hv12 hS12 => ?_))
 clear hS9
 obtain rfl := hv12
 refine hK _ _ ?_; clear hK K
 refine l_q rfl rfl (q_not rfl) ?_
 refine l_q rfl rfl (q_assignB rfl) ?_
 refine l_nil ?_
 refine hK11 _ _ ?_
 refine c_condF rfl (by rw [show _ = _ from h2]; rfl) ?_
 refine wp_seq_k (fun K14 hK14 => ?_)
 refine wp_region_lit ?_
 refine l_q rfl rfl (q_fieldAddr (ft := 49) (o := 0) rfl (by kernel_rfl)) ?_
 refine l_q rfl rfl (q_load1 rfl (by kernel_rfl) (hS12.cell (i := 2) rfl rfl)) ?_
 refine l_q rfl rfl (q_eql rfl rfl) ?_
 refine l_q rfl rfl (q_moveB rfl) ?_
 refine l_on rfl rfl (decide_eq_false h3) ?_
 refine l_q rfl rfl (q_fieldAddr (ft := 49) (o := 0) rfl (by kernel_rfl)) ?_
 refine l_on rfl rfl (decide_eq_false h3) ?_
 refine l_q rfl rfl (q_load1 rfl (by kernel_rfl) (hS12.cell (i := 1) rfl rfl)) ?_
 refine l_on rfl rfl (decide_eq_false h3) ?_
 refine l_q rfl rfl (q_eql rfl rfl) ?_
 refine l_q rfl rfl (q_pickF rfl (decide_eq_false h3) rfl) ?_
 refine l_q rfl rfl (q_assignB rfl) ?_
 refine l_nil ?_
 refine hK14 _ _ ?_
 refine c_condF rfl (decide_eq_false h4) ?_
 refine wp_skip ?_
 refine hK5 _ _ ?_
 refine wp_seq_k (fun K17 hK17 => ?_)
 refine wp_region_lit ?_
 refine l_q rfl rfl (q_loadA (m := 3) rfl (by kernel_rfl) (by kernel_rfl) (hS12.blk (i := 2) rfl) rfl rfl) ?_
 refine l_q rfl rfl (q_loadA (m := 3) rfl (by kernel_rfl) (by kernel_rfl) (hS12.blk (i := 1) rfl) rfl rfl) ?_
 refine l_e rfl (fun K hK => ?_)
 have hs := h5
 refine e_call (by kernel_rfl) (sign_good a b haB hbB han0 han1 hbn0 hbn1 h5 _) rfl (after_R hS12 (fun v18 w18 hv18 hS18 => ?_))
 clear hS12
 obtain rfl := hv18
 refine hK _ _ ?_; clear hK K
 refine l_q rfl rfl (q_move rfl) ?_
 refine l_q rfl rfl (q_extract rfl rfl) ?_
 refine l_q rfl rfl (q_extract rfl rfl) ?_
 refine l_q rfl rfl (q_assignI rfl) ?_
 refine l_q rfl rfl (q_assign rfl) ?_
 refine l_nil ?_
 refine hK17 _ _ ?_
 refine wp_seq_k (fun K19 hK19 => ?_)
 refine wp_seq_k (fun K20 hK20 => ?_)
 refine wp_region_lit ?_
 refine l_q rfl rfl (q_move rfl) ?_
 refine l_q rfl rfl (q_ine1 rfl (by kernel_rfl)) ?_
 refine l_nil ?_
 refine hK20 _ _ ?_
 refine c_condF rfl rfl ?_
 refine wp_skip ?_
 refine hK19 _ _ ?_
 refine wp_seq_k (fun K22 hK22 => ?_)
 refine wp_region_lit ?_
 refine l_q rfl rfl (q_assignB rfl) ?_
 refine l_nil ?_
 refine hK22 _ _ ?_
 refine wp_seq_k (fun K23 hK23 => ?_)
 refine wp_seq_k (fun K24 hK24 => ?_)
 refine wp_region_lit ?_
 refine l_q rfl rfl (q_moveI rfl) ?_
 refine l_nil ?_
 refine hK24 _ _ ?_
 refine wp_block ?_
 refine wp_seq_k (fun K25 hK25 => ?_)
 refine wp_block ?_
 refine wp_seq_k (fun K26 hK26 => ?_)
 refine wp_block ?_
 refine wp_seq_k (fun K27 hK27 => ?_)
 refine wp_block ?_
 refine wp_seq_k (fun K28 hK28 => ?_)
 refine wp_block ?_
 refine wp_seq_k (fun K29 hK29 => ?_)
 refine wp_block ?_
 refine wp_seq_k (fun K30 hK30 => ?_)
 refine wp_block ?_
 refine wp_seq_k (fun K31 hK31 => ?_)
 refine wp_seq_k (fun K32 hK32 => ?_)
 refine wp_seq_k (fun K33 hK33 => ?_)
 refine wp_region_lit ?_
 refine l_q rfl rfl (q_eql rfl rfl) ?_
 refine l_q rfl rfl (q_assignB rfl) ?_
 refine l_nil ?_
 refine hK33 _ _ ?_
 refine c_condT rfl (by decide) ?_
 refine wp_exit ?_
 refine hK30 _ _ ?_
 refine wp_seq_k (fun K35 hK35 => ?_)
 refine wp_region_lit ?_
 refine l_q rfl rfl (q_moveI rfl) ?_
 refine l_q rfl rfl (q_neq rfl rfl) ?_
 refine l_q rfl rfl (q_assignB rfl) ?_
 refine l_nil ?_
 refine hK35 _ _ ?_
 refine wp_exit ?_
 refine hK23 _ _ ?_
 refine wp_seq_k (fun K36 hK36 => ?_)
 refine wp_region_lit ?_
 refine l_q rfl rfl (q_build (ps := [(0, 1), (1, 1), (2, 1)]) (zv := .agg #[.int .i64 0, .int .i64 0, .string ⟨#[]⟩]) (by kernel_rfl) (by kernel_rfl) rfl (by repeat' (first | exact trivial | refine ⟨fun _ => by first | rfl | assumption | exact one_if (by assumption), ?_⟩ | refine ⟨fun ⟨_, h⟩ => by simp at h, ?_⟩)) rfl) ?_
 refine l_e rfl (fun K hK => ?_)
 refine e_alloc (zv := .agg #[.int .i64 0, .int .i64 0, .string ⟨#[]⟩]) hS18 (by kernel_rfl) (fun b37 w37 (hS37 : St _ _ [.blk b37 (.cells #[.int .i64 (0 : Int), .int .i64 (0 : Int), .string (bs [])] 51), _, _, _] _) => ?_)
 clear hS18
 refine hK _ _ ?_; clear hK K
 refine l_e rfl (fun K hK => ?_)
 refine e_storeA hS37 rfl rfl (by kernel_rfl) (by repeat' (first | exact trivial | refine ⟨by first | rfl | assumption | exact one_if (by assumption), ?_⟩)) (i := 0) rfl rfl (fun w38 (hS38 : St _ _ [.blk b37 (.cells #[.int .i64 (1 : Int), .int .i64 (0 : Int), .string (bs [])] 51), _, _, _] _) => ?_)
 clear hS37
 refine hK _ _ ?_; clear hK K
 refine l_nil ?_
 refine hK36 _ _ ?_
 refine wp_seq_k (fun K39 hK39 => ?_)
 refine wp_seq_k (fun K40 hK40 => ?_)
 refine wp_region_lit ?_
 refine l_q rfl rfl (q_moveB rfl) ?_
 refine l_nil ?_
 refine hK40 _ _ ?_
 refine c_cond rfl (fun hc41 => ?_) (fun hc41 => ?_)
 ·
  have hc41b := hc41
  try simp only [decide_eq_true_eq, decide_eq_false_iff_not, Bool.not_eq_true', Bool.not_eq_false', Bool.and_eq_true, Bool.or_eq_true, Int.not_lt, Int.not_le, ne_eq, Decidable.not_not] at hc41
  refine wp_region_lit ?_
  refine l_q rfl rfl (q_fieldAddr (ft := 2) (o := 1) rfl (by kernel_rfl)) ?_
  refine l_e rfl (fun K hK => ?_)
  refine e_store1 hS38 rfl rfl (by kernel_rfl) (by first | rfl | assumption) (i := 0) rfl rfl (fun w42 (hS42 : St _ _ [.blk b37 (.cells #[.int .i64 (1 : Int), .int .i64 (1 : Int), .string (bs [])] 51), _, _, _] _) => ?_)
  clear hS38
  refine hK _ _ ?_; clear hK K
  refine l_nil ?_
  refine hK39 _ _ ?_
  refine wp_seq_k (fun K43 hK43 => ?_)
  refine wp_region_lit ?_
  refine l_q rfl rfl (q_loadA (m := 3) rfl (by kernel_rfl) (by kernel_rfl) (hS42.blk (i := 0) rfl) rfl rfl) ?_
  refine l_e rfl (fun K hK => ?_)
  refine e_storeA hS42 rfl rfl (by kernel_rfl) (by repeat' (first | exact trivial | refine ⟨by first | rfl | assumption | exact one_if (by assumption), ?_⟩)) (i := 1) rfl rfl (fun w44 (hS44 : St _ _ [_, .blk b4 (.cells #[.int .i64 (1 : Int), .int .i64 (1 : Int), .string (bs [])] 51), _, _] _) => ?_)
  clear hS42
  refine hK _ _ ?_; clear hK K
  refine l_q rfl rfl (q_assign rfl) ?_
  refine l_nil ?_
  refine hK43 _ _ ?_
  refine wp_ret ?_
  refine c_retCT (m := 3) rfl (by kernel_rfl) (by kernel_rfl) rfl (hS44.blk (i := 1) rfl) rfl rfl ?_
  have he : c03 9 a b = _ := c_6 (by omega) (by assumption) (by assumption) (by omega) (by omega) (decide_eq_true (by omega))
  exact ⟨_, rfl, (by rw [he]; rfl), hS44.drop⟩
 ·
  have hc41b := hc41
  try simp only [decide_eq_true_eq, decide_eq_false_iff_not, Bool.not_eq_true', Bool.not_eq_false', Bool.and_eq_true, Bool.or_eq_true, Int.not_lt, Int.not_le, ne_eq, Decidable.not_not] at hc41
  refine wp_skip ?_
  refine hK39 _ _ ?_
  refine wp_seq_k (fun K45 hK45 => ?_)
  refine wp_region_lit ?_
  refine l_q rfl rfl (q_loadA (m := 3) rfl (by kernel_rfl) (by kernel_rfl) (hS38.blk (i := 0) rfl) rfl rfl) ?_
  refine l_e rfl (fun K hK => ?_)
  refine e_storeA hS38 rfl rfl (by kernel_rfl) (by repeat' (first | exact trivial | refine ⟨by first | rfl | assumption | exact one_if (by assumption), ?_⟩)) (i := 1) rfl rfl (fun w46 (hS46 : St _ _ [_, .blk b4 (.cells #[.int .i64 (1 : Int), .int .i64 (0 : Int), .string (bs [])] 51), _, _] _) => ?_)
  clear hS38
  refine hK _ _ ?_; clear hK K
  refine l_q rfl rfl (q_assign rfl) ?_
  refine l_nil ?_
  refine hK45 _ _ ?_
  refine wp_ret ?_
  refine c_retCT (m := 3) rfl (by kernel_rfl) (by kernel_rfl) rfl (hS46.blk (i := 1) rfl) rfl rfl ?_
  have he : c03 9 a b = _ := c_7 (by omega) (by assumption) (by assumption) (by omega) (by omega) (decide_eq_false (by omega))
  exact ⟨_, rfl, (by rw [he]; rfl), hS46.drop⟩

set_option maxHeartbeats 4000000 in
set_option maxRecDepth 100000 in
theorem cmpg_10 (a b : Vl) (haB : Bytes a.2.2) (hbB : Bytes b.2.2) (han0 : -9223372036854775808 ≤ a.2.1) (han1 : a.2.1 ≤ 9223372036854775807) (hbn0 : -9223372036854775808 ≤ b.2.1) (hbn1 : b.2.1 ≤ 9223372036854775807) (h1 : rightQ a = true) (h2 : rightQ b = true) (h3 : ¬a.1 = 0) (h4 : ¬b.1 = 0) (h5 : (sg03 a b).2.1 = 0) (hz : (c03 10 a b).2.1 = 0) (w : World) : Calls Tryd.prog 34 #[.int .i64 10, .agg (vl a).toArray, .agg (vl b).toArray] w (PostR w fun v => v = .tuple #[.agg (vl (c03 10 a b).1).toArray, .nilIface]) := by
 have hS := St.start w
 refine c_enter Tryd.func34 rfl rfl rfl ?_
 refine wp_seq_k (fun K1 hK1 => ?_)
 refine wp_region_lit ?_
 refine l_e rfl (fun K hK => ?_)
 refine e_boxA hS rfl (fun b2 w2 (hS2 : St _ _ [.blk b2 (.cells #[.int .i64 a.1, .int .i64 a.2.1, .string (bs a.2.2)] 51)] _) => ?_)
 clear hS
 refine hK _ _ ?_; clear hK K
 refine l_e rfl (fun K hK => ?_)
 refine e_boxA hS2 rfl (fun b3 w3 (hS3 : St _ _ [.blk b3 (.cells #[.int .i64 b.1, .int .i64 b.2.1, .string (bs b.2.2)] 51), _] _) => ?_)
 clear hS2
 refine hK _ _ ?_; clear hK K
 refine l_e rfl (fun K hK => ?_)
 refine e_alloc (zv := .agg #[.int .i64 0, .int .i64 0, .string ⟨#[]⟩]) hS3 (by kernel_rfl) (fun b4 w4 (hS4 : St _ _ [.blk b4 (.cells #[.int .i64 (0 : Int), .int .i64 (0 : Int), .string (bs [])] 51), _, _] _) => ?_)
 clear hS3
 refine hK _ _ ?_; clear hK K
 refine l_q rfl rfl (q_assign rfl) ?_
 refine l_nil ?_
 refine hK1 _ _ ?_
 refine wp_seq_k (fun K5 hK5 => ?_)
 refine wp_block ?_
 refine wp_seq_k (fun K6 hK6 => ?_)
 refine wp_region_lit ?_
 refine l_q rfl rfl (q_moveI rfl) ?_
 refine l_q rfl rfl (q_lss rfl rfl) ?_
 refine l_q rfl rfl (q_moveB rfl) ?_
 refine l_on rfl rfl (by decide) ?_
 refine l_q rfl rfl (q_moveI rfl) ?_
 refine l_on rfl rfl (by decide) ?_
 refine l_q rfl rfl (q_gtr rfl rfl) ?_
 refine l_q rfl rfl (q_pickF rfl (by decide) rfl) ?_
 refine l_q rfl rfl (q_assignB rfl) ?_
 refine l_nil ?_
 refine hK6 _ _ ?_
 refine c_condF rfl (by decide) ?_
 refine wp_seq_k (fun K8 hK8 => ?_)
 refine wp_region_lit ?_
 refine l_q rfl rfl (q_loadA (m := 3) rfl (by kernel_rfl) (by kernel_rfl) (hS4.blk (i := 2) rfl) rfl rfl) ?_
 refine l_e rfl (fun K hK => ?_)
 refine e_call (by kernel_rfl) (right_ok a haB _) rfl (after_R hS4 (fun v9 w9 hv9 hS9 => ?_))
 clear hS4
 obtain rfl := hv9
 refine hK _ _ ?_; clear hK K
 refine l_q rfl rfl (q_not rfl) ?_
 refine l_q rfl rfl (q_assignB rfl) ?_
 refine l_nil ?_
 refine hK8 _ _ ?_
 refine c_condF rfl (by rw [show _ = _ from h1]; rfl) ?_
 refine wp_seq_k (fun K11 hK11 => ?_)
 refine wp_region_lit ?_
 refine l_q rfl rfl (q_loadA (m := 3) rfl (by kernel_rfl) (by kernel_rfl) (hS9.blk (i := 1) rfl) rfl rfl) ?_
 refine l_e rfl (fun K hK => ?_)
 refine e_call (by kernel_rfl) (right_ok b hbB _) rfl (after_R hS9 (fun v12 w12 hv12 hS12 => ?_))
 clear hS9
 obtain rfl := hv12
 refine hK _ _ ?_; clear hK K
 refine l_q rfl rfl (q_not rfl) ?_
 refine l_q rfl rfl (q_assignB rfl) ?_
 refine l_nil ?_
 refine hK11 _ _ ?_
 refine c_condF rfl (by rw [show _ = _ from h2]; rfl) ?_
 refine wp_seq_k (fun K14 hK14 => ?_)
 refine wp_region_lit ?_
 refine l_q rfl rfl (q_fieldAddr (ft := 49) (o := 0) rfl (by kernel_rfl)) ?_
 refine l_q rfl rfl (q_load1 rfl (by kernel_rfl) (hS12.cell (i := 2) rfl rfl)) ?_
 refine l_q rfl rfl (q_eql rfl rfl) ?_
 refine l_q rfl rfl (q_moveB rfl) ?_
 refine l_on rfl rfl (decide_eq_false h3) ?_
 refine l_q rfl rfl (q_fieldAddr (ft := 49) (o := 0) rfl (by kernel_rfl)) ?_
 refine l_on rfl rfl (decide_eq_false h3) ?_
 refine l_q rfl rfl (q_load1 rfl (by kernel_rfl) (hS12.cell (i := 1) rfl rfl)) ?_
 refine l_on rfl rfl (decide_eq_false h3) ?_
 refine l_q rfl rfl (q_eql rfl rfl) ?_
 refine l_q rfl rfl (q_pickF rfl (decide_eq_false h3) rfl) ?_
 refine l_q rfl rfl (q_assignB rfl) ?_
 refine l_nil ?_
 refine hK14 _ _ ?_
 refine c_condF rfl (decide_eq_false h4) ?_
 refine wp_skip ?_
 refine hK5 _ _ ?_
 refine wp_seq_k (fun K17 hK17 => ?_)
 refine wp_region_lit ?_
 refine l_q rfl rfl (q_loadA (m := 3) rfl (by kernel_rfl) (by kernel_rfl) (hS12.blk (i := 2) rfl) rfl rfl) ?_
 refine l_q rfl rfl (q_loadA (m := 3) rfl (by kernel_rfl) (by kernel_rfl) (hS12.blk (i := 1) rfl) rfl rfl) ?_
 refine l_e rfl (fun K hK => ?_)
 have hs := h5
 refine e_call (by kernel_rfl) (sign_good a b haB hbB han0 han1 hbn0 hbn1 h5 _) rfl (after_R hS12 (fun v18 w18 hv18 hS18 => ?_))
 clear hS12
 obtain rfl := hv18
 refine hK _ _ ?_; clear hK K
 refine l_q rfl rfl (q_move rfl) ?_
 refine l_q rfl rfl (q_extract rfl rfl) ?_
 refine l_q rfl rfl (q_extract rfl rfl) ?_
 refine l_q rfl rfl (q_assignI rfl) ?_
 refine l_q rfl rfl (q_assign rfl) ?_
 refine l_nil ?_
 refine hK17 _ _ ?_
 refine wp_seq_k (fun K19 hK19 => ?_)
 refine wp_seq_k (fun K20 hK20 => ?_)
 refine wp_region_lit ?_
 refine l_q rfl rfl (q_move rfl) ?_
 refine l_q rfl rfl (q_ine1 rfl (by kernel_rfl)) ?_
 refine l_nil ?_
 refine hK20 _ _ ?_
 refine c_condF rfl rfl ?_
 refine wp_skip ?_
 refine hK19 _ _ ?_
 refine wp_seq_k (fun K22 hK22 => ?_)
 refine wp_region_lit ?_
 refine l_q rfl rfl (q_assignB rfl) ?_
 refine l_nil ?_
 refine hK22 _ _ ?_
 refine wp_seq_k (fun K23 hK23 => ?_)
 refine wp_seq_k (fun K24 hK24 => ?_)
 refine wp_region_lit ?_
 refine l_q rfl rfl (q_moveI rfl) ?_
 refine l_nil ?_
 refine hK24 _ _ ?_
 refine wp_block ?_
 refine wp_seq_k (fun K25 hK25 => ?_)
 refine wp_block ?_
 refine wp_seq_k (fun K26 hK26 => ?_)
 refine wp_block ?_
 refine wp_seq_k (fun K27 hK27 => ?_)
 refine wp_block ?_
 refine wp_seq_k (fun K28 hK28 => ?_)
 refine wp_block ?_
 refine wp_seq_k (fun K29 hK29 => ?_)
 refine wp_block ?_
 refine wp_seq_k (fun K30 hK30 => ?_)
 refine wp_block ?_
 refine wp_seq_k (fun K31 hK31 => ?_)
 refine wp_seq_k (fun K32 hK32 => ?_)
 refine wp_seq_k (fun K33 hK33 => ?_)
 refine wp_region_lit ?_
 refine l_q rfl rfl (q_eql rfl rfl) ?_
 refine l_q rfl rfl (q_assignB rfl) ?_
 refine l_nil ?_
 refine hK33 _ _ ?_
 refine c_condF rfl (by decide) ?_
 refine wp_skip ?_
 refine hK32 _ _ ?_
 refine wp_seq_k (fun K35 hK35 => ?_)
 refine wp_seq_k (fun K36 hK36 => ?_)
 refine wp_region_lit ?_
 refine l_q rfl rfl (q_eql rfl rfl) ?_
 refine l_q rfl rfl (q_assignB rfl) ?_
 refine l_nil ?_
 refine hK36 _ _ ?_
 refine c_condF rfl (by decide) ?_
 refine wp_skip ?_
 refine hK35 _ _ ?_
 refine wp_seq_k (fun K38 hK38 => ?_)
 refine wp_seq_k (fun K39 hK39 => ?_)
 refine wp_region_lit ?_
 refine l_q rfl rfl (q_eql rfl rfl) ?_
 refine l_q rfl rfl (q_assignB rfl) ?_
 refine l_nil ?_
 refine hK39 _ _ ?_
 refine c_condT rfl (by decide) ?_
 refine wp_exit ?_
 refine hK28 _ _ ?_
 refine wp_seq_k (fun K41 hK41 => ?_)
 refine wp_region_lit ?_
 refine l_q rfl rfl (q_moveB rfl) ?_
 refine l_q rfl rfl (q_moveB rfl) ?_
 refine l_on rfl rfl rfl ?_
 refine l_q rfl rfl (q_moveI rfl) ?_
 refine l_on rfl rfl rfl ?_
 refine l_q rfl rfl (q_lss rfl rfl) ?_
 refine l_q rfl rfl (q_pickF rfl rfl rfl) ?_
 refine l_q rfl rfl (q_assignB rfl) ?_
 refine l_nil ?_
 refine hK41 _ _ ?_
 refine wp_exit ?_
 refine hK23 _ _ ?_
 refine wp_seq_k (fun K42 hK42 => ?_)
 refine wp_region_lit ?_
 refine l_q rfl rfl (q_build (ps := [(0, 1), (1, 1), (2, 1)]) (zv := .agg #[.int .i64 0, .int .i64 0, .string ⟨#[]⟩]) (by kernel_rfl) (by kernel_rfl) rfl (by repeat' (first | exact trivial | refine ⟨fun _ => by first | rfl | assumption | exact one_if (by assumption), ?_⟩ | refine ⟨fun ⟨_, h⟩ => by simp at h, ?_⟩)) rfl) ?_
 refine l_e rfl (fun K hK => ?_)
 refine e_alloc (zv := .agg #[.int .i64 0, .int .i64 0, .string ⟨#[]⟩]) hS18 (by kernel_rfl) (fun b43 w43 (hS43 : St _ _ [.blk b43 (.cells #[.int .i64 (0 : Int), .int .i64 (0 : Int), .string (bs [])] 51), _, _, _] _) => ?_)
 clear hS18
 refine hK _ _ ?_; clear hK K
 refine l_e rfl (fun K hK => ?_)
 refine e_storeA hS43 rfl rfl (by kernel_rfl) (by repeat' (first | exact trivial | refine ⟨by first | rfl | assumption | exact one_if (by assumption), ?_⟩)) (i := 0) rfl rfl (fun w44 (hS44 : St _ _ [.blk b43 (.cells #[.int .i64 (1 : Int), .int .i64 (0 : Int), .string (bs [])] 51), _, _, _] _) => ?_)
 clear hS43
 refine hK _ _ ?_; clear hK K
 refine l_nil ?_
 refine hK42 _ _ ?_
 refine wp_seq_k (fun K45 hK45 => ?_)
 refine wp_seq_k (fun K46 hK46 => ?_)
 refine wp_region_lit ?_
 refine l_q rfl rfl (q_moveB rfl) ?_
 refine l_nil ?_
 refine hK46 _ _ ?_
 refine c_cond rfl (fun hc47 => ?_) (fun hc47 => ?_)
 ·
  have hc47b := hc47
  try simp only [decide_eq_true_eq, decide_eq_false_iff_not, Bool.not_eq_true', Bool.not_eq_false', Bool.and_eq_true, Bool.or_eq_true, Int.not_lt, Int.not_le, ne_eq, Decidable.not_not] at hc47
  refine wp_region_lit ?_
  refine l_q rfl rfl (q_fieldAddr (ft := 2) (o := 1) rfl (by kernel_rfl)) ?_
  refine l_e rfl (fun K hK => ?_)
  refine e_store1 hS44 rfl rfl (by kernel_rfl) (by first | rfl | assumption) (i := 0) rfl rfl (fun w48 (hS48 : St _ _ [.blk b43 (.cells #[.int .i64 (1 : Int), .int .i64 (1 : Int), .string (bs [])] 51), _, _, _] _) => ?_)
  clear hS44
  refine hK _ _ ?_; clear hK K
  refine l_nil ?_
  refine hK45 _ _ ?_
  refine wp_seq_k (fun K49 hK49 => ?_)
  refine wp_region_lit ?_
  refine l_q rfl rfl (q_loadA (m := 3) rfl (by kernel_rfl) (by kernel_rfl) (hS48.blk (i := 0) rfl) rfl rfl) ?_
  refine l_e rfl (fun K hK => ?_)
  refine e_storeA hS48 rfl rfl (by kernel_rfl) (by repeat' (first | exact trivial | refine ⟨by first | rfl | assumption | exact one_if (by assumption), ?_⟩)) (i := 1) rfl rfl (fun w50 (hS50 : St _ _ [_, .blk b4 (.cells #[.int .i64 (1 : Int), .int .i64 (1 : Int), .string (bs [])] 51), _, _] _) => ?_)
  clear hS48
  refine hK _ _ ?_; clear hK K
  refine l_q rfl rfl (q_assign rfl) ?_
  refine l_nil ?_
  refine hK49 _ _ ?_
  refine wp_ret ?_
  refine c_retCT (m := 3) rfl (by kernel_rfl) (by kernel_rfl) rfl (hS50.blk (i := 1) rfl) rfl rfl ?_
  have he : c03 10 a b = _ := c_6 (by omega) (by assumption) (by assumption) (by omega) (by omega) (decide_eq_true (by omega))
  exact ⟨_, rfl, (by rw [he]; rfl), hS50.drop⟩
 ·
  have hc47b := hc47
  try simp only [decide_eq_true_eq, decide_eq_false_iff_not, Bool.not_eq_true', Bool.not_eq_false', Bool.and_eq_true, Bool.or_eq_true, Int.not_lt, Int.not_le, ne_eq, Decidable.not_not] at hc47
  refine wp_skip ?_
  refine hK45 _ _ ?_
  refine wp_seq_k (fun K51 hK51 => ?_)
  refine wp_region_lit ?_
  refine l_q rfl rfl (q_loadA (m := 3) rfl (by kernel_rfl) (by kernel_rfl) (hS44.blk (i := 0) rfl) rfl rfl) ?_
  refine l_e rfl (fun K hK => ?_)
  refine e_storeA hS44 rfl rfl (by kernel_rfl) (by repeat' (first | exact trivial | refine ⟨by first | rfl | assumption | exact one_if (by assumption), ?_⟩)) (i := 1) rfl rfl (fun w52 (hS52 : St _ _ [_, .blk b4 (.cells #[.int .i64 (1 : Int), .int .i64 (0 : Int), .string (bs [])] 51), _, _] _) => ?_)
  clear hS44
  refine hK _ _ ?_; clear hK K
  refine l_q rfl rfl (q_assign rfl) ?_
  refine l_nil ?_
  refine hK51 _ _ ?_
  refine wp_ret ?_
  refine c_retCT (m := 3) rfl (by kernel_rfl) (by kernel_rfl) rfl (hS52.blk (i := 1) rfl) rfl rfl ?_
  have he : c03 10 a b = _ := c_7 (by omega) (by assumption) (by assumption) (by omega) (by omega) (decide_eq_false (by omega))
  exact ⟨_, rfl, (by rw [he]; rfl), hS52.drop⟩

set_option maxHeartbeats 4000000 in
set_option maxRecDepth 100000 in
theorem cmpg_11 (a b : Vl) (haB : Bytes a.2.2) (hbB : Bytes b.2.2) (han0 : -9223372036854775808 ≤ a.2.1) (han1 : a.2.1 ≤ 9223372036854775807) (hbn0 : -9223372036854775808 ≤ b.2.1) (hbn1 : b.2.1 ≤ 9223372036854775807) (h1 : rightQ a = true) (h2 : rightQ b = true) (h3 : ¬a.1 = 0) (h4 : ¬b.1 = 0) (h5 : (sg03 a b).2.1 = 0) (hz : (c03 11 a b).2.1 = 0) (w : World) : Calls Tryd.prog 34 #[.int .i64 11, .agg (vl a).toArray, .agg (vl b).toArray] w (PostR w fun v => v = .tuple #[.agg (vl (c03 11 a b).1).toArray, .nilIface]) := by
 have hS := St.start w
 refine c_enter Tryd.func34 rfl rfl rfl ?_
 refine wp_seq_k (fun K1 hK1 => ?_)
 refine wp_region_lit ?_
 refine l_e rfl (fun K hK => ?_)
 refine e_boxA hS rfl (fun b2 w2 (hS2 : St _ _ [.blk b2 (.cells #[.int .i64 a.1, .int .i64 a.2.1, .string (bs a.2.2)] 51)] _) => ?_)
 clear hS
 refine hK _ _ ?_; clear hK K
 refine l_e rfl (fun K hK => ?_)
 refine e_boxA hS2 rfl (fun b3 w3 (hS3 : St _ _ [.blk b3 (.cells #[.int .i64 b.1, .int .i64 b.2.1, .string (bs b.2.2)] 51), _] _) => ?_)
 clear hS2
 refine hK _ _ ?_; clear hK K
 refine l_e rfl (fun K hK => ?_)
 refine e_alloc (zv := .agg #[.int .i64 0, .int .i64 0, .string ⟨#[]⟩]) hS3 (by kernel_rfl) (fun b4 w4 (hS4 : St _ _ [.blk b4 (.cells #[.int .i64 (0 : Int), .int .i64 (0 : Int), .string (bs [])] 51), _, _] _) => ?_)
 clear hS3
 refine hK _ _ ?_; clear hK K
 refine l_q rfl rfl (q_assign rfl) ?_
 refine l_nil ?_
 refine hK1 _ _ ?_
 refine wp_seq_k (fun K5 hK5 => ?_)
 refine wp_block ?_
 refine wp_seq_k (fun K6 hK6 => ?_)
 refine wp_region_lit ?_
 refine l_q rfl rfl (q_moveI rfl) ?_
 refine l_q rfl rfl (q_lss rfl rfl) ?_
 refine l_q rfl rfl (q_moveB rfl) ?_
 refine l_on rfl rfl (by decide) ?_
 refine l_q rfl rfl (q_moveI rfl) ?_
 refine l_on rfl rfl (by decide) ?_
 refine l_q rfl rfl (q_gtr rfl rfl) ?_
 refine l_q rfl rfl (q_pickF rfl (by decide) rfl) ?_
 refine l_q rfl rfl (q_assignB rfl) ?_
 refine l_nil ?_
 refine hK6 _ _ ?_
 refine c_condF rfl (by decide) ?_
 refine wp_seq_k (fun K8 hK8 => ?_)
 refine wp_region_lit ?_
 refine l_q rfl rfl (q_loadA (m := 3) rfl (by kernel_rfl) (by kernel_rfl) (hS4.blk (i := 2) rfl) rfl rfl) ?_
 refine l_e rfl (fun K hK => ?_)
 refine e_call (by kernel_rfl) (right_ok a haB _) rfl (after_R hS4 (fun v9 w9 hv9 hS9 => ?_))
 clear hS4
 obtain rfl := hv9
 refine hK _ _ ?_; clear hK K
 refine l_q rfl rfl (q_not rfl) ?_
 refine l_q rfl rfl (q_assignB rfl) ?_
 refine l_nil ?_
 refine hK8 _ _ ?_
 refine c_condF rfl (by rw [show _ = _ from h1]; rfl) ?_
 refine wp_seq_k (fun K11 hK11 => ?_)
 refine wp_region_lit ?_
 refine l_q rfl rfl (q_loadA (m := 3) rfl (by kernel_rfl) (by kernel_rfl) (hS9.blk (i := 1) rfl) rfl rfl) ?_
 refine l_e rfl (fun K hK => ?_)
 refine e_call (by kernel_rfl) (right_ok b hbB _) rfl (after_R hS9 (fun v12 w12 hv12 hS12 => ?_))
 clear hS9
 obtain rfl := hv12
 refine hK _ _ ?_; clear hK K
 refine l_q rfl rfl (q_not rfl) ?_
 refine l_q rfl rfl (q_assignB rfl) ?_
 refine l_nil ?_
 refine hK11 _ _ ?_
 refine c_condF rfl (by rw [show _ = _ from h2]; rfl) ?_
 refine wp_seq_k (fun K14 hK14 => ?_)
 refine wp_region_lit ?_
 refine l_q rfl rfl (q_fieldAddr (ft := 49) (o := 0) rfl (by kernel_rfl)) ?_
 refine l_q rfl rfl (q_load1 rfl (by kernel_rfl) (hS12.cell (i := 2) rfl rfl)) ?_
 refine l_q rfl rfl (q_eql rfl rfl) ?_
 refine l_q rfl rfl (q_moveB rfl) ?_
 refine l_on rfl rfl (decide_eq_false h3) ?_
 refine l_q rfl rfl (q_fieldAddr (ft := 49) (o := 0) rfl (by kernel_rfl)) ?_
 refine l_on rfl rfl (decide_eq_false h3) ?_
 refine l_q rfl rfl (q_load1 rfl (by kernel_rfl) (hS12.cell (i := 1) rfl rfl)) ?_
 refine l_on rfl rfl (decide_eq_false h3) ?_
 refine l_q rfl rfl (q_eql rfl rfl) ?_
 refine l_q rfl rfl (q_pickF rfl (decide_eq_false h3) rfl) ?_
 refine l_q rfl rfl (q_assignB rfl) ?_
 refine l_nil ?_
 refine hK14 _ _ ?_
 refine c_condF rfl (decide_eq_false h4) ?_
 refine wp_skip ?_
 refine hK5 _ _ ?_
 refine wp_seq_k (fun K17 hK17 => ?_)
 refine wp_region_lit ?_
 refine l_q rfl rfl (q_loadA (m := 3) rfl (by kernel_rfl) (by kernel_rfl) (hS12.blk (i := 2) rfl) rfl rfl) ?_
 refine l_q rfl rfl (q_loadA (m := 3) rfl (by kernel_rfl) (by kernel_rfl) (hS12.blk (i := 1) rfl) rfl rfl) ?_
 refine l_e rfl (fun K hK => ?_)
 have hs := h5
 refine e_call (by kernel_rfl) (sign_good a b haB hbB han0 han1 hbn0 hbn1 h5 _) rfl (after_R hS12 (fun v18 w18 hv18 hS18 => ?_))
 clear hS12
 obtain rfl := hv18
 refine hK _ _ ?_; clear hK K
 refine l_q rfl rfl (q_move rfl) ?_
 refine l_q rfl rfl (q_extract rfl rfl) ?_
 refine l_q rfl rfl (q_extract rfl rfl) ?_
 refine l_q rfl rfl (q_assignI rfl) ?_
 refine l_q rfl rfl (q_assign rfl) ?_
 refine l_nil ?_
 refine hK17 _ _ ?_
 refine wp_seq_k (fun K19 hK19 => ?_)
 refine wp_seq_k (fun K20 hK20 => ?_)
 refine wp_region_lit ?_
 refine l_q rfl rfl (q_move rfl) ?_
 refine l_q rfl rfl (q_ine1 rfl (by kernel_rfl)) ?_
 refine l_nil ?_
 refine hK20 _ _ ?_
 refine c_condF rfl rfl ?_
 refine wp_skip ?_
 refine hK19 _ _ ?_
 refine wp_seq_k (fun K22 hK22 => ?_)
 refine wp_region_lit ?_
 refine l_q rfl rfl (q_assignB rfl) ?_
 refine l_nil ?_
 refine hK22 _ _ ?_
 refine wp_seq_k (fun K23 hK23 => ?_)
 refine wp_seq_k (fun K24 hK24 => ?_)
 refine wp_region_lit ?_
 refine l_q rfl rfl (q_moveI rfl) ?_
 refine l_nil ?_
 refine hK24 _ _ ?_
 refine wp_block ?_
 refine wp_seq_k (fun K25 hK25 => ?_)
 refine wp_block ?_
 refine wp_seq_k (fun K26 hK26 => ?_)
 refine wp_block ?_
 refine wp_seq_k (fun K27 hK27 => ?_)
 refine wp_block ?_
 refine wp_seq_k (fun K28 hK28 => ?_)
 refine wp_block ?_
 refine wp_seq_k (fun K29 hK29 => ?_)
 refine wp_block ?_
 refine wp_seq_k (fun K30 hK30 => ?_)
 refine wp_block ?_
 refine wp_seq_k (fun K31 hK31 => ?_)
 refine wp_seq_k (fun K32 hK32 => ?_)
 refine wp_seq_k (fun K33 hK33 => ?_)
 refine wp_region_lit ?_
 refine l_q rfl rfl (q_eql rfl rfl) ?_
 refine l_q rfl rfl (q_assignB rfl) ?_
 refine l_nil ?_
 refine hK33 _ _ ?_
 refine c_condF rfl (by decide) ?_
 refine wp_skip ?_
 refine hK32 _ _ ?_
 refine wp_seq_k (fun K35 hK35 => ?_)
 refine wp_seq_k (fun K36 hK36 => ?_)
 refine wp_region_lit ?_
 refine l_q rfl rfl (q_eql rfl rfl) ?_
 refine l_q rfl rfl (q_assignB rfl) ?_
 refine l_nil ?_
 refine hK36 _ _ ?_
 refine c_condT rfl (by decide) ?_
 refine wp_exit ?_
 refine hK29 _ _ ?_
 refine wp_region_lit ?_
 refine l_q rfl rfl (q_moveI rfl) ?_
 refine l_q rfl rfl (q_eql rfl rfl) ?_
 refine l_q rfl rfl (q_assignB rfl) ?_
 refine l_nil ?_
 refine hK28 _ _ ?_
 refine wp_seq_k (fun K38 hK38 => ?_)
 refine wp_region_lit ?_
 refine l_q rfl rfl (q_moveB rfl) ?_
 refine l_q rfl rfl (q_moveB rfl) ?_
 refine g_splitL (t := 69) rfl (fun hg39 => ?_) (fun hg39 => ?_)
 ·
  have hg39b := hg39
  try simp only [decide_eq_true_eq, decide_eq_false_iff_not, Bool.not_eq_true', Bool.not_eq_false', Bool.and_eq_true, Bool.or_eq_true, Int.not_lt, Int.not_le, ne_eq, Decidable.not_not] at hg39
  refine l_off rfl rfl rfl hg39b ?_
  refine l_off rfl rfl rfl hg39b ?_
  refine l_q rfl rfl (q_pickT rfl hg39b rfl) ?_
  refine l_q rfl rfl (q_assignB rfl) ?_
  refine l_nil ?_
  refine hK38 _ _ ?_
  refine wp_exit ?_
  refine hK23 _ _ ?_
  refine wp_seq_k (fun K40 hK40 => ?_)
  refine wp_region_lit ?_
  refine l_q rfl rfl (q_build (ps := [(0, 1), (1, 1), (2, 1)]) (zv := .agg #[.int .i64 0, .int .i64 0, .string ⟨#[]⟩]) (by kernel_rfl) (by kernel_rfl) rfl (by repeat' (first | exact trivial | refine ⟨fun _ => by first | rfl | assumption | exact one_if (by assumption), ?_⟩ | refine ⟨fun ⟨_, h⟩ => by simp at h, ?_⟩)) rfl) ?_
  refine l_e rfl (fun K hK => ?_)
  refine e_alloc (zv := .agg #[.int .i64 0, .int .i64 0, .string ⟨#[]⟩]) hS18 (by kernel_rfl) (fun b41 w41 (hS41 : St _ _ [.blk b41 (.cells #[.int .i64 (0 : Int), .int .i64 (0 : Int), .string (bs [])] 51), _, _, _] _) => ?_)
  clear hS18
  refine hK _ _ ?_; clear hK K
  refine l_e rfl (fun K hK => ?_)
  refine e_storeA hS41 rfl rfl (by kernel_rfl) (by repeat' (first | exact trivial | refine ⟨by first | rfl | assumption | exact one_if (by assumption), ?_⟩)) (i := 0) rfl rfl (fun w42 (hS42 : St _ _ [.blk b41 (.cells #[.int .i64 (1 : Int), .int .i64 (0 : Int), .string (bs [])] 51), _, _, _] _) => ?_)
  clear hS41
  refine hK _ _ ?_; clear hK K
  refine l_nil ?_
  refine hK40 _ _ ?_
  refine wp_seq_k (fun K43 hK43 => ?_)
  refine wp_seq_k (fun K44 hK44 => ?_)
  refine wp_region_lit ?_
  refine l_q rfl rfl (q_moveB rfl) ?_
  refine l_nil ?_
  refine hK44 _ _ ?_
  refine c_condT rfl rfl ?_
  refine wp_region_lit ?_
  refine l_q rfl rfl (q_fieldAddr (ft := 2) (o := 1) rfl (by kernel_rfl)) ?_
  refine l_e rfl (fun K hK => ?_)
  refine e_store1 hS42 rfl rfl (by kernel_rfl) (by first | rfl | assumption) (i := 0) rfl rfl (fun w46 (hS46 : St _ _ [.blk b41 (.cells #[.int .i64 (1 : Int), .int .i64 (1 : Int), .string (bs [])] 51), _, _, _] _) => ?_)
  clear hS42
  refine hK _ _ ?_; clear hK K
  refine l_nil ?_
  refine hK43 _ _ ?_
  refine wp_seq_k (fun K47 hK47 => ?_)
  refine wp_region_lit ?_
  refine l_q rfl rfl (q_loadA (m := 3) rfl (by kernel_rfl) (by kernel_rfl) (hS46.blk (i := 0) rfl) rfl rfl) ?_
  refine l_e rfl (fun K hK => ?_)
  refine e_storeA hS46 rfl rfl (by kernel_rfl) (by repeat' (first | exact trivial | refine ⟨by first | rfl | assumption | exact one_if (by assumption), ?_⟩)) (i := 1) rfl rfl (fun w48 (hS48 : St _ _ [_, .blk b4 (.cells #[.int .i64 (1 : Int), .int .i64 (1 : Int), .string (bs [])] 51), _, _] _) => ?_)
  clear hS46
  refine hK _ _ ?_; clear hK K
  refine l_q rfl rfl (q_assign rfl) ?_
  refine l_nil ?_
  refine hK47 _ _ ?_
  refine wp_ret ?_
  refine c_retCT (m := 3) rfl (by kernel_rfl) (by kernel_rfl) rfl (hS48.blk (i := 1) rfl) rfl rfl ?_
  have he : c03 11 a b = _ := c_6 (by omega) (by assumption) (by assumption) (by omega) (by omega) (decide_eq_true (by omega))
  exact ⟨_, rfl, (by rw [he]; rfl), hS48.drop⟩
 ·
  have hg39b := hg39
  try simp only [decide_eq_true_eq, decide_eq_false_iff_not, Bool.not_eq_true', Bool.not_eq_false', Bool.and_eq_true, Bool.or_eq_true, Int.not_lt, Int.not_le, ne_eq, Decidable.not_not] at hg39
  refine l_on rfl rfl hg39b ?_
  refine l_q rfl rfl (q_moveI rfl) ?_
  refine l_on rfl rfl hg39b ?_
  refine l_q rfl rfl (q_lss rfl rfl) ?_
  refine l_q rfl rfl (q_pickF rfl hg39b rfl) ?_
  refine l_q rfl rfl (q_assignB rfl) ?_
  refine l_nil ?_
  refine hK38 _ _ ?_
  refine wp_exit ?_
  refine hK23 _ _ ?_
  refine wp_seq_k (fun K49 hK49 => ?_)
  refine wp_region_lit ?_
  refine l_q rfl rfl (q_build (ps := [(0, 1), (1, 1), (2, 1)]) (zv := .agg #[.int .i64 0, .int .i64 0, .string ⟨#[]⟩]) (by kernel_rfl) (by kernel_rfl) rfl (by repeat' (first | exact trivial | refine ⟨fun _ => by first | rfl | assumption | exact one_if (by assumption), ?_⟩ | refine ⟨fun ⟨_, h⟩ => by simp at h, ?_⟩)) rfl) ?_
  refine l_e rfl (fun K hK => ?_)
  refine e_alloc (zv := .agg #[.int .i64 0, .int .i64 0, .string ⟨#[]⟩]) hS18 (by kernel_rfl) (fun b50 w50 (hS50 : St _ _ [.blk b50 (.cells #[.int .i64 (0 : Int), .int .i64 (0 : Int), .string (bs [])] 51), _, _, _] _) => ?_)
  clear hS18
  refine hK _ _ ?_; clear hK K
  refine l_e rfl (fun K hK => ?_)
  refine e_storeA hS50 rfl rfl (by kernel_rfl) (by repeat' (first | exact trivial | refine ⟨by first | rfl | assumption | exact one_if (by assumption), ?_⟩)) (i := 0) rfl rfl (fun w51 (hS51 : St _ _ [.blk b50 (.cells #[.int .i64 (1 : Int), .int .i64 (0 : Int), .string (bs [])] 51), _, _, _] _) => ?_)
  clear hS50
  refine hK _ _ ?_; clear hK K
  refine l_nil ?_
  refine hK49 _ _ ?_
  refine wp_seq_k (fun K52 hK52 => ?_)
  refine wp_seq_k (fun K53 hK53 => ?_)
  refine wp_region_lit ?_
  refine l_q rfl rfl (q_moveB rfl) ?_
  refine l_nil ?_
  refine hK53 _ _ ?_
  refine c_cond rfl (fun hc54 => ?_) (fun hc54 => ?_)
  ·
   have hc54b := hc54
   try simp only [decide_eq_true_eq, decide_eq_false_iff_not, Bool.not_eq_true', Bool.not_eq_false', Bool.and_eq_true, Bool.or_eq_true, Int.not_lt, Int.not_le, ne_eq, Decidable.not_not] at hc54
   refine wp_region_lit ?_
   refine l_q rfl rfl (q_fieldAddr (ft := 2) (o := 1) rfl (by kernel_rfl)) ?_
   refine l_e rfl (fun K hK => ?_)
   refine e_store1 hS51 rfl rfl (by kernel_rfl) (by first | rfl | assumption) (i := 0) rfl rfl (fun w55 (hS55 : St _ _ [.blk b50 (.cells #[.int .i64 (1 : Int), .int .i64 (1 : Int), .string (bs [])] 51), _, _, _] _) => ?_)
   clear hS51
   refine hK _ _ ?_; clear hK K
   refine l_nil ?_
   refine hK52 _ _ ?_
   refine wp_seq_k (fun K56 hK56 => ?_)
   refine wp_region_lit ?_
   refine l_q rfl rfl (q_loadA (m := 3) rfl (by kernel_rfl) (by kernel_rfl) (hS55.blk (i := 0) rfl) rfl rfl) ?_
   refine l_e rfl (fun K hK => ?_)
   refine e_storeA hS55 rfl rfl (by kernel_rfl) (by repeat' (first | exact trivial | refine ⟨by first | rfl | assumption | exact one_if (by assumption), ?_⟩)) (i := 1) rfl rfl (fun w57 (hS57 : St _ _ [_, _, _, _] _) => ?_)
   clear hS55
   refine hK _ _ ?_; clear hK K
   refine l_q rfl rfl (q_assign rfl) ?_
   refine l_nil ?_
   refine hK56 _ _ ?_
   refine wp_ret ?_
   refine c_retCT (m := 3) rfl (by kernel_rfl) (by kernel_rfl) rfl (hS57.blk (i := 1) rfl) rfl rfl ?_
   have he : c03 11 a b = _ := c_6 (by omega) (by assumption) (by assumption) (by omega) (by omega) (decide_eq_true (by omega))
   exact ⟨_, rfl, (by rw [he]; rfl), hS57.drop⟩
  ·
   have hc54b := hc54
   try simp only [decide_eq_true_eq, decide_eq_false_iff_not, Bool.not_eq_true', Bool.not_eq_false', Bool.and_eq_true, Bool.or_eq_true, Int.not_lt, Int.not_le, ne_eq, Decidable.not_not] at hc54
   refine wp_skip ?_
   refine hK52 _ _ ?_
   refine wp_seq_k (fun K58 hK58 => ?_)
   refine wp_region_lit ?_
   refine l_q rfl rfl (q_loadA (m := 3) rfl (by kernel_rfl) (by kernel_rfl) (hS51.blk (i := 0) rfl) rfl rfl) ?_
   refine l_e rfl (fun K hK => ?_)
   refine e_storeA hS51 rfl rfl (by kernel_rfl) (by repeat' (first | exact trivial | refine ⟨by first | rfl | assumption | exact one_if (by assumption), ?_⟩)) (i := 1) rfl rfl (fun w59 (hS59 : St _ _ [_, .blk b4 (.cells #[.int .i64 (1 : Int), .int .i64 (0 : Int), .string (bs [])] 51), _, _] _) => ?_)
   clear hS51
   refine hK _ _ ?_; clear hK K
   refine l_q rfl rfl (q_assign rfl) ?_
   refine l_nil ?_
   refine hK58 _ _ ?_
   refine wp_ret ?_
   refine c_retCT (m := 3) rfl (by kernel_rfl) (by kernel_rfl) rfl (hS59.blk (i := 1) rfl) rfl rfl ?_
   have he : c03 11 a b = _ := c_7 (by omega) (by assumption) (by assumption) (by omega) (by omega) (decide_eq_false (by omega))
   exact ⟨_, rfl, (by rw [he]; rfl), hS59.drop⟩

set_option maxHeartbeats 4000000 in
set_option maxRecDepth 100000 in
theorem cmpg_12 (a b : Vl) (haB : Bytes a.2.2) (hbB : Bytes b.2.2) (han0 : -9223372036854775808 ≤ a.2.1) (han1 : a.2.1 ≤ 9223372036854775807) (hbn0 : -9223372036854775808 ≤ b.2.1) (hbn1 : b.2.1 ≤ 9223372036854775807) (h1 : rightQ a = true) (h2 : rightQ b = true) (h3 : ¬a.1 = 0) (h4 : ¬b.1 = 0) (h5 : (sg03 a b).2.1 = 0) (hz : (c03 12 a b).2.1 = 0) (w : World) : Calls Tryd.prog 34 #[.int .i64 12, .agg (vl a).toArray, .agg (vl b).toArray] w (PostR w fun v => v = .tuple #[.agg (vl (c03 12 a b).1).toArray, .nilIface]) := by
 have hS := St.start w
 refine c_enter Tryd.func34 rfl rfl rfl ?_
 refine wp_seq_k (fun K1 hK1 => ?_)
 refine wp_region_lit ?_
 refine l_e rfl (fun K hK => ?_)
 refine e_boxA hS rfl (fun b2 w2 (hS2 : St _ _ [.blk b2 (.cells #[.int .i64 a.1, .int .i64 a.2.1, .string (bs a.2.2)] 51)] _) => ?_)
 clear hS
 refine hK _ _ ?_; clear hK K
 refine l_e rfl (fun K hK => ?_)
 refine e_boxA hS2 rfl (fun b3 w3 (hS3 : St _ _ [.blk b3 (.cells #[.int .i64 b.1, .int .i64 b.2.1, .string (bs b.2.2)] 51), _] _) => ?_)
 clear hS2
 refine hK _ _ ?_; clear hK K
 refine l_e rfl (fun K hK => ?_)
 refine e_alloc (zv := .agg #[.int .i64 0, .int .i64 0, .string ⟨#[]⟩]) hS3 (by kernel_rfl) (fun b4 w4 (hS4 : St _ _ [.blk b4 (.cells #[.int .i64 (0 : Int), .int .i64 (0 : Int), .string (bs [])] 51), _, _] _) => ?_)
 clear hS3
 refine hK _ _ ?_; clear hK K
 refine l_q rfl rfl (q_assign rfl) ?_
 refine l_nil ?_
 refine hK1 _ _ ?_
 refine wp_seq_k (fun K5 hK5 => ?_)
 refine wp_block ?_
 refine wp_seq_k (fun K6 hK6 => ?_)
 refine wp_region_lit ?_
 refine l_q rfl rfl (q_moveI rfl) ?_
 refine l_q rfl rfl (q_lss rfl rfl) ?_
 refine l_q rfl rfl (q_moveB rfl) ?_
 refine l_on rfl rfl (by decide) ?_
 refine l_q rfl rfl (q_moveI rfl) ?_
 refine l_on rfl rfl (by decide) ?_
 refine l_q rfl rfl (q_gtr rfl rfl) ?_
 refine l_q rfl rfl (q_pickF rfl (by decide) rfl) ?_
 refine l_q rfl rfl (q_assignB rfl) ?_
 refine l_nil ?_
 refine hK6 _ _ ?_
 refine c_condF rfl (by decide) ?_
 refine wp_seq_k (fun K8 hK8 => ?_)
 refine wp_region_lit ?_
 refine l_q rfl rfl (q_loadA (m := 3) rfl (by kernel_rfl) (by kernel_rfl) (hS4.blk (i := 2) rfl) rfl rfl) ?_
 refine l_e rfl (fun K hK => ?_)
 refine e_call (by kernel_rfl) (right_ok a haB _) rfl (after_R hS4 (fun v9 w9 hv9 hS9 => ?_))
 clear hS4
 obtain rfl := hv9
 refine hK _ _ ?_; clear hK K
 refine l_q rfl rfl (q_not rfl) ?_
 refine l_q rfl rfl (q_assignB rfl) ?_
 refine l_nil ?_
 refine hK8 _ _ ?_
 refine c_condF rfl (by rw [show _ = _ from h1]; rfl) ?_
 refine wp_seq_k (fun K11 hK11 => ?_)
 refine wp_region_lit ?_
 refine l_q rfl rfl (q_loadA (m := 3) rfl (by kernel_rfl) (by kernel_rfl) (hS9.blk (i := 1) rfl) rfl rfl) ?_
 refine l_e rfl (fun K hK => ?_)
 refine e_call (by kernel_rfl) (right_ok b hbB _) rfl (after_R hS9 (fun v12 w12 hv12 hS12 => ?_))
 clear hS9
 obtain rfl := hv12
 refine hK _ _ ?_; clear hK K
 refine l_q rfl rfl (q_not rfl) ?_
 refine l_q rfl rfl (q_assignB rfl) ?_
 refine l_nil ?_
 refine hK11 _ _ ?_
 refine c_condF rfl (by rw [show _ = _ from h2]; rfl) ?_
 refine wp_seq_k (fun K14 hK14 => ?_)
 refine wp_region_lit ?_
 refine l_q rfl rfl (q_fieldAddr (ft := 49) (o := 0) rfl (by kernel_rfl)) ?_
 refine l_q rfl rfl (q_load1 rfl (by kernel_rfl) (hS12.cell (i := 2) rfl rfl)) ?_
 refine l_q rfl rfl (q_eql rfl rfl) ?_
 refine l_q rfl rfl (q_moveB rfl) ?_
 refine l_on rfl rfl (decide_eq_false h3) ?_
 refine l_q rfl rfl (q_fieldAddr (ft := 49) (o := 0) rfl (by kernel_rfl)) ?_
 refine l_on rfl rfl (decide_eq_false h3) ?_
 refine l_q rfl rfl (q_load1 rfl (by kernel_rfl) (hS12.cell (i := 1) rfl rfl)) ?_
 refine l_on rfl rfl (decide_eq_false h3) ?_
 refine l_q rfl rfl (q_eql rfl rfl) ?_
 refine l_q rfl rfl (q_pickF rfl (decide_eq_false h3) rfl) ?_
 refine l_q rfl rfl (q_assignB rfl) ?_
 refine l_nil ?_
 refine hK14 _ _ ?_
 refine c_condF rfl (decide_eq_false h4) ?_
 refine wp_skip ?_
 refine hK5 _ _ ?_
 refine wp_seq_k (fun K17 hK17 => ?_)
 refine wp_region_lit ?_
 refine l_q rfl rfl (q_loadA (m := 3) rfl (by kernel_rfl) (by kernel_rfl) (hS12.blk (i := 2) rfl) rfl rfl) ?_
 refine l_q rfl rfl (q_loadA (m := 3) rfl (by kernel_rfl) (by kernel_rfl) (hS12.blk (i := 1) rfl) rfl rfl) ?_
 refine l_e rfl (fun K hK => ?_)
 have hs := h5
 refine e_call (by kernel_rfl) (sign_good a b haB hbB han0 han1 hbn0 hbn1 h5 _) rfl (after_R hS12 (fun v18 w18 hv18 hS18 => ?_))
 clear hS12
 obtain rfl := hv18
 refine hK _ _ ?_; clear hK K
 refine l_q rfl rfl (q_move rfl) ?_
 refine l_q rfl rfl (q_extract rfl rfl) ?_
 refine l_q rfl rfl (q_extract rfl rfl) ?_
 refine l_q rfl rfl (q_assignI rfl) ?_
 refine l_q rfl rfl (q_assign rfl) ?_
 refine l_nil ?_
 refine hK17 _ _ ?_
 refine wp_seq_k (fun K19 hK19 => ?_)
 refine wp_seq_k (fun K20 hK20 => ?_)
 refine wp_region_lit ?_
 refine l_q rfl rfl (q_move rfl) ?_
 refine l_q rfl rfl (q_ine1 rfl (by kernel_rfl)) ?_
 refine l_nil ?_
 refine hK20 _ _ ?_
 refine c_condF rfl rfl ?_
 refine wp_skip ?_
 refine hK19 _ _ ?_
 refine wp_seq_k (fun K22 hK22 => ?_)
 refine wp_region_lit ?_
 refine l_q rfl rfl (q_assignB rfl) ?_
 refine l_nil ?_
 refine hK22 _ _ ?_
 refine wp_seq_k (fun K23 hK23 => ?_)
 refine wp_seq_k (fun K24 hK24 => ?_)
 refine wp_region_lit ?_
 refine l_q rfl rfl (q_moveI rfl) ?_
 refine l_nil ?_
 refine hK24 _ _ ?_
 refine wp_block ?_
 refine wp_seq_k (fun K25 hK25 => ?_)
 refine wp_block ?_
 refine wp_seq_k (fun K26 hK26 => ?_)
 refine wp_block ?_
 refine wp_seq_k (fun K27 hK27 => ?_)
 refine wp_block ?_
 refine wp_seq_k (fun K28 hK28 => ?_)
 refine wp_block ?_
 refine wp_seq_k (fun K29 hK29 => ?_)
 refine wp_block ?_
 refine wp_seq_k (fun K30 hK30 => ?_)
 refine wp_block ?_
 refine wp_seq_k (fun K31 hK31 => ?_)
 refine wp_seq_k (fun K32 hK32 => ?_)
 refine wp_seq_k (fun K33 hK33 => ?_)
 refine wp_region_lit ?_
 refine l_q rfl rfl (q_eql rfl rfl) ?_
 refine l_q rfl rfl (q_assignB rfl) ?_
 refine l_nil ?_
 refine hK33 _ _ ?_
 refine c_condF rfl (by decide) ?_
 refine wp_skip ?_
 refine hK32 _ _ ?_
 refine wp_seq_k (fun K35 hK35 => ?_)
 refine wp_seq_k (fun K36 hK36 => ?_)
 refine wp_region_lit ?_
 refine l_q rfl rfl (q_eql rfl rfl) ?_
 refine l_q rfl rfl (q_assignB rfl) ?_
 refine l_nil ?_
 refine hK36 _ _ ?_
 refine c_condF rfl (by decide) ?_
 refine wp_skip ?_
 refine hK35 _ _ ?_
 refine wp_seq_k (fun K38 hK38 => ?_)
 refine wp_seq_k (fun K39 hK39 => ?_)
 refine wp_region_lit ?_
 refine l_q rfl rfl (q_eql rfl rfl) ?_
 refine l_q rfl rfl (q_assignB rfl) ?_
 refine l_nil ?_
 refine hK39 _ _ ?_
 refine c_condF rfl (by decide) ?_
 refine wp_skip ?_
 refine hK38 _ _ ?_
 refine wp_seq_k (fun K41 hK41 => ?_)
 refine wp_seq_k (fun K42 hK42 => ?_)
 refine wp_region_lit ?_
 refine l_q rfl rfl (q_eql rfl rfl) ?_
 refine l_q rfl rfl (q_assignB rfl) ?_
 refine l_nil ?_
 refine hK42 _ _ ?_
 refine c_condF rfl (by decide) ?_
 refine wp_skip ?_
 refine hK41 _ _ ?_
 refine wp_seq_k (fun K44 hK44 => ?_)
 refine wp_region_lit ?_
 refine l_q rfl rfl (q_eql rfl rfl) ?_
 refine l_q rfl rfl (q_assignB rfl) ?_
 refine l_nil ?_
 refine hK44 _ _ ?_
 refine c_condT rfl (by decide) ?_
 refine wp_exit ?_
 refine hK26 _ _ ?_
 refine wp_seq_k (fun K46 hK46 => ?_)
 refine wp_region_lit ?_
 refine l_q rfl rfl (q_moveB rfl) ?_
 refine l_q rfl rfl (q_moveB rfl) ?_
 refine l_on rfl rfl rfl ?_
 refine l_q rfl rfl (q_moveI rfl) ?_
 refine l_on rfl rfl rfl ?_
 refine l_q rfl rfl (q_gtr rfl rfl) ?_
 refine l_q rfl rfl (q_pickF rfl rfl rfl) ?_
 refine l_q rfl rfl (q_assignB rfl) ?_
 refine l_nil ?_
 refine hK46 _ _ ?_
 refine wp_exit ?_
 refine hK23 _ _ ?_
 refine wp_seq_k (fun K47 hK47 => ?_)
 refine wp_region_lit ?_
 refine l_q rfl rfl (q_build (ps := [(0, 1), (1, 1), (2, 1)]) (zv := .agg #[.int .i64 0, .int .i64 0, .string ⟨#[]⟩]) (by kernel_rfl) (by kernel_rfl) rfl (by repeat' (first | exact trivial | refine ⟨fun _ => by first | rfl | assumption | exact one_if (by assumption), ?_⟩ | refine ⟨fun ⟨_, h⟩ => by simp at h, ?_⟩)) rfl) ?_
 refine l_e rfl (fun K hK => ?_)
 refine e_alloc (zv := .agg #[.int .i64 0, .int .i64 0, .string ⟨#[]⟩]) hS18 (by kernel_rfl) (fun b48 w48 (hS48 : St _ _ [.blk b48 (.cells #[.int .i64 (0 : Int), .int .i64 (0 : Int), .string (bs [])] 51), _, _, _] _) => ?_)
 clear hS18
 refine hK _ _ ?_; clear hK K
 refine l_e rfl (fun K hK => ?_)
 refine e_storeA hS48 rfl rfl (by kernel_rfl) (by repeat' (first | exact trivial | refine ⟨by first | rfl | assumption | exact one_if (by assumption), ?_⟩)) (i := 0) rfl rfl (fun w49 (hS49 : St _ _ [.blk b48 (.cells #[.int .i64 (1 : Int), .int .i64 (0 : Int), .string (bs [])] 51), _, _, _] _) => ?_)
 clear hS48
 refine hK _ _ ?_; clear hK K
 refine l_nil ?_
 refine hK47 _ _ ?_
 refine wp_seq_k (fun K50 hK50 => ?_)
 refine wp_seq_k (fun K51 hK51 => ?_)
 refine wp_region_lit ?_
 refine l_q rfl rfl (q_moveB rfl) ?_
 refine l_nil ?_
 refine hK51 _ _ ?_
 refine c_cond rfl (fun hc52 => ?_) (fun hc52 => ?_)
 ·
  have hc52b := hc52
  try simp only [decide_eq_true_eq, decide_eq_false_iff_not, Bool.not_eq_true', Bool.not_eq_false', Bool.and_eq_true, Bool.or_eq_true, Int.not_lt, Int.not_le, ne_eq, Decidable.not_not] at hc52
  refine wp_region_lit ?_
  refine l_q rfl rfl (q_fieldAddr (ft := 2) (o := 1) rfl (by kernel_rfl)) ?_
  refine l_e rfl (fun K hK => ?_)
  refine e_store1 hS49 rfl rfl (by kernel_rfl) (by first | rfl | assumption) (i := 0) rfl rfl (fun w53 (hS53 : St _ _ [.blk b48 (.cells #[.int .i64 (1 : Int), .int .i64 (1 : Int), .string (bs [])] 51), _, _, _] _) => ?_)
  clear hS49
  refine hK _ _ ?_; clear hK K
  refine l_nil ?_
  refine hK50 _ _ ?_
  refine wp_seq_k (fun K54 hK54 => ?_)
  refine wp_region_lit ?_
  refine l_q rfl rfl (q_loadA (m := 3) rfl (by kernel_rfl) (by kernel_rfl) (hS53.blk (i := 0) rfl) rfl rfl) ?_
  refine l_e rfl (fun K hK => ?_)
  refine e_storeA hS53 rfl rfl (by kernel_rfl) (by repeat' (first | exact trivial | refine ⟨by first | rfl | assumption | exact one_if (by assumption), ?_⟩)) (i := 1) rfl rfl (fun w55 (hS55 : St _ _ [_, .blk b4 (.cells #[.int .i64 (1 : Int), .int .i64 (1 : Int), .string (bs [])] 51), _, _] _) => ?_)
  clear hS53
  refine hK _ _ ?_; clear hK K
  refine l_q rfl rfl (q_assign rfl) ?_
  refine l_nil ?_
  refine hK54 _ _ ?_
  refine wp_ret ?_
  refine c_retCT (m := 3) rfl (by kernel_rfl) (by kernel_rfl) rfl (hS55.blk (i := 1) rfl) rfl rfl ?_
  have he : c03 12 a b = _ := c_6 (by omega) (by assumption) (by assumption) (by omega) (by omega) (decide_eq_true (by omega))
  exact ⟨_, rfl, (by rw [he]; rfl), hS55.drop⟩
 ·
  have hc52b := hc52
  try simp only [decide_eq_true_eq, decide_eq_false_iff_not, Bool.not_eq_true', Bool.not_eq_false', Bool.and_eq_true, Bool.or_eq_true, Int.not_lt, Int.not_le, ne_eq, Decidable.not_not] at hc52
  refine wp_skip ?_
  refine hK50 _ _ ?_
  refine wp_seq_k (fun K56 hK56 => ?_)
  refine wp_region_lit ?_
  refine l_q rfl rfl (q_loadA (m := 3) rfl (by kernel_rfl) (by kernel_rfl) (hS49.blk (i := 0) rfl) rfl rfl) ?_
  refine l_e rfl (fun K hK => ?_)
  refine e_storeA hS49 rfl rfl (by kernel_rfl) (by repeat' (first | exact trivial | refine ⟨by first | rfl | assumption | exact one_if (by assumption), ?_⟩)) (i := 1) rfl rfl (fun w57 (hS57 : St _ _ [_, .blk b4 (.cells #[.int .i64 (1 : Int), .int .i64 (0 : Int), .string (bs [])] 51), _, _] _) => ?_)
  clear hS49
  refine hK _ _ ?_; clear hK K
  refine l_q rfl rfl (q_assign rfl) ?_
  refine l_nil ?_
  refine hK56 _ _ ?_
  refine wp_ret ?_
  refine c_retCT (m := 3) rfl (by kernel_rfl) (by kernel_rfl) rfl (hS57.blk (i := 1) rfl) rfl rfl ?_
  have he : c03 12 a b = _ := c_7 (by omega) (by assumption) (by assumption) (by omega) (by omega) (decide_eq_false (by omega))
  exact ⟨_, rfl, (by rw [he]; rfl), hS57.drop⟩

set_option maxHeartbeats 4000000 in
set_option maxRecDepth 100000 in
theorem cmpg_13 (a b : Vl) (haB : Bytes a.2.2) (hbB : Bytes b.2.2) (han0 : -9223372036854775808 ≤ a.2.1) (han1 : a.2.1 ≤ 9223372036854775807) (hbn0 : -9223372036854775808 ≤ b.2.1) (hbn1 : b.2.1 ≤ 9223372036854775807) (h1 : rightQ a = true) (h2 : rightQ b = true) (h3 : ¬a.1 = 0) (h4 : ¬b.1 = 0) (h5 : (sg03 a b).2.1 = 0) (hz : (c03 13 a b).2.1 = 0) (w : World) : Calls Tryd.prog 34 #[.int .i64 13, .agg (vl a).toArray, .agg (vl b).toArray] w (PostR w fun v => v = .tuple #[.agg (vl (c03 13 a b).1).toArray, .nilIface]) := by
 have hS := St.start w
 refine c_enter Tryd.func34 rfl rfl rfl ?_
 refine wp_seq_k (fun K1 hK1 => ?_)
 refine wp_region_lit ?_
 refine l_e rfl (fun K hK => ?_)
 refine e_boxA hS rfl (fun b2 w2 (hS2 : St _ _ [.blk b2 (.cells #[.int .i64 a.1, .int .i64 a.2.1, .string (bs a.2.2)] 51)] _) => ?_)
 clear hS
 refine hK _ _ ?_; clear hK K
 refine l_e rfl (fun K hK => ?_)
 refine e_boxA hS2 rfl (fun b3 w3 (hS3 : St _ _ [.blk b3 (.cells #[.int .i64 b.1, .int .i64 b.2.1, .string (bs b.2.2)] 51), _] _) => ?_)
 clear hS2
 refine hK _ _ ?_; clear hK K
 refine l_e rfl (fun K hK => ?_)
 refine e_alloc (zv := .agg #[.int .i64 0, .int .i64 0, .string ⟨#[]⟩]) hS3 (by kernel_rfl) (fun b4 w4 (hS4 : St _ _ [.blk b4 (.cells #[.int .i64 (0 : Int), .int .i64 (0 : Int), .string (bs [])] 51), _, _] _) => ?_)
 clear hS3
 refine hK _ _ ?_; clear hK K
 refine l_q rfl rfl (q_assign rfl) ?_
 refine l_nil ?_
 refine hK1 _ _ ?_
 refine wp_seq_k (fun K5 hK5 => ?_)
 refine wp_block ?_
 refine wp_seq_k (fun K6 hK6 => ?_)
 refine wp_region_lit ?_
 refine l_q rfl rfl (q_moveI rfl) ?_
 refine l_q rfl rfl (q_lss rfl rfl) ?_
 refine l_q rfl rfl (q_moveB rfl) ?_
 refine l_on rfl rfl (by decide) ?_
 refine l_q rfl rfl (q_moveI rfl) ?_
 refine l_on rfl rfl (by decide) ?_
 refine l_q rfl rfl (q_gtr rfl rfl) ?_
 refine l_q rfl rfl (q_pickF rfl (by decide) rfl) ?_
 refine l_q rfl rfl (q_assignB rfl) ?_
 refine l_nil ?_
 refine hK6 _ _ ?_
 refine c_condF rfl (by decide) ?_
 refine wp_seq_k (fun K8 hK8 => ?_)
 refine wp_region_lit ?_
 refine l_q rfl rfl (q_loadA (m := 3) rfl (by kernel_rfl) (by kernel_rfl) (hS4.blk (i := 2) rfl) rfl rfl) ?_
 refine l_e rfl (fun K hK => ?_)
 refine e_call (by kernel_rfl) (right_ok a haB _) rfl (after_R hS4 (fun v9 w9 hv9 hS9 => ?_))
 clear hS4
 obtain rfl := hv9
 refine hK _ _ ?_; clear hK K
 refine l_q rfl rfl (q_not rfl) ?_
 refine l_q rfl rfl (q_assignB rfl) ?_
 refine l_nil ?_
 refine hK8 _ _ ?_
 refine c_condF rfl (by rw [show _ = _ from h1]; rfl) ?_
 refine wp_seq_k (fun K11 hK11 => ?_)
 refine wp_region_lit ?_
 refine l_q rfl rfl (q_loadA (m := 3) rfl (by kernel_rfl) (by kernel_rfl) (hS9.blk (i := 1) rfl) rfl rfl) ?_
 refine l_e rfl (fun K hK => ?_)
 refine e_call (by kernel_rfl) (right_ok b hbB _) rfl (after_R hS9 (fun v12 w12 hv12 hS12 => ?_))
 clear hS9
 obtain rfl := hv12
 refine hK _ _ ?_; clear hK K
 refine l_q rfl rfl (q_not rfl) ?_
 refine l_q rfl rfl (q_assignB rfl) ?_
 refine l_nil ?_
 refine hK11 _ _ ?_
 refine c_condF rfl (by rw [show _ = _ from h2]; rfl) ?_
 refine wp_seq_k (fun K14 hK14 => ?_)
 refine wp_region_lit ?_
 refine l_q rfl rfl (q_fieldAddr (ft := 49) (o := 0) rfl (by kernel_rfl)) ?_
 refine l_q rfl rfl (q_load1 rfl (by kernel_rfl) (hS12.cell (i := 2) rfl rfl)) ?_
 refine l_q rfl rfl (q_eql rfl rfl) ?_
 refine l_q rfl rfl (q_moveB rfl) ?_
 refine l_on rfl rfl (decide_eq_false h3) ?_
 refine l_q rfl rfl (q_fieldAddr (ft := 49) (o := 0) rfl (by kernel_rfl)) ?_
 refine l_on rfl rfl (decide_eq_false h3) ?_
 refine l_q rfl rfl (q_load1 rfl (by kernel_rfl) (hS12.cell (i := 1) rfl rfl)) ?_
 refine l_on rfl rfl (decide_eq_false h3) ?_
 refine l_q rfl rfl (q_eql rfl rfl) ?_
 refine l_q rfl rfl (q_pickF rfl (decide_eq_false h3) rfl) ?_
 refine l_q rfl rfl (q_assignB rfl) ?_
 refine l_nil ?_
 refine hK14 _ _ ?_
 refine c_condF rfl (decide_eq_false h4) ?_
 refine wp_skip ?_
 refine hK5 _ _ ?_
 refine wp_seq_k (fun K17 hK17 => ?_)
 refine wp_region_lit ?_
 refine l_q rfl rfl (q_loadA (m := 3) rfl (by kernel_rfl) (by kernel_rfl) (hS12.blk (i := 2) rfl) rfl rfl) ?_
 refine l_q rfl rfl (q_loadA (m := 3) rfl (by kernel_rfl) (by kernel_rfl) (hS12.blk (i := 1) rfl) rfl rfl) ?_
 refine l_e rfl (fun K hK => ?_)
 have hs := h5
 refine e_call (by kernel_rfl) (sign_good a b haB hbB han0 han1 hbn0 hbn1 h5 _) rfl (after_R hS12 (fun v18 w18 hv18 hS18 => ?_))
 clear hS12
 obtain rfl := hv18
 refine hK _ _ ?_; clear hK K
 refine l_q rfl rfl (q_move rfl) ?_
 refine l_q rfl rfl (q_extract rfl rfl) ?_
 refine l_q rfl rfl (q_extract rfl rfl) ?_
 refine l_q rfl rfl (q_assignI rfl) ?_
 refine l_q rfl rfl (q_assign rfl) ?_
 refine l_nil ?_
 refine hK17 _ _ ?_
 refine wp_seq_k (fun K19 hK19 => ?_)
 refine wp_seq_k (fun K20 hK20 => ?_)
 refine wp_region_lit ?_
 refine l_q rfl rfl (q_move rfl) ?_
 refine l_q rfl rfl (q_ine1 rfl (by kernel_rfl)) ?_
 refine l_nil ?_
 refine hK20 _ _ ?_
 refine c_condF rfl rfl ?_
 refine wp_skip ?_
 refine hK19 _ _ ?_
 refine wp_seq_k (fun K22 hK22 => ?_)
 refine wp_region_lit ?_
 refine l_q rfl rfl (q_assignB rfl) ?_
 refine l_nil ?_
 refine hK22 _ _ ?_
 refine wp_seq_k (fun K23 hK23 => ?_)
 refine wp_seq_k (fun K24 hK24 => ?_)
 refine wp_region_lit ?_
 refine l_q rfl rfl (q_moveI rfl) ?_
 refine l_nil ?_
 refine hK24 _ _ ?_
 refine wp_block ?_
 refine wp_seq_k (fun K25 hK25 => ?_)
 refine wp_block ?_
 refine wp_seq_k (fun K26 hK26 => ?_)
 refine wp_block ?_
 refine wp_seq_k (fun K27 hK27 => ?_)
 refine wp_block ?_
 refine wp_seq_k (fun K28 hK28 => ?_)
 refine wp_block ?_
 refine wp_seq_k (fun K29 hK29 => ?_)
 refine wp_block ?_
 refine wp_seq_k (fun K30 hK30 => ?_)
 refine wp_block ?_
 refine wp_seq_k (fun K31 hK31 => ?_)
 refine wp_seq_k (fun K32 hK32 => ?_)
 refine wp_seq_k (fun K33 hK33 => ?_)
 refine wp_region_lit ?_
 refine l_q rfl rfl (q_eql rfl rfl) ?_
 refine l_q rfl rfl (q_assignB rfl) ?_
 refine l_nil ?_
 refine hK33 _ _ ?_
 refine c_condF rfl (by decide) ?_
 refine wp_skip ?_
 refine hK32 _ _ ?_
 refine wp_seq_k (fun K35 hK35 => ?_)
 refine wp_seq_k (fun K36 hK36 => ?_)
 refine wp_region_lit ?_
 refine l_q rfl rfl (q_eql rfl rfl) ?_
 refine l_q rfl rfl (q_assignB rfl) ?_
 refine l_nil ?_
 refine hK36 _ _ ?_
 refine c_condF rfl (by decide) ?_
 refine wp_skip ?_
 refine hK35 _ _ ?_
 refine wp_seq_k (fun K38 hK38 => ?_)
 refine wp_seq_k (fun K39 hK39 => ?_)
 refine wp_region_lit ?_
 refine l_q rfl rfl (q_eql rfl rfl) ?_
 refine l_q rfl rfl (q_assignB rfl) ?_
 refine l_nil ?_
 refine hK39 _ _ ?_
 refine c_condF rfl (by decide) ?_
 refine wp_skip ?_
 refine hK38 _ _ ?_
 refine wp_seq_k (fun K41 hK41 => ?_)
 refine wp_seq_k (fun K42 hK42 => ?_)
 refine wp_region_lit ?_
 refine l_q rfl rfl (q_eql rfl rfl) ?_
 refine l_q rfl rfl (q_assignB rfl) ?_
 refine l_nil ?_
 refine hK42 _ _ ?_
 refine c_condT rfl (by decide) ?_
 refine wp_exit ?_
 refine hK27 _ _ ?_
 refine wp_region_lit ?_
 refine l_q rfl rfl (q_moveI rfl) ?_
 refine l_q rfl rfl (q_eql rfl rfl) ?_
 refine l_q rfl rfl (q_assignB rfl) ?_
 refine l_nil ?_
 refine hK26 _ _ ?_
 refine wp_seq_k (fun K44 hK44 => ?_)
 refine wp_region_lit ?_
 refine l_q rfl rfl (q_moveB rfl) ?_
 refine l_q rfl rfl (q_moveB rfl) ?_
 refine g_splitL (t := 76) rfl (fun hg45 => ?_) (fun hg45 => ?_)
 ·
  have hg45b := hg45
  try simp only [decide_eq_true_eq, decide_eq_false_iff_not, Bool.not_eq_true', Bool.not_eq_false', Bool.and_eq_true, Bool.or_eq_true, Int.not_lt, Int.not_le, ne_eq, Decidable.not_not] at hg45
  refine l_off rfl rfl rfl hg45b ?_
  refine l_off rfl rfl rfl hg45b ?_
  refine l_q rfl rfl (q_pickT rfl hg45b rfl) ?_
  refine l_q rfl rfl (q_assignB rfl) ?_
  refine l_nil ?_
  refine hK44 _ _ ?_
  refine wp_exit ?_
  refine hK23 _ _ ?_
  refine wp_seq_k (fun K46 hK46 => ?_)
  refine wp_region_lit ?_
  refine l_q rfl rfl (q_build (ps := [(0, 1), (1, 1), (2, 1)]) (zv := .agg #[.int .i64 0, .int .i64 0, .string ⟨#[]⟩]) (by kernel_rfl) (by kernel_rfl) rfl (by repeat' (first | exact trivial | refine ⟨fun _ => by first | rfl | assumption | exact one_if (by assumption), ?_⟩ | refine ⟨fun ⟨_, h⟩ => by simp at h, ?_⟩)) rfl) ?_
  refine l_e rfl (fun K hK => ?_)
  refine e_alloc (zv := .agg #[.int .i64 0, .int .i64 0, .string ⟨#[]⟩]) hS18 (by kernel_rfl) (fun b47 w47 (hS47 : St _ _ [.blk b47 (.cells #[.int .i64 (0 : Int), .int .i64 (0 : Int), .string (bs [])] 51), _, _, _] _) => ?_)
  clear hS18
  refine hK _ _ ?_; clear hK K
  refine l_e rfl (fun K hK => ?_)
  refine e_storeA hS47 rfl rfl (by kernel_rfl) (by repeat' (first | exact trivial | refine ⟨by first | rfl | assumption | exact one_if (by assumption), ?_⟩)) (i := 0) rfl rfl (fun w48 (hS48 : St _ _ [.blk b47 (.cells #[.int .i64 (1 : Int), .int .i64 (0 : Int), .string (bs [])] 51), _, _, _] _) => ?_)
  clear hS47
  refine hK _ _ ?_; clear hK K
  refine l_nil ?_
  refine hK46 _ _ ?_
  refine wp_seq_k (fun K49 hK49 => ?_)
  refine wp_seq_k (fun K50 hK50 => ?_)
  refine wp_region_lit ?_
  refine l_q rfl rfl (q_moveB rfl) ?_
  refine l_nil ?_
  refine hK50 _ _ ?_
  refine c_condT rfl rfl ?_
  refine wp_region_lit ?_
  refine l_q rfl rfl (q_fieldAddr (ft := 2) (o := 1) rfl (by kernel_rfl)) ?_
  refine l_e rfl (fun K hK => ?_)
  refine e_store1 hS48 rfl rfl (by kernel_rfl) (by first | rfl | assumption) (i := 0) rfl rfl (fun w52 (hS52 : St _ _ [.blk b47 (.cells #[.int .i64 (1 : Int), .int .i64 (1 : Int), .string (bs [])] 51), _, _, _] _) => ?_)
  clear hS48
  refine hK _ _ ?_; clear hK K
  refine l_nil ?_
  refine hK49 _ _ ?_
  refine wp_seq_k (fun K53 hK53 => ?_)
  refine wp_region_lit ?_
  refine l_q rfl rfl (q_loadA (m := 3) rfl (by kernel_rfl) (by kernel_rfl) (hS52.blk (i := 0) rfl) rfl rfl) ?_
  refine l_e rfl (fun K hK => ?_)
  refine e_storeA hS52 rfl rfl (by kernel_rfl) (by repeat' (first | exact trivial | refine ⟨by first | rfl | assumption | exact one_if (by assumption), ?_⟩)) (i := 1) rfl rfl (fun w54 (hS54 : St _ _ [_, .blk b4 (.cells #[.int .i64 (1 : Int), .int .i64 (1 : Int), .string (bs [])] 51), _, _] _) => ?_)
  clear hS52
  refine hK _ _ ?_; clear hK K
  refine l_q rfl rfl (q_assign rfl) ?_
  refine l_nil ?_
  refine hK53 _ _ ?_
  refine wp_ret ?_
  refine c_retCT (m := 3) rfl (by kernel_rfl) (by kernel_rfl) rfl (hS54.blk (i := 1) rfl) rfl rfl ?_
  have he : c03 13 a b = _ := c_6 (by omega) (by assumption) (by assumption) (by omega) (by omega) (decide_eq_true (by omega))
  exact ⟨_, rfl, (by rw [he]; rfl), hS54.drop⟩
 ·
  have hg45b := hg45
  try simp only [decide_eq_true_eq, decide_eq_false_iff_not, Bool.not_eq_true', Bool.not_eq_false', Bool.and_eq_true, Bool.or_eq_true, Int.not_lt, Int.not_le, ne_eq, Decidable.not_not] at hg45
  refine l_on rfl rfl hg45b ?_
  refine l_q rfl rfl (q_moveI rfl) ?_
  refine l_on rfl rfl hg45b ?_
  refine l_q rfl rfl (q_gtr rfl rfl) ?_
  refine l_q rfl rfl (q_pickF rfl hg45b rfl) ?_
  refine l_q rfl rfl (q_assignB rfl) ?_
  refine l_nil ?_
  refine hK44 _ _ ?_
  refine wp_exit ?_
  refine hK23 _ _ ?_
  refine wp_seq_k (fun K55 hK55 => ?_)
  refine wp_region_lit ?_
  refine l_q rfl rfl (q_build (ps := [(0, 1), (1, 1), (2, 1)]) (zv := .agg #[.int .i64 0, .int .i64 0, .string ⟨#[]⟩]) (by kernel_rfl) (by kernel_rfl) rfl (by repeat' (first | exact trivial | refine ⟨fun _ => by first | rfl | assumption | exact one_if (by assumption), ?_⟩ | refine ⟨fun ⟨_, h⟩ => by simp at h, ?_⟩)) rfl) ?_
  refine l_e rfl (fun K hK => ?_)
  refine e_alloc (zv := .agg #[.int .i64 0, .int .i64 0, .string ⟨#[]⟩]) hS18 (by kernel_rfl) (fun b56 w56 (hS56 : St _ _ [.blk b56 (.cells #[.int .i64 (0 : Int), .int .i64 (0 : Int), .string (bs [])] 51), _, _, _] _) => ?_)
  clear hS18
  refine hK _ _ ?_; clear hK K
  refine l_e rfl (fun K hK => ?_)
  refine e_storeA hS56 rfl rfl (by kernel_rfl) (by repeat' (first | exact trivial | refine ⟨by first | rfl | assumption | exact one_if (by assumption), ?_⟩)) (i := 0) rfl rfl (fun w57 (hS57 : St _ _ [.blk b56 (.cells #[.int .i64 (1 : Int), .int .i64 (0 : Int), .string (bs [])] 51), _, _, _] _) => ?_)
  clear hS56
  refine hK _ _ ?_; clear hK K
  refine l_nil ?_
  refine hK55 _ _ ?_
  refine wp_seq_k (fun K58 hK58 => ?_)
  refine wp_seq_k (fun K59 hK59 => ?_)
  refine wp_region_lit ?_
  refine l_q rfl rfl (q_moveB rfl) ?_
  refine l_nil ?_
  refine hK59 _ _ ?_
  refine c_cond rfl (fun hc60 => ?_) (fun hc60 => ?_)
  ·
   have hc60b := hc60
   try simp only [decide_eq_true_eq, decide_eq_false_iff_not, Bool.not_eq_true', Bool.not_eq_false', Bool.and_eq_true, Bool.or_eq_true, Int.not_lt, Int.not_le, ne_eq, Decidable.not_not] at hc60
   refine wp_region_lit ?_
   refine l_q rfl rfl (q_fieldAddr (ft := 2) (o := 1) rfl (by kernel_rfl)) ?_
   refine l_e rfl (fun K hK => ?_)
   refine e_store1 hS57 rfl rfl (by kernel_rfl) (by first | rfl | assumption) (i := 0) rfl rfl (fun w61 (hS61 : St _ _ [.blk b56 (.cells #[.int .i64 (1 : Int), .int .i64 (1 : Int), .string (bs [])] 51), _, _, _] _) => ?_)
   clear hS57
   refine hK _ _ ?_; clear hK K
   refine l_nil ?_
   refine hK58 _ _ ?_
   refine wp_seq_k (fun K62 hK62 => ?_)
   refine wp_region_lit ?_
   refine l_q rfl rfl (q_loadA (m := 3) rfl (by kernel_rfl) (by kernel_rfl) (hS61.blk (i := 0) rfl) rfl rfl) ?_
   refine l_e rfl (fun K hK => ?_)
   refine e_storeA hS61 rfl rfl (by kernel_rfl) (by repeat' (first | exact trivial | refine ⟨by first | rfl | assumption | exact one_if (by assumption), ?_⟩)) (i := 1) rfl rfl (fun w63 (hS63 : St _ _ [_, _, _, _] _) => ?_)
   clear hS61
   refine hK _ _ ?_; clear hK K
   refine l_q rfl rfl (q_assign rfl) ?_
   refine l_nil ?_
   refine hK62 _ _ ?_
   refine wp_ret ?_
   refine c_retCT (m := 3) rfl (by kernel_rfl) (by kernel_rfl) rfl (hS63.blk (i := 1) rfl) rfl rfl ?_
   have he : c03 13 a b = _ := c_6 (by omega) (by assumption) (by assumption) (by omega) (by omega) (decide_eq_true (by omega))
   exact ⟨_, rfl, (by rw [he]; rfl), hS63.drop⟩
  ·
   have hc60b := hc60
   try simp only [decide_eq_true_eq, decide_eq_false_iff_not, Bool.not_eq_true', Bool.not_eq_false', Bool.and_eq_true, Bool.or_eq_true, Int.not_lt, Int.not_le, ne_eq, Decidable.not_not] at hc60
   refine wp_skip ?_
   refine hK58 _ _ ?_
   refine wp_seq_k (fun K64 hK64 => ?_)
   refine wp_region_lit ?_
   refine l_q rfl rfl (q_loadA (m := 3) rfl (by kernel_rfl) (by kernel_rfl) (hS57.blk (i := 0) rfl) rfl rfl) ?_
   refine l_e rfl (fun K hK => ?_)
   refine e_storeA hS57 rfl rfl (by kernel_rfl) (by repeat' (first | exact trivial | refine ⟨by first | rfl | assumption | exact one_if (by assumption), ?_⟩)) (i := 1) rfl rfl (fun w65 (hS65 : St _ _ [_, .blk b4 (.cells #[.int .i64 (1 : Int), .int .i64 (0 : Int), .string (bs [])] 51), _, _] _) => ?_)
   clear hS57
   refine hK _ _ ?_; clear hK K
   refine l_q rfl rfl (q_assign rfl) ?_
   refine l_nil ?_
   refine hK64 _ _ ?_
   refine wp_ret ?_
   refine c_retCT (m := 3) rfl (by kernel_rfl) (by kernel_rfl) rfl (hS65.blk (i := 1) rfl) rfl rfl ?_
   have he : c03 13 a b = _ := c_7 (by omega) (by assumption) (by assumption) (by omega) (by omega) (decide_eq_false (by omega))
   exact ⟨_, rfl, (by rw [he]; rfl), hS65.drop⟩

end Go.Proofs.YtdlmcgflgdmjgaaDoor
