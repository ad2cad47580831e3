/- The document's Compare. -/
import Derived.Test.YtdlmcgflgdmjgaaDoorQ6
set_option linter.unusedVariables false
set_option linter.unusedSimpArgs false
namespace Go.Proofs.YtdlmcgflgdmjgaaDoor
open Go.RowKit
/-- How an order answers a comparison. -/
def ans (op z : Int) : Bool := decide ((op = 8 ∧ z = 0) ∨ (op = 9 ∧ z ≠ 0) ∨ (op = 10 ∧ z < 0) ∨ (op = 11 ∧ z ≤ 0) ∨ (op = 12 ∧ z > 0) ∨ (op = 13 ∧ z ≥ 0))
/-- What Compare comes to: the value, the fault's code, its place. -/
def c03 (op : Int) (a b : Vl) : Vl × Int × Int :=
  if op < 8 ∨ 13 < op then ((0, 0, []), 1, 0)
  else if rightQ a = false then ((0, 0, []), 22, 0)
  else if rightQ b = false then ((0, 0, []), 22, 1)
  else if a.1 = 0 ∨ b.1 = 0 then ((0, 0, []), 0, -1)
  else if (sg03 a b).2.1 ≠ 0 then ((0, 0, []), (sg03 a b).2.1, (sg03 a b).2.2)
  else ((1, (if ans op (sg03 a b).1 = true then 1 else 0), []), 0, -1)
theorem c_1 {op : Int} {a b : Vl} (h : op < 8 ∨ 13 < op) : c03 op a b = ((0, 0, []), 1, 0) := if_pos h
theorem c_2 {op : Int} {a b : Vl} (h : ¬(op < 8 ∨ 13 < op)) (h1 : rightQ a = false) : c03 op a b = ((0, 0, []), 22, 0) := (if_neg h).trans (if_pos h1)
theorem c_3 {op : Int} {a b : Vl} (h : ¬(op < 8 ∨ 13 < op)) (h1 : rightQ a = true) (h2 : rightQ b = false) : c03 op a b = ((0, 0, []), 22, 1) := (if_neg h).trans ((if_neg (by rw [h1]; decide)).trans (if_pos h2))
theorem c_4 {op : Int} {a b : Vl} (h : ¬(op < 8 ∨ 13 < op)) (h1 : rightQ a = true) (h2 : rightQ b = true) (h3 : a.1 = 0 ∨ b.1 = 0) : c03 op a b = ((0, 0, []), 0, -1) := (if_neg h).trans ((if_neg (by rw [h1]; decide)).trans ((if_neg (by rw [h2]; decide)).trans (if_pos h3)))
theorem c_5 {op : Int} {a b : Vl} (h : ¬(op < 8 ∨ 13 < op)) (h1 : rightQ a = true) (h2 : rightQ b = true) (h3 : ¬(a.1 = 0 ∨ b.1 = 0)) (h4 : (sg03 a b).2.1 ≠ 0) : c03 op a b = ((0, 0, []), (sg03 a b).2.1, (sg03 a b).2.2) := (if_neg h).trans ((if_neg (by rw [h1]; decide)).trans ((if_neg (by rw [h2]; decide)).trans ((if_neg h3).trans (if_pos h4))))
theorem c_6 {op : Int} {a b : Vl} (h : ¬(op < 8 ∨ 13 < op)) (h1 : rightQ a = true) (h2 : rightQ b = true) (h3 : ¬(a.1 = 0 ∨ b.1 = 0)) (h4 : (sg03 a b).2.1 = 0) (h5 : ans op (sg03 a b).1 = true) : c03 op a b = ((1, 1, []), 0, -1) := by
  rw [show c03 op a b = ((1, (if ans op (sg03 a b).1 = true then 1 else 0), []), 0, -1) from (if_neg h).trans ((if_neg (by rw [h1]; decide)).trans ((if_neg (by rw [h2]; decide)).trans ((if_neg h3).trans (if_neg (not_not_intro h4))))), if_pos h5]
theorem c_7 {op : Int} {a b : Vl} (h : ¬(op < 8 ∨ 13 < op)) (h1 : rightQ a = true) (h2 : rightQ b = true) (h3 : ¬(a.1 = 0 ∨ b.1 = 0)) (h4 : (sg03 a b).2.1 = 0) (h5 : ans op (sg03 a b).1 = false) : c03 op a b = ((1, 0, []), 0, -1) := by
  rw [show c03 op a b = ((1, (if ans op (sg03 a b).1 = true then 1 else 0), []), 0, -1) from (if_neg h).trans ((if_neg (by rw [h1]; decide)).trans ((if_neg (by rw [h2]; decide)).trans ((if_neg h3).trans (if_neg (not_not_intro h4))))), if_neg (by rw [h5]; decide)]
attribute [local irreducible] Oper.wp Sem.run Code.wp wpList wpAnyO callFunc execOp Calls
attribute [local irreducible] rightQ cmpZ cmB orL vcmp
attribute [local irreducible] toU dv sv sgn sclQ sg03

set_option maxRecDepth 100000 in
theorem rof1_ok (w : World) : Calls Tryd.prog 57 #[.int .i64 1] w (PostR w fun v => v = .agg #[.int .i64 1, .int .i64 1, .string (bs [])]) := by
 have hS := St.start w
 refine c_enter Tryd.func57 rfl rfl rfl ?_
 refine wp_seq_k (fun K1 hK1 => ?_)
 refine wp_region_lit ?_
 refine l_e rfl (fun K hK => ?_)
 refine e_alloc (zv := .agg #[.int .i64 0, .int .i64 0, .string ⟨#[]⟩]) hS (by kernel_rfl) (fun b2 w2 (hS2 : St _ _ [.blk b2 (.cells #[.int .i64 (0 : Int), .int .i64 (0 : Int), .string (bs [])] 51)] _) => ?_)
 clear hS
 refine hK _ _ ?_; clear hK K
 refine l_nil ?_
 refine hK1 _ _ ?_
 refine wp_seq_k (fun K3 hK3 => ?_)
 refine wp_seq_k (fun K4 hK4 => ?_)
 refine wp_region_lit ?_
 refine l_q rfl rfl (q_moveI rfl) ?_
 refine l_q rfl rfl (q_lss rfl rfl) ?_
 refine l_nil ?_
 refine hK4 _ _ ?_
 refine c_condF rfl (by decide) ?_
 refine wp_skip ?_
 refine hK3 _ _ ?_
 refine wp_seq_k (fun K6 hK6 => ?_)
 refine wp_region_lit ?_
 refine l_q rfl rfl (q_moveI rfl) ?_
 refine l_q rfl rfl (q_build (ps := [(0, 1), (1, 1), (2, 1)]) (zv := .agg #[.int .i64 0, .int .i64 0, .string ⟨#[]⟩]) (by kernel_rfl) (by kernel_rfl) rfl (by repeat' (first | exact trivial | refine ⟨fun _ => by first | rfl | assumption | exact one_if (by assumption), ?_⟩ | refine ⟨fun ⟨_, h⟩ => by simp at h, ?_⟩)) rfl) ?_
 refine l_e rfl (fun K hK => ?_)
 refine e_storeA hS2 rfl rfl (by kernel_rfl) (by repeat' (first | exact trivial | refine ⟨by first | rfl | assumption | exact one_if (by assumption), ?_⟩)) (i := 0) rfl rfl (fun w7 (hS7 : St _ _ [.blk b2 (.cells #[.int .i64 (1 : Int), .int .i64 (1 : Int), .string (bs [])] 51)] _) => ?_)
 clear hS2
 refine hK _ _ ?_; clear hK K
 refine l_nil ?_
 refine hK6 _ _ ?_
 refine wp_ret ?_
 refine c_retC (m := 3) rfl (by kernel_rfl) (by kernel_rfl) rfl (by first | exact hS7.blk (i := 0) rfl | exact hS7.blk (i := 1) rfl | exact hS7.blk (i := 2) rfl | exact hS7.blk (i := 3) rfl | exact hS7.blk (i := 4) rfl) rfl ?_
 exact ⟨_, rfl, rfl, hS7.drop⟩

set_option maxRecDepth 100000 in
theorem rof0_ok (w : World) : Calls Tryd.prog 57 #[.int .i64 0] w (PostR w fun v => v = .agg #[.int .i64 1, .int .i64 0, .string (bs [])]) := by
 have hS := St.start w
 refine c_enter Tryd.func57 rfl rfl rfl ?_
 refine wp_seq_k (fun K1 hK1 => ?_)
 refine wp_region_lit ?_
 refine l_e rfl (fun K hK => ?_)
 refine e_alloc (zv := .agg #[.int .i64 0, .int .i64 0, .string ⟨#[]⟩]) hS (by kernel_rfl) (fun b2 w2 (hS2 : St _ _ [.blk b2 (.cells #[.int .i64 (0 : Int), .int .i64 (0 : Int), .string (bs [])] 51)] _) => ?_)
 clear hS
 refine hK _ _ ?_; clear hK K
 refine l_nil ?_
 refine hK1 _ _ ?_
 refine wp_seq_k (fun K3 hK3 => ?_)
 refine wp_seq_k (fun K4 hK4 => ?_)
 refine wp_region_lit ?_
 refine l_q rfl rfl (q_moveI rfl) ?_
 refine l_q rfl rfl (q_lss rfl rfl) ?_
 refine l_nil ?_
 refine hK4 _ _ ?_
 refine c_condF rfl (by decide) ?_
 refine wp_skip ?_
 refine hK3 _ _ ?_
 refine wp_seq_k (fun K6 hK6 => ?_)
 refine wp_region_lit ?_
 refine l_q rfl rfl (q_moveI rfl) ?_
 refine l_q rfl rfl (q_build (ps := [(0, 1), (1, 1), (2, 1)]) (zv := .agg #[.int .i64 0, .int .i64 0, .string ⟨#[]⟩]) (by kernel_rfl) (by kernel_rfl) rfl (by repeat' (first | exact trivial | refine ⟨fun _ => by first | rfl | assumption | exact one_if (by assumption), ?_⟩ | refine ⟨fun ⟨_, h⟩ => by simp at h, ?_⟩)) rfl) ?_
 refine l_e rfl (fun K hK => ?_)
 refine e_storeA hS2 rfl rfl (by kernel_rfl) (by repeat' (first | exact trivial | refine ⟨by first | rfl | assumption | exact one_if (by assumption), ?_⟩)) (i := 0) rfl rfl (fun w7 (hS7 : St _ _ [.blk b2 (.cells #[.int .i64 (1 : Int), .int .i64 (0 : Int), .string (bs [])] 51)] _) => ?_)
 clear hS2
 refine hK _ _ ?_; clear hK K
 refine l_nil ?_
 refine hK6 _ _ ?_
 refine wp_ret ?_
 refine c_retC (m := 3) rfl (by kernel_rfl) (by kernel_rfl) rfl (by first | exact hS7.blk (i := 0) rfl | exact hS7.blk (i := 1) rfl | exact hS7.blk (i := 2) rfl | exact hS7.blk (i := 3) rfl | exact hS7.blk (i := 4) rfl) rfl ?_
 exact ⟨_, rfl, rfl, hS7.drop⟩

set_option maxHeartbeats 4000000 in
set_option maxRecDepth 100000 in
theorem rcmp8 (a b : Vl) (haB : Bytes a.2.2) (hbB : Bytes b.2.2) (han0 : -9223372036854775808 ≤ a.2.1) (han1 : a.2.1 ≤ 9223372036854775807) (hbn0 : -9223372036854775808 ≤ b.2.1) (hbn1 : b.2.1 ≤ 9223372036854775807) (h1 : rightQ a = true) (h2 : rightQ b = true) (h3 : ¬a.1 = 0) (h4 : ¬b.1 = 0) (h5 : (sg03 a b).2.1 = 0) (w : World) : Calls Tryd.prog 35 #[.int .i64 8, .agg (vl a).toArray, .agg (vl b).toArray] w (PostR w fun v => v = .tuple #[.agg (vl (c03 8 a b).1).toArray, .agg #[.int .i64 (c03 8 a b).2.1, .int .i64 (c03 8 a b).2.2]]) := by
 have hS := St.start w
 refine c_enter Tryd.func35 rfl rfl rfl ?_
 refine wp_seq_k (fun K1 hK1 => ?_)
 refine wp_region_lit ?_
 refine l_e rfl (fun K hK => ?_)
 refine e_boxA hS rfl (fun b2 w2 (hS2 : St _ _ [.blk b2 (.cells #[.int .i64 a.1, .int .i64 a.2.1, .string (bs a.2.2)] 51)] _) => ?_)
 clear hS
 refine hK _ _ ?_; clear hK K
 refine l_e rfl (fun K hK => ?_)
 refine e_boxA hS2 rfl (fun b3 w3 (hS3 : St _ _ [.blk b3 (.cells #[.int .i64 b.1, .int .i64 b.2.1, .string (bs b.2.2)] 51), _] _) => ?_)
 clear hS2
 refine hK _ _ ?_; clear hK K
 refine l_e rfl (fun K hK => ?_)
 refine e_alloc (zv := .agg #[.int .i64 0, .int .i64 0, .string ⟨#[]⟩]) hS3 (by kernel_rfl) (fun b4 w4 (hS4 : St _ _ [.blk b4 (.cells #[.int .i64 (0 : Int), .int .i64 (0 : Int), .string (bs [])] 51), _, _] _) => ?_)
 clear hS3
 refine hK _ _ ?_; clear hK K
 refine l_e rfl (fun K hK => ?_)
 refine e_alloc (zv := .agg #[.int .i64 0, .int .i64 0]) hS4 (by kernel_rfl) (fun b5 w5 (hS5 : St _ _ [.blk b5 (.cells #[.int .i64 (0 : Int), .int .i64 (0 : Int)] 72), _, _, _] _) => ?_)
 clear hS4
 refine hK _ _ ?_; clear hK K
 refine l_nil ?_
 refine hK1 _ _ ?_
 refine wp_seq_k (fun K6 hK6 => ?_)
 refine wp_seq_k (fun K7 hK7 => ?_)
 refine wp_region_lit ?_
 refine l_q rfl rfl (q_moveI rfl) ?_
 refine l_q rfl rfl (q_lss rfl rfl) ?_
 refine l_q rfl rfl (q_moveB rfl) ?_
 refine l_on rfl rfl (by decide) ?_
 refine l_q rfl rfl (q_moveI rfl) ?_
 refine l_on rfl rfl (by decide) ?_
 refine l_q rfl rfl (q_gtr rfl rfl) ?_
 refine l_q rfl rfl (q_pickF rfl (by decide) rfl) ?_
 refine l_nil ?_
 refine hK7 _ _ ?_
 refine c_condF rfl (by decide) ?_
 refine wp_skip ?_
 refine hK6 _ _ ?_
 refine wp_seq_k (fun K9 hK9 => ?_)
 refine wp_region_lit ?_
 refine l_q rfl rfl (q_loadA (m := 3) rfl (by kernel_rfl) (by kernel_rfl) (hS5.blk (i := 3) rfl) rfl rfl) ?_
 refine l_e rfl (fun K hK => ?_)
 refine e_call (by kernel_rfl) (rright_ok a haB _) rfl (after_R hS5 (fun v10 w10 hv10 hS10 => ?_))
 clear hS5
 obtain rfl := hv10
 refine hK _ _ ?_; clear hK K
 refine l_q rfl rfl (q_assignB rfl) ?_
 refine l_nil ?_
 refine hK9 _ _ ?_
 refine wp_seq_k (fun K11 hK11 => ?_)
 refine wp_region_lit ?_
 refine l_q rfl rfl (q_loadA (m := 3) rfl (by kernel_rfl) (by kernel_rfl) (hS10.blk (i := 2) rfl) rfl rfl) ?_
 refine l_e rfl (fun K hK => ?_)
 refine e_call (by kernel_rfl) (rright_ok b hbB _) rfl (after_R hS10 (fun v12 w12 hv12 hS12 => ?_))
 clear hS10
 obtain rfl := hv12
 refine hK _ _ ?_; clear hK K
 refine l_q rfl rfl (q_assignB rfl) ?_
 refine l_nil ?_
 refine hK11 _ _ ?_
 refine wp_seq_k (fun K13 hK13 => ?_)
 refine wp_block ?_
 refine wp_seq_k (fun K14 hK14 => ?_)
 refine wp_region_lit ?_
 refine l_q rfl rfl (q_moveB rfl) ?_
 refine l_q rfl rfl (q_not rfl) ?_
 refine l_q rfl rfl (q_assignB rfl) ?_
 refine l_nil ?_
 refine hK14 _ _ ?_
 refine c_condF rfl (by rw [show _ = _ from h1]; rfl) ?_
 refine wp_seq_k (fun K16 hK16 => ?_)
 refine wp_region_lit ?_
 refine l_q rfl rfl (q_moveB rfl) ?_
 refine l_q rfl rfl (q_not rfl) ?_
 refine l_q rfl rfl (q_assignB rfl) ?_
 refine l_nil ?_
 refine hK16 _ _ ?_
 refine c_condF rfl (by rw [show _ = _ from h2]; rfl) ?_
 refine wp_seq_k (fun K18 hK18 => ?_)
 refine wp_region_lit ?_
 refine l_q rfl rfl (q_fieldAddr (ft := 49) (o := 0) rfl (by kernel_rfl)) ?_
 refine l_q rfl rfl (q_load1 rfl (by kernel_rfl) (hS12.cell (i := 3) rfl rfl)) ?_
 refine l_q rfl rfl (q_eql rfl rfl) ?_
 refine l_q rfl rfl (q_moveB rfl) ?_
 refine l_on rfl rfl (decide_eq_false h3) ?_
 refine l_q rfl rfl (q_fieldAddr (ft := 49) (o := 0) rfl (by kernel_rfl)) ?_
 refine l_on rfl rfl (decide_eq_false h3) ?_
 refine l_q rfl rfl (q_load1 rfl (by kernel_rfl) (hS12.cell (i := 2) rfl rfl)) ?_
 refine l_on rfl rfl (decide_eq_false h3) ?_
 refine l_q rfl rfl (q_eql rfl rfl) ?_
 refine l_q rfl rfl (q_pickF rfl (decide_eq_false h3) rfl) ?_
 refine l_q rfl rfl (q_assignB rfl) ?_
 refine l_nil ?_
 refine hK18 _ _ ?_
 refine c_condF rfl (decide_eq_false h4) ?_
 refine wp_skip ?_
 refine hK13 _ _ ?_
 refine wp_seq_k (fun K21 hK21 => ?_)
 refine wp_region_lit ?_
 refine l_q rfl rfl (q_loadA (m := 3) rfl (by kernel_rfl) (by kernel_rfl) (hS12.blk (i := 3) rfl) rfl rfl) ?_
 refine l_q rfl rfl (q_loadA (m := 3) rfl (by kernel_rfl) (by kernel_rfl) (hS12.blk (i := 2) rfl) rfl rfl) ?_
 refine l_e rfl (fun K hK => ?_)
 refine e_call (by kernel_rfl) (rsign_ok a b haB hbB han0 han1 hbn0 hbn1 _) rfl (after_R hS12 (fun v22 w22 hv22 hS22 => ?_))
 clear hS12
 obtain rfl := hv22
 refine hK _ _ ?_; clear hK K
 refine l_q rfl rfl (q_move rfl) ?_
 refine l_q rfl rfl (q_extract rfl rfl) ?_
 refine l_q rfl rfl (q_extract rfl rfl) ?_
 refine l_e rfl (fun K hK => ?_)
 refine e_alloc (zv := .agg #[.int .i64 0, .int .i64 0]) hS22 (by kernel_rfl) (fun b23 w23 (hS23 : St _ _ [.blk b23 (.cells #[.int .i64 (0 : Int), .int .i64 (0 : Int)] 72), _, _, _, _] _) => ?_)
 clear hS22
 refine hK _ _ ?_; clear hK K
 refine l_q rfl rfl (q_assignI rfl) ?_
 refine l_e rfl (fun K hK => ?_)
 refine e_storeA hS23 rfl rfl (by kernel_rfl) (by repeat' (first | exact trivial | refine ⟨by first | rfl | assumption | exact one_if (by assumption), ?_⟩)) (i := 0) rfl rfl (fun w24 (hS24 : St _ _ [.blk b23 (.cells #[.int .i64 (sg03 a b).2.1, .int .i64 (sg03 a b).2.2] 72), _, _, _, _] _) => ?_)
 clear hS23
 refine hK _ _ ?_; clear hK K
 refine l_nil ?_
 refine hK21 _ _ ?_
 refine wp_seq_k (fun K25 hK25 => ?_)
 refine wp_seq_k (fun K26 hK26 => ?_)
 refine wp_region_lit ?_
 refine l_q rfl rfl (q_fieldAddr (ft := 23) (o := 0) rfl (by kernel_rfl)) ?_
 refine l_q rfl rfl (q_load1 rfl (by kernel_rfl) (hS24.cell (i := 0) rfl rfl)) ?_
 refine l_q rfl rfl (q_neq rfl rfl) ?_
 refine l_nil ?_
 refine hK26 _ _ ?_
 refine c_condF rfl (by rw [h5]; rfl) ?_
 refine wp_skip ?_
 refine hK25 _ _ ?_
 refine wp_seq_k (fun K28 hK28 => ?_)
 refine wp_region_lit ?_
 refine l_q rfl rfl (q_moveI rfl) ?_
 refine l_q rfl rfl (q_eql rfl rfl) ?_
 refine l_q rfl rfl (q_moveB rfl) ?_
 refine l_on rfl rfl (by decide) ?_
 refine l_q rfl rfl (q_moveI rfl) ?_
 refine l_on rfl rfl (by decide) ?_
 refine l_q rfl rfl (q_eql rfl rfl) ?_
 refine l_q rfl rfl (q_pickT rfl (by decide) rfl) ?_
 refine l_q rfl rfl (q_moveB rfl) ?_
 refine g_splitL (t := 63) rfl (fun hg29 => ?_) (fun hg29 => ?_)
 ·
  have hg29b := hg29
  try simp only [decide_eq_true_eq, decide_eq_false_iff_not, Bool.not_eq_true', Bool.not_eq_false', Bool.and_eq_true, Bool.or_eq_true, Int.not_lt, Int.not_le, ne_eq, Decidable.not_not] at hg29
  refine l_off rfl rfl rfl hg29b ?_
  refine l_off rfl rfl rfl hg29b ?_
  refine l_off rfl rfl rfl hg29b ?_
  refine l_offN rfl rfl rfl ?_
  refine l_offN rfl rfl rfl ?_
  refine l_off rfl rfl rfl hg29b ?_
  refine l_q rfl rfl (q_pickT rfl hg29b rfl) ?_
  refine l_q rfl rfl (q_moveB rfl) ?_
  refine l_off rfl rfl rfl rfl ?_
  refine l_off rfl rfl rfl rfl ?_
  refine l_off rfl rfl rfl rfl ?_
  refine l_offN rfl rfl rfl ?_
  refine l_offN rfl rfl rfl ?_
  refine l_off rfl rfl rfl rfl ?_
  refine l_q rfl rfl (q_pickT rfl rfl rfl) ?_
  refine l_q rfl rfl (q_moveB rfl) ?_
  refine l_off rfl rfl rfl rfl ?_
  refine l_off rfl rfl rfl rfl ?_
  refine l_off rfl rfl rfl rfl ?_
  refine l_offN rfl rfl rfl ?_
  refine l_offN rfl rfl rfl ?_
  refine l_off rfl rfl rfl rfl ?_
  refine l_q rfl rfl (q_pickT rfl rfl rfl) ?_
  refine l_q rfl rfl (q_moveB rfl) ?_
  refine l_off rfl rfl rfl rfl ?_
  refine l_off rfl rfl rfl rfl ?_
  refine l_off rfl rfl rfl rfl ?_
  refine l_offN rfl rfl rfl ?_
  refine l_offN rfl rfl rfl ?_
  refine l_off rfl rfl rfl rfl ?_
  refine l_q rfl rfl (q_pickT rfl rfl rfl) ?_
  refine l_q rfl rfl (q_moveB rfl) ?_
  refine l_off rfl rfl rfl rfl ?_
  refine l_off rfl rfl rfl rfl ?_
  refine l_off rfl rfl rfl rfl ?_
  refine l_offN rfl rfl rfl ?_
  refine l_offN rfl rfl rfl ?_
  refine l_off rfl rfl rfl rfl ?_
  refine l_q rfl rfl (q_pickT rfl rfl rfl) ?_
  refine l_q rfl rfl (q_assignB rfl) ?_
  refine l_nil ?_
  refine hK28 _ _ ?_
  refine wp_seq_k (fun K30 hK30 => ?_)
  refine wp_seq_k (fun K31 hK31 => ?_)
  refine wp_region_lit ?_
  refine l_q rfl rfl (q_moveB rfl) ?_
  refine l_nil ?_
  refine hK31 _ _ ?_
  refine c_condT rfl rfl ?_
  refine wp_seq_k (fun K33 hK33 => ?_)
  refine wp_region_lit ?_
  refine l_e rfl (fun K hK => ?_)
  refine e_call (by kernel_rfl) (rof1_ok _) rfl (after_R hS24 (fun v34 w34 hv34 hS34 => ?_))
  clear hS24
  obtain rfl := hv34
  refine hK _ _ ?_; clear hK K
  refine l_e rfl (fun K hK => ?_)
  refine e_call (by kernel_rfl) (fine_ok _) rfl (after_R hS34 (fun v35 w35 hv35 hS35 => ?_))
  clear hS34
  obtain rfl := hv35
  refine hK _ _ ?_; clear hK K
  refine l_e rfl (fun K hK => ?_)
  refine e_storeA hS35 rfl rfl (by kernel_rfl) (by repeat' (first | exact trivial | refine ⟨by first | rfl | assumption | exact one_if (by assumption), ?_⟩)) (i := 2) rfl rfl (fun w36 (hS36 : St _ _ [_, _, .blk b4 (.cells #[.int .i64 (1 : Int), .int .i64 (1 : Int), .string (bs [])] 51), _, _] _) => ?_)
  clear hS35
  refine hK _ _ ?_; clear hK K
  refine l_e rfl (fun K hK => ?_)
  refine e_storeA hS36 rfl rfl (by kernel_rfl) (by repeat' (first | exact trivial | refine ⟨by first | rfl | assumption | exact one_if (by assumption), ?_⟩)) (i := 1) rfl rfl (fun w37 (hS37 : St _ _ [_, .blk b5 (.cells #[.int .i64 (0 : Int), .int .i64 (-1 : Int)] 72), _, _, _] _) => ?_)
  clear hS36
  refine hK _ _ ?_; clear hK K
  refine l_nil ?_
  refine hK33 _ _ ?_
  refine wp_ret ?_
  refine c_retCC (m := 3) (m2 := 2) rfl (by kernel_rfl) (by kernel_rfl) (by kernel_rfl) (by kernel_rfl) rfl rfl (hS37.blk (i := 2) rfl) (hS37.blk (i := 1) rfl) rfl rfl ?_
  exact ⟨_, rfl, (by rw [c_6 (by omega) (by assumption) (by assumption) (by omega) (by omega) (decide_eq_true (by omega))]; rfl), hS37.drop⟩
 ·
  have hg29b := hg29
  try simp only [decide_eq_true_eq, decide_eq_false_iff_not, Bool.not_eq_true', Bool.not_eq_false', Bool.and_eq_true, Bool.or_eq_true, Int.not_lt, Int.not_le, ne_eq, Decidable.not_not] at hg29
  refine l_on rfl rfl hg29b ?_
  refine l_q rfl rfl (q_moveI rfl) ?_
  refine l_on rfl rfl hg29b ?_
  refine l_q rfl rfl (q_eql rfl rfl) ?_
  refine l_on rfl rfl hg29b ?_
  refine l_q rfl rfl (q_moveB rfl) ?_
  refine l_off rfl rfl rfl (by decide) ?_
  refine l_off rfl rfl rfl (by decide) ?_
  refine l_on rfl rfl hg29b ?_
  refine l_q rfl rfl (q_pickF rfl (by decide) rfl) ?_
  refine l_q rfl rfl (q_pickF rfl hg29b rfl) ?_
  refine l_q rfl rfl (q_moveB rfl) ?_
  refine l_on rfl rfl rfl ?_
  refine l_q rfl rfl (q_moveI rfl) ?_
  refine l_on rfl rfl rfl ?_
  refine l_q rfl rfl (q_eql rfl rfl) ?_
  refine l_on rfl rfl rfl ?_
  refine l_q rfl rfl (q_moveB rfl) ?_
  refine l_off rfl rfl rfl (by decide) ?_
  refine l_off rfl rfl rfl (by decide) ?_
  refine l_on rfl rfl rfl ?_
  refine l_q rfl rfl (q_pickF rfl (by decide) rfl) ?_
  refine l_q rfl rfl (q_pickF rfl rfl rfl) ?_
  refine l_q rfl rfl (q_moveB rfl) ?_
  refine l_on rfl rfl rfl ?_
  refine l_q rfl rfl (q_moveI rfl) ?_
  refine l_on rfl rfl rfl ?_
  refine l_q rfl rfl (q_eql rfl rfl) ?_
  refine l_on rfl rfl rfl ?_
  refine l_q rfl rfl (q_moveB rfl) ?_
  refine l_off rfl rfl rfl (by decide) ?_
  refine l_off rfl rfl rfl (by decide) ?_
  refine l_on rfl rfl rfl ?_
  refine l_q rfl rfl (q_pickF rfl (by decide) rfl) ?_
  refine l_q rfl rfl (q_pickF rfl rfl rfl) ?_
  refine l_q rfl rfl (q_moveB rfl) ?_
  refine l_on rfl rfl rfl ?_
  refine l_q rfl rfl (q_moveI rfl) ?_
  refine l_on rfl rfl rfl ?_
  refine l_q rfl rfl (q_eql rfl rfl) ?_
  refine l_on rfl rfl rfl ?_
  refine l_q rfl rfl (q_moveB rfl) ?_
  refine l_off rfl rfl rfl (by decide) ?_
  refine l_off rfl rfl rfl (by decide) ?_
  refine l_on rfl rfl rfl ?_
  refine l_q rfl rfl (q_pickF rfl (by decide) rfl) ?_
  refine l_q rfl rfl (q_pickF rfl rfl rfl) ?_
  refine l_q rfl rfl (q_moveB rfl) ?_
  refine l_on rfl rfl rfl ?_
  refine l_q rfl rfl (q_moveI rfl) ?_
  refine l_on rfl rfl rfl ?_
  refine l_q rfl rfl (q_eql rfl rfl) ?_
  refine l_on rfl rfl rfl ?_
  refine l_q rfl rfl (q_moveB rfl) ?_
  refine l_off rfl rfl rfl (by decide) ?_
  refine l_off rfl rfl rfl (by decide) ?_
  refine l_on rfl rfl rfl ?_
  refine l_q rfl rfl (q_pickF rfl (by decide) rfl) ?_
  refine l_q rfl rfl (q_pickF rfl rfl rfl) ?_
  refine l_q rfl rfl (q_assignB rfl) ?_
  refine l_nil ?_
  refine hK28 _ _ ?_
  refine wp_seq_k (fun K38 hK38 => ?_)
  refine wp_seq_k (fun K39 hK39 => ?_)
  refine wp_region_lit ?_
  refine l_q rfl rfl (q_moveB rfl) ?_
  refine l_nil ?_
  refine hK39 _ _ ?_
  refine c_condF rfl rfl ?_
  refine wp_skip ?_
  refine hK38 _ _ ?_
  refine wp_seq_k (fun K41 hK41 => ?_)
  refine wp_region_lit ?_
  refine l_e rfl (fun K hK => ?_)
  refine e_call (by kernel_rfl) (rof0_ok _) rfl (after_R hS24 (fun v42 w42 hv42 hS42 => ?_))
  clear hS24
  obtain rfl := hv42
  refine hK _ _ ?_; clear hK K
  refine l_e rfl (fun K hK => ?_)
  refine e_call (by kernel_rfl) (fine_ok _) rfl (after_R hS42 (fun v43 w43 hv43 hS43 => ?_))
  clear hS42
  obtain rfl := hv43
  refine hK _ _ ?_; clear hK K
  refine l_e rfl (fun K hK => ?_)
  refine e_storeA hS43 rfl rfl (by kernel_rfl) (by repeat' (first | exact trivial | refine ⟨by first | rfl | assumption | exact one_if (by assumption), ?_⟩)) (i := 2) rfl rfl (fun w44 (hS44 : St _ _ [_, _, .blk b4 (.cells #[.int .i64 (1 : Int), .int .i64 (0 : Int), .string (bs [])] 51), _, _] _) => ?_)
  clear hS43
  refine hK _ _ ?_; clear hK K
  refine l_e rfl (fun K hK => ?_)
  refine e_storeA hS44 rfl rfl (by kernel_rfl) (by repeat' (first | exact trivial | refine ⟨by first | rfl | assumption | exact one_if (by assumption), ?_⟩)) (i := 1) rfl rfl (fun w45 (hS45 : St _ _ [_, _, _, _, _] _) => ?_)
  clear hS44
  refine hK _ _ ?_; clear hK K
  refine l_nil ?_
  refine hK41 _ _ ?_
  refine wp_ret ?_
  refine c_retCC (m := 3) (m2 := 2) rfl (by kernel_rfl) (by kernel_rfl) (by kernel_rfl) (by kernel_rfl) rfl rfl (hS45.blk (i := 2) rfl) (hS45.blk (i := 1) rfl) rfl rfl ?_
  exact ⟨_, rfl, (by rw [c_7 (by omega) (by assumption) (by assumption) (by omega) (by omega) (decide_eq_false (by omega))]; rfl), hS45.drop⟩

set_option maxHeartbeats 4000000 in
set_option maxRecDepth 100000 in
theorem rcmp9 (a b : Vl) (haB : Bytes a.2.2) (hbB : Bytes b.2.2) (han0 : -9223372036854775808 ≤ a.2.1) (han1 : a.2.1 ≤ 9223372036854775807) (hbn0 : -9223372036854775808 ≤ b.2.1) (hbn1 : b.2.1 ≤ 9223372036854775807) (h1 : rightQ a = true) (h2 : rightQ b = true) (h3 : ¬a.1 = 0) (h4 : ¬b.1 = 0) (h5 : (sg03 a b).2.1 = 0) (w : World) : Calls Tryd.prog 35 #[.int .i64 9, .agg (vl a).toArray, .agg (vl b).toArray] w (PostR w fun v => v = .tuple #[.agg (vl (c03 9 a b).1).toArray, .agg #[.int .i64 (c03 9 a b).2.1, .int .i64 (c03 9 a b).2.2]]) := by
 have hS := St.start w
 refine c_enter Tryd.func35 rfl rfl rfl ?_
 refine wp_seq_k (fun K1 hK1 => ?_)
 refine wp_region_lit ?_
 refine l_e rfl (fun K hK => ?_)
 refine e_boxA hS rfl (fun b2 w2 (hS2 : St _ _ [.blk b2 (.cells #[.int .i64 a.1, .int .i64 a.2.1, .string (bs a.2.2)] 51)] _) => ?_)
 clear hS
 refine hK _ _ ?_; clear hK K
 refine l_e rfl (fun K hK => ?_)
 refine e_boxA hS2 rfl (fun b3 w3 (hS3 : St _ _ [.blk b3 (.cells #[.int .i64 b.1, .int .i64 b.2.1, .string (bs b.2.2)] 51), _] _) => ?_)
 clear hS2
 refine hK _ _ ?_; clear hK K
 refine l_e rfl (fun K hK => ?_)
 refine e_alloc (zv := .agg #[.int .i64 0, .int .i64 0, .string ⟨#[]⟩]) hS3 (by kernel_rfl) (fun b4 w4 (hS4 : St _ _ [.blk b4 (.cells #[.int .i64 (0 : Int), .int .i64 (0 : Int), .string (bs [])] 51), _, _] _) => ?_)
 clear hS3
 refine hK _ _ ?_; clear hK K
 refine l_e rfl (fun K hK => ?_)
 refine e_alloc (zv := .agg #[.int .i64 0, .int .i64 0]) hS4 (by kernel_rfl) (fun b5 w5 (hS5 : St _ _ [.blk b5 (.cells #[.int .i64 (0 : Int), .int .i64 (0 : Int)] 72), _, _, _] _) => ?_)
 clear hS4
 refine hK _ _ ?_; clear hK K
 refine l_nil ?_
 refine hK1 _ _ ?_
 refine wp_seq_k (fun K6 hK6 => ?_)
 refine wp_seq_k (fun K7 hK7 => ?_)
 refine wp_region_lit ?_
 refine l_q rfl rfl (q_moveI rfl) ?_
 refine l_q rfl rfl (q_lss rfl rfl) ?_
 refine l_q rfl rfl (q_moveB rfl) ?_
 refine l_on rfl rfl (by decide) ?_
 refine l_q rfl rfl (q_moveI rfl) ?_
 refine l_on rfl rfl (by decide) ?_
 refine l_q rfl rfl (q_gtr rfl rfl) ?_
 refine l_q rfl rfl (q_pickF rfl (by decide) rfl) ?_
 refine l_nil ?_
 refine hK7 _ _ ?_
 refine c_condF rfl (by decide) ?_
 refine wp_skip ?_
 refine hK6 _ _ ?_
 refine wp_seq_k (fun K9 hK9 => ?_)
 refine wp_region_lit ?_
 refine l_q rfl rfl (q_loadA (m := 3) rfl (by kernel_rfl) (by kernel_rfl) (hS5.blk (i := 3) rfl) rfl rfl) ?_
 refine l_e rfl (fun K hK => ?_)
 refine e_call (by kernel_rfl) (rright_ok a haB _) rfl (after_R hS5 (fun v10 w10 hv10 hS10 => ?_))
 clear hS5
 obtain rfl := hv10
 refine hK _ _ ?_; clear hK K
 refine l_q rfl rfl (q_assignB rfl) ?_
 refine l_nil ?_
 refine hK9 _ _ ?_
 refine wp_seq_k (fun K11 hK11 => ?_)
 refine wp_region_lit ?_
 refine l_q rfl rfl (q_loadA (m := 3) rfl (by kernel_rfl) (by kernel_rfl) (hS10.blk (i := 2) rfl) rfl rfl) ?_
 refine l_e rfl (fun K hK => ?_)
 refine e_call (by kernel_rfl) (rright_ok b hbB _) rfl (after_R hS10 (fun v12 w12 hv12 hS12 => ?_))
 clear hS10
 obtain rfl := hv12
 refine hK _ _ ?_; clear hK K
 refine l_q rfl rfl (q_assignB rfl) ?_
 refine l_nil ?_
 refine hK11 _ _ ?_
 refine wp_seq_k (fun K13 hK13 => ?_)
 refine wp_block ?_
 refine wp_seq_k (fun K14 hK14 => ?_)
 refine wp_region_lit ?_
 refine l_q rfl rfl (q_moveB rfl) ?_
 refine l_q rfl rfl (q_not rfl) ?_
 refine l_q rfl rfl (q_assignB rfl) ?_
 refine l_nil ?_
 refine hK14 _ _ ?_
 refine c_condF rfl (by rw [show _ = _ from h1]; rfl) ?_
 refine wp_seq_k (fun K16 hK16 => ?_)
 refine wp_region_lit ?_
 refine l_q rfl rfl (q_moveB rfl) ?_
 refine l_q rfl rfl (q_not rfl) ?_
 refine l_q rfl rfl (q_assignB rfl) ?_
 refine l_nil ?_
 refine hK16 _ _ ?_
 refine c_condF rfl (by rw [show _ = _ from h2]; rfl) ?_
 refine wp_seq_k (fun K18 hK18 => ?_)
 refine wp_region_lit ?_
 refine l_q rfl rfl (q_fieldAddr (ft := 49) (o := 0) rfl (by kernel_rfl)) ?_
 refine l_q rfl rfl (q_load1 rfl (by kernel_rfl) (hS12.cell (i := 3) rfl rfl)) ?_
 refine l_q rfl rfl (q_eql rfl rfl) ?_
 refine l_q rfl rfl (q_moveB rfl) ?_
 refine l_on rfl rfl (decide_eq_false h3) ?_
 refine l_q rfl rfl (q_fieldAddr (ft := 49) (o := 0) rfl (by kernel_rfl)) ?_
 refine l_on rfl rfl (decide_eq_false h3) ?_
 refine l_q rfl rfl (q_load1 rfl (by kernel_rfl) (hS12.cell (i := 2) rfl rfl)) ?_
 refine l_on rfl rfl (decide_eq_false h3) ?_
 refine l_q rfl rfl (q_eql rfl rfl) ?_
 refine l_q rfl rfl (q_pickF rfl (decide_eq_false h3) rfl) ?_
 refine l_q rfl rfl (q_assignB rfl) ?_
 refine l_nil ?_
 refine hK18 _ _ ?_
 refine c_condF rfl (decide_eq_false h4) ?_
 refine wp_skip ?_
 refine hK13 _ _ ?_
 refine wp_seq_k (fun K21 hK21 => ?_)
 refine wp_region_lit ?_
 refine l_q rfl rfl (q_loadA (m := 3) rfl (by kernel_rfl) (by kernel_rfl) (hS12.blk (i := 3) rfl) rfl rfl) ?_
 refine l_q rfl rfl (q_loadA (m := 3) rfl (by kernel_rfl) (by kernel_rfl) (hS12.blk (i := 2) rfl) rfl rfl) ?_
 refine l_e rfl (fun K hK => ?_)
 refine e_call (by kernel_rfl) (rsign_ok a b haB hbB han0 han1 hbn0 hbn1 _) rfl (after_R hS12 (fun v22 w22 hv22 hS22 => ?_))
 clear hS12
 obtain rfl := hv22
 refine hK _ _ ?_; clear hK K
 refine l_q rfl rfl (q_move rfl) ?_
 refine l_q rfl rfl (q_extract rfl rfl) ?_
 refine l_q rfl rfl (q_extract rfl rfl) ?_
 refine l_e rfl (fun K hK => ?_)
 refine e_alloc (zv := .agg #[.int .i64 0, .int .i64 0]) hS22 (by kernel_rfl) (fun b23 w23 (hS23 : St _ _ [.blk b23 (.cells #[.int .i64 (0 : Int), .int .i64 (0 : Int)] 72), _, _, _, _] _) => ?_)
 clear hS22
 refine hK _ _ ?_; clear hK K
 refine l_q rfl rfl (q_assignI rfl) ?_
 refine l_e rfl (fun K hK => ?_)
 refine e_storeA hS23 rfl rfl (by kernel_rfl) (by repeat' (first | exact trivial | refine ⟨by first | rfl | assumption | exact one_if (by assumption), ?_⟩)) (i := 0) rfl rfl (fun w24 (hS24 : St _ _ [.blk b23 (.cells #[.int .i64 (sg03 a b).2.1, .int .i64 (sg03 a b).2.2] 72), _, _, _, _] _) => ?_)
 clear hS23
 refine hK _ _ ?_; clear hK K
 refine l_nil ?_
 refine hK21 _ _ ?_
 refine wp_seq_k (fun K25 hK25 => ?_)
 refine wp_seq_k (fun K26 hK26 => ?_)
 refine wp_region_lit ?_
 refine l_q rfl rfl (q_fieldAddr (ft := 23) (o := 0) rfl (by kernel_rfl)) ?_
 refine l_q rfl rfl (q_load1 rfl (by kernel_rfl) (hS24.cell (i := 0) rfl rfl)) ?_
 refine l_q rfl rfl (q_neq rfl rfl) ?_
 refine l_nil ?_
 refine hK26 _ _ ?_
 refine c_condF rfl (by rw [h5]; rfl) ?_
 refine wp_skip ?_
 refine hK25 _ _ ?_
 refine wp_seq_k (fun K28 hK28 => ?_)
 refine wp_region_lit ?_
 refine l_q rfl rfl (q_moveI rfl) ?_
 refine l_q rfl rfl (q_eql rfl rfl) ?_
 refine l_q rfl rfl (q_moveB rfl) ?_
 refine l_off rfl rfl rfl (by decide) ?_
 refine l_off rfl rfl rfl (by decide) ?_
 refine l_q rfl rfl (q_pickF rfl (by decide) rfl) ?_
 refine l_q rfl rfl (q_moveB rfl) ?_
 refine l_on rfl rfl rfl ?_
 refine l_q rfl rfl (q_moveI rfl) ?_
 refine l_on rfl rfl rfl ?_
 refine l_q rfl rfl (q_eql rfl rfl) ?_
 refine l_on rfl rfl rfl ?_
 refine l_q rfl rfl (q_moveB rfl) ?_
 refine l_on rfl rfl (by decide) ?_
 refine l_q rfl rfl (q_moveI rfl) ?_
 refine l_on rfl rfl (by decide) ?_
 refine l_q rfl rfl (q_neq rfl rfl) ?_
 refine l_on rfl rfl rfl ?_
 refine l_q rfl rfl (q_pickT rfl (by decide) rfl) ?_
 refine l_q rfl rfl (q_pickF rfl rfl rfl) ?_
 refine l_q rfl rfl (q_moveB rfl) ?_
 refine g_splitL (t := 71) rfl (fun hg29 => ?_) (fun hg29 => ?_)
 ·
  have hg29b := hg29
  try simp only [decide_eq_true_eq, decide_eq_false_iff_not, Bool.not_eq_true', Bool.not_eq_false', Bool.and_eq_true, Bool.or_eq_true, Int.not_lt, Int.not_le, ne_eq, Decidable.not_not] at hg29
  refine l_off rfl rfl rfl hg29b ?_
  refine l_off rfl rfl rfl hg29b ?_
  refine l_off rfl rfl rfl hg29b ?_
  refine l_offN rfl rfl rfl ?_
  refine l_offN rfl rfl rfl ?_
  refine l_off rfl rfl rfl hg29b ?_
  refine l_q rfl rfl (q_pickT rfl hg29b rfl) ?_
  refine l_q rfl rfl (q_moveB rfl) ?_
  refine l_off rfl rfl rfl rfl ?_
  refine l_off rfl rfl rfl rfl ?_
  refine l_off rfl rfl rfl rfl ?_
  refine l_offN rfl rfl rfl ?_
  refine l_offN rfl rfl rfl ?_
  refine l_off rfl rfl rfl rfl ?_
  refine l_q rfl rfl (q_pickT rfl rfl rfl) ?_
  refine l_q rfl rfl (q_moveB rfl) ?_
  refine l_off rfl rfl rfl rfl ?_
  refine l_off rfl rfl rfl rfl ?_
  refine l_off rfl rfl rfl rfl ?_
  refine l_offN rfl rfl rfl ?_
  refine l_offN rfl rfl rfl ?_
  refine l_off rfl rfl rfl rfl ?_
  refine l_q rfl rfl (q_pickT rfl rfl rfl) ?_
  refine l_q rfl rfl (q_moveB rfl) ?_
  refine l_off rfl rfl rfl rfl ?_
  refine l_off rfl rfl rfl rfl ?_
  refine l_off rfl rfl rfl rfl ?_
  refine l_offN rfl rfl rfl ?_
  refine l_offN rfl rfl rfl ?_
  refine l_off rfl rfl rfl rfl ?_
  refine l_q rfl rfl (q_pickT rfl rfl rfl) ?_
  refine l_q rfl rfl (q_assignB rfl) ?_
  refine l_nil ?_
  refine hK28 _ _ ?_
  refine wp_seq_k (fun K30 hK30 => ?_)
  refine wp_seq_k (fun K31 hK31 => ?_)
  refine wp_region_lit ?_
  refine l_q rfl rfl (q_moveB rfl) ?_
  refine l_nil ?_
  refine hK31 _ _ ?_
  refine c_condT rfl rfl ?_
  refine wp_seq_k (fun K33 hK33 => ?_)
  refine wp_region_lit ?_
  refine l_e rfl (fun K hK => ?_)
  refine e_call (by kernel_rfl) (rof1_ok _) rfl (after_R hS24 (fun v34 w34 hv34 hS34 => ?_))
  clear hS24
  obtain rfl := hv34
  refine hK _ _ ?_; clear hK K
  refine l_e rfl (fun K hK => ?_)
  refine e_call (by kernel_rfl) (fine_ok _) rfl (after_R hS34 (fun v35 w35 hv35 hS35 => ?_))
  clear hS34
  obtain rfl := hv35
  refine hK _ _ ?_; clear hK K
  refine l_e rfl (fun K hK => ?_)
  refine e_storeA hS35 rfl rfl (by kernel_rfl) (by repeat' (first | exact trivial | refine ⟨by first | rfl | assumption | exact one_if (by assumption), ?_⟩)) (i := 2) rfl rfl (fun w36 (hS36 : St _ _ [_, _, .blk b4 (.cells #[.int .i64 (1 : Int), .int .i64 (1 : Int), .string (bs [])] 51), _, _] _) => ?_)
  clear hS35
  refine hK _ _ ?_; clear hK K
  refine l_e rfl (fun K hK => ?_)
  refine e_storeA hS36 rfl rfl (by kernel_rfl) (by repeat' (first | exact trivial | refine ⟨by first | rfl | assumption | exact one_if (by assumption), ?_⟩)) (i := 1) rfl rfl (fun w37 (hS37 : St _ _ [_, .blk b5 (.cells #[.int .i64 (0 : Int), .int .i64 (-1 : Int)] 72), _, _, _] _) => ?_)
  clear hS36
  refine hK _ _ ?_; clear hK K
  refine l_nil ?_
  refine hK33 _ _ ?_
  refine wp_ret ?_
  refine c_retCC (m := 3) (m2 := 2) rfl (by kernel_rfl) (by kernel_rfl) (by kernel_rfl) (by kernel_rfl) rfl rfl (hS37.blk (i := 2) rfl) (hS37.blk (i := 1) rfl) rfl rfl ?_
  exact ⟨_, rfl, (by rw [c_6 (by omega) (by assumption) (by assumption) (by omega) (by omega) (decide_eq_true (by omega))]; rfl), hS37.drop⟩
 ·
  have hg29b := hg29
  try simp only [decide_eq_true_eq, decide_eq_false_iff_not, Bool.not_eq_true', Bool.not_eq_false', Bool.and_eq_true, Bool.or_eq_true, Int.not_lt, Int.not_le, ne_eq, Decidable.not_not] at hg29
  refine l_on rfl rfl hg29b ?_
  refine l_q rfl rfl (q_moveI rfl) ?_
  refine l_on rfl rfl hg29b ?_
  refine l_q rfl rfl (q_eql rfl rfl) ?_
  refine l_on rfl rfl hg29b ?_
  refine l_q rfl rfl (q_moveB rfl) ?_
  refine l_off rfl rfl rfl (by decide) ?_
  refine l_off rfl rfl rfl (by decide) ?_
  refine l_on rfl rfl hg29b ?_
  refine l_q rfl rfl (q_pickF rfl (by decide) rfl) ?_
  refine l_q rfl rfl (q_pickF rfl hg29b rfl) ?_
  refine l_q rfl rfl (q_moveB rfl) ?_
  refine l_on rfl rfl rfl ?_
  refine l_q rfl rfl (q_moveI rfl) ?_
  refine l_on rfl rfl rfl ?_
  refine l_q rfl rfl (q_eql rfl rfl) ?_
  refine l_on rfl rfl rfl ?_
  refine l_q rfl rfl (q_moveB rfl) ?_
  refine l_off rfl rfl rfl (by decide) ?_
  refine l_off rfl rfl rfl (by decide) ?_
  refine l_on rfl rfl rfl ?_
  refine l_q rfl rfl (q_pickF rfl (by decide) rfl) ?_
  refine l_q rfl rfl (q_pickF rfl rfl rfl) ?_
  refine l_q rfl rfl (q_moveB rfl) ?_
  refine l_on rfl rfl rfl ?_
  refine l_q rfl rfl (q_moveI rfl) ?_
  refine l_on rfl rfl rfl ?_
  refine l_q rfl rfl (q_eql rfl rfl) ?_
  refine l_on rfl rfl rfl ?_
  refine l_q rfl rfl (q_moveB rfl) ?_
  refine l_off rfl rfl rfl (by decide) ?_
  refine l_off rfl rfl rfl (by decide) ?_
  refine l_on rfl rfl rfl ?_
  refine l_q rfl rfl (q_pickF rfl (by decide) rfl) ?_
  refine l_q rfl rfl (q_pickF rfl rfl rfl) ?_
  refine l_q rfl rfl (q_moveB rfl) ?_
  refine l_on rfl rfl rfl ?_
  refine l_q rfl rfl (q_moveI rfl) ?_
  refine l_on rfl rfl rfl ?_
  refine l_q rfl rfl (q_eql rfl rfl) ?_
  refine l_on rfl rfl rfl ?_
  refine l_q rfl rfl (q_moveB rfl) ?_
  refine l_off rfl rfl rfl (by decide) ?_
  refine l_off rfl rfl rfl (by decide) ?_
  refine l_on rfl rfl rfl ?_
  refine l_q rfl rfl (q_pickF rfl (by decide) rfl) ?_
  refine l_q rfl rfl (q_pickF rfl rfl rfl) ?_
  refine l_q rfl rfl (q_assignB rfl) ?_
  refine l_nil ?_
  refine hK28 _ _ ?_
  refine wp_seq_k (fun K38 hK38 => ?_)
  refine wp_seq_k (fun K39 hK39 => ?_)
  refine wp_region_lit ?_
  refine l_q rfl rfl (q_moveB rfl) ?_
  refine l_nil ?_
  refine hK39 _ _ ?_
  refine c_condF rfl rfl ?_
  refine wp_skip ?_
  refine hK38 _ _ ?_
  refine wp_seq_k (fun K41 hK41 => ?_)
  refine wp_region_lit ?_
  refine l_e rfl (fun K hK => ?_)
  refine e_call (by kernel_rfl) (rof0_ok _) rfl (after_R hS24 (fun v42 w42 hv42 hS42 => ?_))
  clear hS24
  obtain rfl := hv42
  refine hK _ _ ?_; clear hK K
  refine l_e rfl (fun K hK => ?_)
  refine e_call (by kernel_rfl) (fine_ok _) rfl (after_R hS42 (fun v43 w43 hv43 hS43 => ?_))
  clear hS42
  obtain rfl := hv43
  refine hK _ _ ?_; clear hK K
  refine l_e rfl (fun K hK => ?_)
  refine e_storeA hS43 rfl rfl (by kernel_rfl) (by repeat' (first | exact trivial | refine ⟨by first | rfl | assumption | exact one_if (by assumption), ?_⟩)) (i := 2) rfl rfl (fun w44 (hS44 : St _ _ [_, _, .blk b4 (.cells #[.int .i64 (1 : Int), .int .i64 (0 : Int), .string (bs [])] 51), _, _] _) => ?_)
  clear hS43
  refine hK _ _ ?_; clear hK K
  refine l_e rfl (fun K hK => ?_)
  refine e_storeA hS44 rfl rfl (by kernel_rfl) (by repeat' (first | exact trivial | refine ⟨by first | rfl | assumption | exact one_if (by assumption), ?_⟩)) (i := 1) rfl rfl (fun w45 (hS45 : St _ _ [_, _, _, _, _] _) => ?_)
  clear hS44
  refine hK _ _ ?_; clear hK K
  refine l_nil ?_
  refine hK41 _ _ ?_
  refine wp_ret ?_
  refine c_retCC (m := 3) (m2 := 2) rfl (by kernel_rfl) (by kernel_rfl) (by kernel_rfl) (by kernel_rfl) rfl rfl (hS45.blk (i := 2) rfl) (hS45.blk (i := 1) rfl) rfl rfl ?_
  exact ⟨_, rfl, (by rw [c_7 (by omega) (by assumption) (by assumption) (by omega) (by omega) (decide_eq_false (by omega))]; rfl), hS45.drop⟩

set_option maxHeartbeats 4000000 in
set_option maxRecDepth 100000 in
theorem rcmp10 (a b : Vl) (haB : Bytes a.2.2) (hbB : Bytes b.2.2) (han0 : -9223372036854775808 ≤ a.2.1) (han1 : a.2.1 ≤ 9223372036854775807) (hbn0 : -9223372036854775808 ≤ b.2.1) (hbn1 : b.2.1 ≤ 9223372036854775807) (h1 : rightQ a = true) (h2 : rightQ b = true) (h3 : ¬a.1 = 0) (h4 : ¬b.1 = 0) (h5 : (sg03 a b).2.1 = 0) (w : World) : Calls Tryd.prog 35 #[.int .i64 10, .agg (vl a).toArray, .agg (vl b).toArray] w (PostR w fun v => v = .tuple #[.agg (vl (c03 10 a b).1).toArray, .agg #[.int .i64 (c03 10 a b).2.1, .int .i64 (c03 10 a b).2.2]]) := by
 have hS := St.start w
 refine c_enter Tryd.func35 rfl rfl rfl ?_
 refine wp_seq_k (fun K1 hK1 => ?_)
 refine wp_region_lit ?_
 refine l_e rfl (fun K hK => ?_)
 refine e_boxA hS rfl (fun b2 w2 (hS2 : St _ _ [.blk b2 (.cells #[.int .i64 a.1, .int .i64 a.2.1, .string (bs a.2.2)] 51)] _) => ?_)
 clear hS
 refine hK _ _ ?_; clear hK K
 refine l_e rfl (fun K hK => ?_)
 refine e_boxA hS2 rfl (fun b3 w3 (hS3 : St _ _ [.blk b3 (.cells #[.int .i64 b.1, .int .i64 b.2.1, .string (bs b.2.2)] 51), _] _) => ?_)
 clear hS2
 refine hK _ _ ?_; clear hK K
 refine l_e rfl (fun K hK => ?_)
 refine e_alloc (zv := .agg #[.int .i64 0, .int .i64 0, .string ⟨#[]⟩]) hS3 (by kernel_rfl) (fun b4 w4 (hS4 : St _ _ [.blk b4 (.cells #[.int .i64 (0 : Int), .int .i64 (0 : Int), .string (bs [])] 51), _, _] _) => ?_)
 clear hS3
 refine hK _ _ ?_; clear hK K
 refine l_e rfl (fun K hK => ?_)
 refine e_alloc (zv := .agg #[.int .i64 0, .int .i64 0]) hS4 (by kernel_rfl) (fun b5 w5 (hS5 : St _ _ [.blk b5 (.cells #[.int .i64 (0 : Int), .int .i64 (0 : Int)] 72), _, _, _] _) => ?_)
 clear hS4
 refine hK _ _ ?_; clear hK K
 refine l_nil ?_
 refine hK1 _ _ ?_
 refine wp_seq_k (fun K6 hK6 => ?_)
 refine wp_seq_k (fun K7 hK7 => ?_)
 refine wp_region_lit ?_
 refine l_q rfl rfl (q_moveI rfl) ?_
 refine l_q rfl rfl (q_lss rfl rfl) ?_
 refine l_q rfl rfl (q_moveB rfl) ?_
 refine l_on rfl rfl (by decide) ?_
 refine l_q rfl rfl (q_moveI rfl) ?_
 refine l_on rfl rfl (by decide) ?_
 refine l_q rfl rfl (q_gtr rfl rfl) ?_
 refine l_q rfl rfl (q_pickF rfl (by decide) rfl) ?_
 refine l_nil ?_
 refine hK7 _ _ ?_
 refine c_condF rfl (by decide) ?_
 refine wp_skip ?_
 refine hK6 _ _ ?_
 refine wp_seq_k (fun K9 hK9 => ?_)
 refine wp_region_lit ?_
 refine l_q rfl rfl (q_loadA (m := 3) rfl (by kernel_rfl) (by kernel_rfl) (hS5.blk (i := 3) rfl) rfl rfl) ?_
 refine l_e rfl (fun K hK => ?_)
 refine e_call (by kernel_rfl) (rright_ok a haB _) rfl (after_R hS5 (fun v10 w10 hv10 hS10 => ?_))
 clear hS5
 obtain rfl := hv10
 refine hK _ _ ?_; clear hK K
 refine l_q rfl rfl (q_assignB rfl) ?_
 refine l_nil ?_
 refine hK9 _ _ ?_
 refine wp_seq_k (fun K11 hK11 => ?_)
 refine wp_region_lit ?_
 refine l_q rfl rfl (q_loadA (m := 3) rfl (by kernel_rfl) (by kernel_rfl) (hS10.blk (i := 2) rfl) rfl rfl) ?_
 refine l_e rfl (fun K hK => ?_)
 refine e_call (by kernel_rfl) (rright_ok b hbB _) rfl (after_R hS10 (fun v12 w12 hv12 hS12 => ?_))
 clear hS10
 obtain rfl := hv12
 refine hK _ _ ?_; clear hK K
 refine l_q rfl rfl (q_assignB rfl) ?_
 refine l_nil ?_
 refine hK11 _ _ ?_
 refine wp_seq_k (fun K13 hK13 => ?_)
 refine wp_block ?_
 refine wp_seq_k (fun K14 hK14 => ?_)
 refine wp_region_lit ?_
 refine l_q rfl rfl (q_moveB rfl) ?_
 refine l_q rfl rfl (q_not rfl) ?_
 refine l_q rfl rfl (q_assignB rfl) ?_
 refine l_nil ?_
 refine hK14 _ _ ?_
 refine c_condF rfl (by rw [show _ = _ from h1]; rfl) ?_
 refine wp_seq_k (fun K16 hK16 => ?_)
 refine wp_region_lit ?_
 refine l_q rfl rfl (q_moveB rfl) ?_
 refine l_q rfl rfl (q_not rfl) ?_
 refine l_q rfl rfl (q_assignB rfl) ?_
 refine l_nil ?_
 refine hK16 _ _ ?_
 refine c_condF rfl (by rw [show _ = _ from h2]; rfl) ?_
 refine wp_seq_k (fun K18 hK18 => ?_)
 refine wp_region_lit ?_
 refine l_q rfl rfl (q_fieldAddr (ft := 49) (o := 0) rfl (by kernel_rfl)) ?_
 refine l_q rfl rfl (q_load1 rfl (by kernel_rfl) (hS12.cell (i := 3) rfl rfl)) ?_
 refine l_q rfl rfl (q_eql rfl rfl) ?_
 refine l_q rfl rfl (q_moveB rfl) ?_
 refine l_on rfl rfl (decide_eq_false h3) ?_
 refine l_q rfl rfl (q_fieldAddr (ft := 49) (o := 0) rfl (by kernel_rfl)) ?_
 refine l_on rfl rfl (decide_eq_false h3) ?_
 refine l_q rfl rfl (q_load1 rfl (by kernel_rfl) (hS12.cell (i := 2) rfl rfl)) ?_
 refine l_on rfl rfl (decide_eq_false h3) ?_
 refine l_q rfl rfl (q_eql rfl rfl) ?_
 refine l_q rfl rfl (q_pickF rfl (decide_eq_false h3) rfl) ?_
 refine l_q rfl rfl (q_assignB rfl) ?_
 refine l_nil ?_
 refine hK18 _ _ ?_
 refine c_condF rfl (decide_eq_false h4) ?_
 refine wp_skip ?_
 refine hK13 _ _ ?_
 refine wp_seq_k (fun K21 hK21 => ?_)
 refine wp_region_lit ?_
 refine l_q rfl rfl (q_loadA (m := 3) rfl (by kernel_rfl) (by kernel_rfl) (hS12.blk (i := 3) rfl) rfl rfl) ?_
 refine l_q rfl rfl (q_loadA (m := 3) rfl (by kernel_rfl) (by kernel_rfl) (hS12.blk (i := 2) rfl) rfl rfl) ?_
 refine l_e rfl (fun K hK => ?_)
 refine e_call (by kernel_rfl) (rsign_ok a b haB hbB han0 han1 hbn0 hbn1 _) rfl (after_R hS12 (fun v22 w22 hv22 hS22 => ?_))
 clear hS12
 obtain rfl := hv22
 refine hK _ _ ?_; clear hK K
 refine l_q rfl rfl (q_move rfl) ?_
 refine l_q rfl rfl (q_extract rfl rfl) ?_
 refine l_q rfl rfl (q_extract rfl rfl) ?_
 refine l_e rfl (fun K hK => ?_)
 refine e_alloc (zv := .agg #[.int .i64 0, .int .i64 0]) hS22 (by kernel_rfl) (fun b23 w23 (hS23 : St _ _ [.blk b23 (.cells #[.int .i64 (0 : Int), .int .i64 (0 : Int)] 72), _, _, _, _] _) => ?_)
 clear hS22
 refine hK _ _ ?_; clear hK K
 refine l_q rfl rfl (q_assignI rfl) ?_
 refine l_e rfl (fun K hK => ?_)
 refine e_storeA hS23 rfl rfl (by kernel_rfl) (by repeat' (first | exact trivial | refine ⟨by first | rfl | assumption | exact one_if (by assumption), ?_⟩)) (i := 0) rfl rfl (fun w24 (hS24 : St _ _ [.blk b23 (.cells #[.int .i64 (sg03 a b).2.1, .int .i64 (sg03 a b).2.2] 72), _, _, _, _] _) => ?_)
 clear hS23
 refine hK _ _ ?_; clear hK K
 refine l_nil ?_
 refine hK21 _ _ ?_
 refine wp_seq_k (fun K25 hK25 => ?_)
 refine wp_seq_k (fun K26 hK26 => ?_)
 refine wp_region_lit ?_
 refine l_q rfl rfl (q_fieldAddr (ft := 23) (o := 0) rfl (by kernel_rfl)) ?_
 refine l_q rfl rfl (q_load1 rfl (by kernel_rfl) (hS24.cell (i := 0) rfl rfl)) ?_
 refine l_q rfl rfl (q_neq rfl rfl) ?_
 refine l_nil ?_
 refine hK26 _ _ ?_
 refine c_condF rfl (by rw [h5]; rfl) ?_
 refine wp_skip ?_
 refine hK25 _ _ ?_
 refine wp_seq_k (fun K28 hK28 => ?_)
 refine wp_region_lit ?_
 refine l_q rfl rfl (q_moveI rfl) ?_
 refine l_q rfl rfl (q_eql rfl rfl) ?_
 refine l_q rfl rfl (q_moveB rfl) ?_
 refine l_off rfl rfl rfl (by decide) ?_
 refine l_off rfl rfl rfl (by decide) ?_
 refine l_q rfl rfl (q_pickF rfl (by decide) rfl) ?_
 refine l_q rfl rfl (q_moveB rfl) ?_
 refine l_on rfl rfl rfl ?_
 refine l_q rfl rfl (q_moveI rfl) ?_
 refine l_on rfl rfl rfl ?_
 refine l_q rfl rfl (q_eql rfl rfl) ?_
 refine l_on rfl rfl rfl ?_
 refine l_q rfl rfl (q_moveB rfl) ?_
 refine l_off rfl rfl rfl (by decide) ?_
 refine l_off rfl rfl rfl (by decide) ?_
 refine l_on rfl rfl rfl ?_
 refine l_q rfl rfl (q_pickF rfl (by decide) rfl) ?_
 refine l_q rfl rfl (q_pickF rfl rfl rfl) ?_
 refine l_q rfl rfl (q_moveB rfl) ?_
 refine l_on rfl rfl rfl ?_
 refine l_q rfl rfl (q_moveI rfl) ?_
 refine l_on rfl rfl rfl ?_
 refine l_q rfl rfl (q_eql rfl rfl) ?_
 refine l_on rfl rfl rfl ?_
 refine l_q rfl rfl (q_moveB rfl) ?_
 refine l_on rfl rfl (by decide) ?_
 refine l_q rfl rfl (q_moveI rfl) ?_
 refine l_on rfl rfl (by decide) ?_
 refine l_q rfl rfl (q_lss rfl rfl) ?_
 refine l_on rfl rfl rfl ?_
 refine l_q rfl rfl (q_pickT rfl (by decide) rfl) ?_
 refine l_q rfl rfl (q_pickF rfl rfl rfl) ?_
 refine l_q rfl rfl (q_moveB rfl) ?_
 refine g_splitL (t := 79) rfl (fun hg29 => ?_) (fun hg29 => ?_)
 ·
  have hg29b := hg29
  try simp only [decide_eq_true_eq, decide_eq_false_iff_not, Bool.not_eq_true', Bool.not_eq_false', Bool.and_eq_true, Bool.or_eq_true, Int.not_lt, Int.not_le, ne_eq, Decidable.not_not] at hg29
  refine l_off rfl rfl rfl hg29b ?_
  refine l_off rfl rfl rfl hg29b ?_
  refine l_off rfl rfl rfl hg29b ?_
  refine l_offN rfl rfl rfl ?_
  refine l_offN rfl rfl rfl ?_
  refine l_off rfl rfl rfl hg29b ?_
  refine l_q rfl rfl (q_pickT rfl hg29b rfl) ?_
  refine l_q rfl rfl (q_moveB rfl) ?_
  refine l_off rfl rfl rfl rfl ?_
  refine l_off rfl rfl rfl rfl ?_
  refine l_off rfl rfl rfl rfl ?_
  refine l_offN rfl rfl rfl ?_
  refine l_offN rfl rfl rfl ?_
  refine l_off rfl rfl rfl rfl ?_
  refine l_q rfl rfl (q_pickT rfl rfl rfl) ?_
  refine l_q rfl rfl (q_moveB rfl) ?_
  refine l_off rfl rfl rfl rfl ?_
  refine l_off rfl rfl rfl rfl ?_
  refine l_off rfl rfl rfl rfl ?_
  refine l_offN rfl rfl rfl ?_
  refine l_offN rfl rfl rfl ?_
  refine l_off rfl rfl rfl rfl ?_
  refine l_q rfl rfl (q_pickT rfl rfl rfl) ?_
  refine l_q rfl rfl (q_assignB rfl) ?_
  refine l_nil ?_
  refine hK28 _ _ ?_
  refine wp_seq_k (fun K30 hK30 => ?_)
  refine wp_seq_k (fun K31 hK31 => ?_)
  refine wp_region_lit ?_
  refine l_q rfl rfl (q_moveB rfl) ?_
  refine l_nil ?_
  refine hK31 _ _ ?_
  refine c_condT rfl rfl ?_
  refine wp_seq_k (fun K33 hK33 => ?_)
  refine wp_region_lit ?_
  refine l_e rfl (fun K hK => ?_)
  refine e_call (by kernel_rfl) (rof1_ok _) rfl (after_R hS24 (fun v34 w34 hv34 hS34 => ?_))
  clear hS24
  obtain rfl := hv34
  refine hK _ _ ?_; clear hK K
  refine l_e rfl (fun K hK => ?_)
  refine e_call (by kernel_rfl) (fine_ok _) rfl (after_R hS34 (fun v35 w35 hv35 hS35 => ?_))
  clear hS34
  obtain rfl := hv35
  refine hK _ _ ?_; clear hK K
  refine l_e rfl (fun K hK => ?_)
  refine e_storeA hS35 rfl rfl (by kernel_rfl) (by repeat' (first | exact trivial | refine ⟨by first | rfl | assumption | exact one_if (by assumption), ?_⟩)) (i := 2) rfl rfl (fun w36 (hS36 : St _ _ [_, _, .blk b4 (.cells #[.int .i64 (1 : Int), .int .i64 (1 : Int), .string (bs [])] 51), _, _] _) => ?_)
  clear hS35
  refine hK _ _ ?_; clear hK K
  refine l_e rfl (fun K hK => ?_)
  refine e_storeA hS36 rfl rfl (by kernel_rfl) (by repeat' (first | exact trivial | refine ⟨by first | rfl | assumption | exact one_if (by assumption), ?_⟩)) (i := 1) rfl rfl (fun w37 (hS37 : St _ _ [_, .blk b5 (.cells #[.int .i64 (0 : Int), .int .i64 (-1 : Int)] 72), _, _, _] _) => ?_)
  clear hS36
  refine hK _ _ ?_; clear hK K
  refine l_nil ?_
  refine hK33 _ _ ?_
  refine wp_ret ?_
  refine c_retCC (m := 3) (m2 := 2) rfl (by kernel_rfl) (by kernel_rfl) (by kernel_rfl) (by kernel_rfl) rfl rfl (hS37.blk (i := 2) rfl) (hS37.blk (i := 1) rfl) rfl rfl ?_
  exact ⟨_, rfl, (by rw [c_6 (by omega) (by assumption) (by assumption) (by omega) (by omega) (decide_eq_true (by omega))]; rfl), hS37.drop⟩
 ·
  have hg29b := hg29
  try simp only [decide_eq_true_eq, decide_eq_false_iff_not, Bool.not_eq_true', Bool.not_eq_false', Bool.and_eq_true, Bool.or_eq_true, Int.not_lt, Int.not_le, ne_eq, Decidable.not_not] at hg29
  refine l_on rfl rfl hg29b ?_
  refine l_q rfl rfl (q_moveI rfl) ?_
  refine l_on rfl rfl hg29b ?_
  refine l_q rfl rfl (q_eql rfl rfl) ?_
  refine l_on rfl rfl hg29b ?_
  refine l_q rfl rfl (q_moveB rfl) ?_
  refine l_off rfl rfl rfl (by decide) ?_
  refine l_off rfl rfl rfl (by decide) ?_
  refine l_on rfl rfl hg29b ?_
  refine l_q rfl rfl (q_pickF rfl (by decide) rfl) ?_
  refine l_q rfl rfl (q_pickF rfl hg29b rfl) ?_
  refine l_q rfl rfl (q_moveB rfl) ?_
  refine l_on rfl rfl rfl ?_
  refine l_q rfl rfl (q_moveI rfl) ?_
  refine l_on rfl rfl rfl ?_
  refine l_q rfl rfl (q_eql rfl rfl) ?_
  refine l_on rfl rfl rfl ?_
  refine l_q rfl rfl (q_moveB rfl) ?_
  refine l_off rfl rfl rfl (by decide) ?_
  refine l_off rfl rfl rfl (by decide) ?_
  refine l_on rfl rfl rfl ?_
  refine l_q rfl rfl (q_pickF rfl (by decide) rfl) ?_
  refine l_q rfl rfl (q_pickF rfl rfl rfl) ?_
  refine l_q rfl rfl (q_moveB rfl) ?_
  refine l_on rfl rfl rfl ?_
  refine l_q rfl rfl (q_moveI rfl) ?_
  refine l_on rfl rfl rfl ?_
  refine l_q rfl rfl (q_eql rfl rfl) ?_
  refine l_on rfl rfl rfl ?_
  refine l_q rfl rfl (q_moveB rfl) ?_
  refine l_off rfl rfl rfl (by decide) ?_
  refine l_off rfl rfl rfl (by decide) ?_
  refine l_on rfl rfl rfl ?_
  refine l_q rfl rfl (q_pickF rfl (by decide) rfl) ?_
  refine l_q rfl rfl (q_pickF rfl rfl rfl) ?_
  refine l_q rfl rfl (q_assignB rfl) ?_
  refine l_nil ?_
  refine hK28 _ _ ?_
  refine wp_seq_k (fun K38 hK38 => ?_)
  refine wp_seq_k (fun K39 hK39 => ?_)
  refine wp_region_lit ?_
  refine l_q rfl rfl (q_moveB rfl) ?_
  refine l_nil ?_
  refine hK39 _ _ ?_
  refine c_condF rfl rfl ?_
  refine wp_skip ?_
  refine hK38 _ _ ?_
  refine wp_seq_k (fun K41 hK41 => ?_)
  refine wp_region_lit ?_
  refine l_e rfl (fun K hK => ?_)
  refine e_call (by kernel_rfl) (rof0_ok _) rfl (after_R hS24 (fun v42 w42 hv42 hS42 => ?_))
  clear hS24
  obtain rfl := hv42
  refine hK _ _ ?_; clear hK K
  refine l_e rfl (fun K hK => ?_)
  refine e_call (by kernel_rfl) (fine_ok _) rfl (after_R hS42 (fun v43 w43 hv43 hS43 => ?_))
  clear hS42
  obtain rfl := hv43
  refine hK _ _ ?_; clear hK K
  refine l_e rfl (fun K hK => ?_)
  refine e_storeA hS43 rfl rfl (by kernel_rfl) (by repeat' (first | exact trivial | refine ⟨by first | rfl | assumption | exact one_if (by assumption), ?_⟩)) (i := 2) rfl rfl (fun w44 (hS44 : St _ _ [_, _, .blk b4 (.cells #[.int .i64 (1 : Int), .int .i64 (0 : Int), .string (bs [])] 51), _, _] _) => ?_)
  clear hS43
  refine hK _ _ ?_; clear hK K
  refine l_e rfl (fun K hK => ?_)
  refine e_storeA hS44 rfl rfl (by kernel_rfl) (by repeat' (first | exact trivial | refine ⟨by first | rfl | assumption | exact one_if (by assumption), ?_⟩)) (i := 1) rfl rfl (fun w45 (hS45 : St _ _ [_, _, _, _, _] _) => ?_)
  clear hS44
  refine hK _ _ ?_; clear hK K
  refine l_nil ?_
  refine hK41 _ _ ?_
  refine wp_ret ?_
  refine c_retCC (m := 3) (m2 := 2) rfl (by kernel_rfl) (by kernel_rfl) (by kernel_rfl) (by kernel_rfl) rfl rfl (hS45.blk (i := 2) rfl) (hS45.blk (i := 1) rfl) rfl rfl ?_
  exact ⟨_, rfl, (by rw [c_7 (by omega) (by assumption) (by assumption) (by omega) (by omega) (decide_eq_false (by omega))]; rfl), hS45.drop⟩

set_option maxHeartbeats 4000000 in
set_option maxRecDepth 100000 in
theorem rcmp11 (a b : Vl) (haB : Bytes a.2.2) (hbB : Bytes b.2.2) (han0 : -9223372036854775808 ≤ a.2.1) (han1 : a.2.1 ≤ 9223372036854775807) (hbn0 : -9223372036854775808 ≤ b.2.1) (hbn1 : b.2.1 ≤ 9223372036854775807) (h1 : rightQ a = true) (h2 : rightQ b = true) (h3 : ¬a.1 = 0) (h4 : ¬b.1 = 0) (h5 : (sg03 a b).2.1 = 0) (w : World) : Calls Tryd.prog 35 #[.int .i64 11, .agg (vl a).toArray, .agg (vl b).toArray] w (PostR w fun v => v = .tuple #[.agg (vl (c03 11 a b).1).toArray, .agg #[.int .i64 (c03 11 a b).2.1, .int .i64 (c03 11 a b).2.2]]) := by
 have hS := St.start w
 refine c_enter Tryd.func35 rfl rfl rfl ?_
 refine wp_seq_k (fun K1 hK1 => ?_)
 refine wp_region_lit ?_
 refine l_e rfl (fun K hK => ?_)
 refine e_boxA hS rfl (fun b2 w2 (hS2 : St _ _ [.blk b2 (.cells #[.int .i64 a.1, .int .i64 a.2.1, .string (bs a.2.2)] 51)] _) => ?_)
 clear hS
 refine hK _ _ ?_; clear hK K
 refine l_e rfl (fun K hK => ?_)
 refine e_boxA hS2 rfl (fun b3 w3 (hS3 : St _ _ [.blk b3 (.cells #[.int .i64 b.1, .int .i64 b.2.1, .string (bs b.2.2)] 51), _] _) => ?_)
 clear hS2
 refine hK _ _ ?_; clear hK K
 refine l_e rfl (fun K hK => ?_)
 refine e_alloc (zv := .agg #[.int .i64 0, .int .i64 0, .string ⟨#[]⟩]) hS3 (by kernel_rfl) (fun b4 w4 (hS4 : St _ _ [.blk b4 (.cells #[.int .i64 (0 : Int), .int .i64 (0 : Int), .string (bs [])] 51), _, _] _) => ?_)
 clear hS3
 refine hK _ _ ?_; clear hK K
 refine l_e rfl (fun K hK => ?_)
 refine e_alloc (zv := .agg #[.int .i64 0, .int .i64 0]) hS4 (by kernel_rfl) (fun b5 w5 (hS5 : St _ _ [.blk b5 (.cells #[.int .i64 (0 : Int), .int .i64 (0 : Int)] 72), _, _, _] _) => ?_)
 clear hS4
 refine hK _ _ ?_; clear hK K
 refine l_nil ?_
 refine hK1 _ _ ?_
 refine wp_seq_k (fun K6 hK6 => ?_)
 refine wp_seq_k (fun K7 hK7 => ?_)
 refine wp_region_lit ?_
 refine l_q rfl rfl (q_moveI rfl) ?_
 refine l_q rfl rfl (q_lss rfl rfl) ?_
 refine l_q rfl rfl (q_moveB rfl) ?_
 refine l_on rfl rfl (by decide) ?_
 refine l_q rfl rfl (q_moveI rfl) ?_
 refine l_on rfl rfl (by decide) ?_
 refine l_q rfl rfl (q_gtr rfl rfl) ?_
 refine l_q rfl rfl (q_pickF rfl (by decide) rfl) ?_
 refine l_nil ?_
 refine hK7 _ _ ?_
 refine c_condF rfl (by decide) ?_
 refine wp_skip ?_
 refine hK6 _ _ ?_
 refine wp_seq_k (fun K9 hK9 => ?_)
 refine wp_region_lit ?_
 refine l_q rfl rfl (q_loadA (m := 3) rfl (by kernel_rfl) (by kernel_rfl) (hS5.blk (i := 3) rfl) rfl rfl) ?_
 refine l_e rfl (fun K hK => ?_)
 refine e_call (by kernel_rfl) (rright_ok a haB _) rfl (after_R hS5 (fun v10 w10 hv10 hS10 => ?_))
 clear hS5
 obtain rfl := hv10
 refine hK _ _ ?_; clear hK K
 refine l_q rfl rfl (q_assignB rfl) ?_
 refine l_nil ?_
 refine hK9 _ _ ?_
 refine wp_seq_k (fun K11 hK11 => ?_)
 refine wp_region_lit ?_
 refine l_q rfl rfl (q_loadA (m := 3) rfl (by kernel_rfl) (by kernel_rfl) (hS10.blk (i := 2) rfl) rfl rfl) ?_
 refine l_e rfl (fun K hK => ?_)
 refine e_call (by kernel_rfl) (rright_ok b hbB _) rfl (after_R hS10 (fun v12 w12 hv12 hS12 => ?_))
 clear hS10
 obtain rfl := hv12
 refine hK _ _ ?_; clear hK K
 refine l_q rfl rfl (q_assignB rfl) ?_
 refine l_nil ?_
 refine hK11 _ _ ?_
 refine wp_seq_k (fun K13 hK13 => ?_)
 refine wp_block ?_
 refine wp_seq_k (fun K14 hK14 => ?_)
 refine wp_region_lit ?_
 refine l_q rfl rfl (q_moveB rfl) ?_
 refine l_q rfl rfl (q_not rfl) ?_
 refine l_q rfl rfl (q_assignB rfl) ?_
 refine l_nil ?_
 refine hK14 _ _ ?_
 refine c_condF rfl (by rw [show _ = _ from h1]; rfl) ?_
 refine wp_seq_k (fun K16 hK16 => ?_)
 refine wp_region_lit ?_
 refine l_q rfl rfl (q_moveB rfl) ?_
 refine l_q rfl rfl (q_not rfl) ?_
 refine l_q rfl rfl (q_assignB rfl) ?_
 refine l_nil ?_
 refine hK16 _ _ ?_
 refine c_condF rfl (by rw [show _ = _ from h2]; rfl) ?_
 refine wp_seq_k (fun K18 hK18 => ?_)
 refine wp_region_lit ?_
 refine l_q rfl rfl (q_fieldAddr (ft := 49) (o := 0) rfl (by kernel_rfl)) ?_
 refine l_q rfl rfl (q_load1 rfl (by kernel_rfl) (hS12.cell (i := 3) rfl rfl)) ?_
 refine l_q rfl rfl (q_eql rfl rfl) ?_
 refine l_q rfl rfl (q_moveB rfl) ?_
 refine l_on rfl rfl (decide_eq_false h3) ?_
 refine l_q rfl rfl (q_fieldAddr (ft := 49) (o := 0) rfl (by kernel_rfl)) ?_
 refine l_on rfl rfl (decide_eq_false h3) ?_
 refine l_q rfl rfl (q_load1 rfl (by kernel_rfl) (hS12.cell (i := 2) rfl rfl)) ?_
 refine l_on rfl rfl (decide_eq_false h3) ?_
 refine l_q rfl rfl (q_eql rfl rfl) ?_
 refine l_q rfl rfl (q_pickF rfl (decide_eq_false h3) rfl) ?_
 refine l_q rfl rfl (q_assignB rfl) ?_
 refine l_nil ?_
 refine hK18 _ _ ?_
 refine c_condF rfl (decide_eq_false h4) ?_
 refine wp_skip ?_
 refine hK13 _ _ ?_
 refine wp_seq_k (fun K21 hK21 => ?_)
 refine wp_region_lit ?_
 refine l_q rfl rfl (q_loadA (m := 3) rfl (by kernel_rfl) (by kernel_rfl) (hS12.blk (i := 3) rfl) rfl rfl) ?_
 refine l_q rfl rfl (q_loadA (m := 3) rfl (by kernel_rfl) (by kernel_rfl) (hS12.blk (i := 2) rfl) rfl rfl) ?_
 refine l_e rfl (fun K hK => ?_)
 refine e_call (by kernel_rfl) (rsign_ok a b haB hbB han0 han1 hbn0 hbn1 _) rfl (after_R hS12 (fun v22 w22 hv22 hS22 => ?_))
 clear hS12
 obtain rfl := hv22
 refine hK _ _ ?_; clear hK K
 refine l_q rfl rfl (q_move rfl) ?_
 refine l_q rfl rfl (q_extract rfl rfl) ?_
 refine l_q rfl rfl (q_extract rfl rfl) ?_
 refine l_e rfl (fun K hK => ?_)
 refine e_alloc (zv := .agg #[.int .i64 0, .int .i64 0]) hS22 (by kernel_rfl) (fun b23 w23 (hS23 : St _ _ [.blk b23 (.cells #[.int .i64 (0 : Int), .int .i64 (0 : Int)] 72), _, _, _, _] _) => ?_)
 clear hS22
 refine hK _ _ ?_; clear hK K
 refine l_q rfl rfl (q_assignI rfl) ?_
 refine l_e rfl (fun K hK => ?_)
 refine e_storeA hS23 rfl rfl (by kernel_rfl) (by repeat' (first | exact trivial | refine ⟨by first | rfl | assumption | exact one_if (by assumption), ?_⟩)) (i := 0) rfl rfl (fun w24 (hS24 : St _ _ [.blk b23 (.cells #[.int .i64 (sg03 a b).2.1, .int .i64 (sg03 a b).2.2] 72), _, _, _, _] _) => ?_)
 clear hS23
 refine hK _ _ ?_; clear hK K
 refine l_nil ?_
 refine hK21 _ _ ?_
 refine wp_seq_k (fun K25 hK25 => ?_)
 refine wp_seq_k (fun K26 hK26 => ?_)
 refine wp_region_lit ?_
 refine l_q rfl rfl (q_fieldAddr (ft := 23) (o := 0) rfl (by kernel_rfl)) ?_
 refine l_q rfl rfl (q_load1 rfl (by kernel_rfl) (hS24.cell (i := 0) rfl rfl)) ?_
 refine l_q rfl rfl (q_neq rfl rfl) ?_
 refine l_nil ?_
 refine hK26 _ _ ?_
 refine c_condF rfl (by rw [h5]; rfl) ?_
 refine wp_skip ?_
 refine hK25 _ _ ?_
 refine wp_seq_k (fun K28 hK28 => ?_)
 refine wp_region_lit ?_
 refine l_q rfl rfl (q_moveI rfl) ?_
 refine l_q rfl rfl (q_eql rfl rfl) ?_
 refine l_q rfl rfl (q_moveB rfl) ?_
 refine l_off rfl rfl rfl (by decide) ?_
 refine l_off rfl rfl rfl (by decide) ?_
 refine l_q rfl rfl (q_pickF rfl (by decide) rfl) ?_
 refine l_q rfl rfl (q_moveB rfl) ?_
 refine l_on rfl rfl rfl ?_
 refine l_q rfl rfl (q_moveI rfl) ?_
 refine l_on rfl rfl rfl ?_
 refine l_q rfl rfl (q_eql rfl rfl) ?_
 refine l_on rfl rfl rfl ?_
 refine l_q rfl rfl (q_moveB rfl) ?_
 refine l_off rfl rfl rfl (by decide) ?_
 refine l_off rfl rfl rfl (by decide) ?_
 refine l_on rfl rfl rfl ?_
 refine l_q rfl rfl (q_pickF rfl (by decide) rfl) ?_
 refine l_q rfl rfl (q_pickF rfl rfl rfl) ?_
 refine l_q rfl rfl (q_moveB rfl) ?_
 refine l_on rfl rfl rfl ?_
 refine l_q rfl rfl (q_moveI rfl) ?_
 refine l_on rfl rfl rfl ?_
 refine l_q rfl rfl (q_eql rfl rfl) ?_
 refine l_on rfl rfl rfl ?_
 refine l_q rfl rfl (q_moveB rfl) ?_
 refine l_off rfl rfl rfl (by decide) ?_
 refine l_off rfl rfl rfl (by decide) ?_
 refine l_on rfl rfl rfl ?_
 refine l_q rfl rfl (q_pickF rfl (by decide) rfl) ?_
 refine l_q rfl rfl (q_pickF rfl rfl rfl) ?_
 refine l_q rfl rfl (q_moveB rfl) ?_
 refine l_on rfl rfl rfl ?_
 refine l_q rfl rfl (q_moveI rfl) ?_
 refine l_on rfl rfl rfl ?_
 refine l_q rfl rfl (q_eql rfl rfl) ?_
 refine l_on rfl rfl rfl ?_
 refine l_q rfl rfl (q_moveB rfl) ?_
 refine l_on rfl rfl (by decide) ?_
 refine l_q rfl rfl (q_moveI rfl) ?_
 refine l_on rfl rfl (by decide) ?_
 refine l_q rfl rfl (q_leq rfl rfl) ?_
 refine l_on rfl rfl rfl ?_
 refine l_q rfl rfl (q_pickT rfl (by decide) rfl) ?_
 refine l_q rfl rfl (q_pickF rfl rfl rfl) ?_
 refine l_q rfl rfl (q_moveB rfl) ?_
 refine g_splitL (t := 87) rfl (fun hg29 => ?_) (fun hg29 => ?_)
 ·
  have hg29b := hg29
  try simp only [decide_eq_true_eq, decide_eq_false_iff_not, Bool.not_eq_true', Bool.not_eq_false', Bool.and_eq_true, Bool.or_eq_true, Int.not_lt, Int.not_le, ne_eq, Decidable.not_not] at hg29
  refine l_off rfl rfl rfl hg29b ?_
  refine l_off rfl rfl rfl hg29b ?_
  refine l_off rfl rfl rfl hg29b ?_
  refine l_offN rfl rfl rfl ?_
  refine l_offN rfl rfl rfl ?_
  refine l_off rfl rfl rfl hg29b ?_
  refine l_q rfl rfl (q_pickT rfl hg29b rfl) ?_
  refine l_q rfl rfl (q_moveB rfl) ?_
  refine l_off rfl rfl rfl rfl ?_
  refine l_off rfl rfl rfl rfl ?_
  refine l_off rfl rfl rfl rfl ?_
  refine l_offN rfl rfl rfl ?_
  refine l_offN rfl rfl rfl ?_
  refine l_off rfl rfl rfl rfl ?_
  refine l_q rfl rfl (q_pickT rfl rfl rfl) ?_
  refine l_q rfl rfl (q_assignB rfl) ?_
  refine l_nil ?_
  refine hK28 _ _ ?_
  refine wp_seq_k (fun K30 hK30 => ?_)
  refine wp_seq_k (fun K31 hK31 => ?_)
  refine wp_region_lit ?_
  refine l_q rfl rfl (q_moveB rfl) ?_
  refine l_nil ?_
  refine hK31 _ _ ?_
  refine c_condT rfl rfl ?_
  refine wp_seq_k (fun K33 hK33 => ?_)
  refine wp_region_lit ?_
  refine l_e rfl (fun K hK => ?_)
  refine e_call (by kernel_rfl) (rof1_ok _) rfl (after_R hS24 (fun v34 w34 hv34 hS34 => ?_))
  clear hS24
  obtain rfl := hv34
  refine hK _ _ ?_; clear hK K
  refine l_e rfl (fun K hK => ?_)
  refine e_call (by kernel_rfl) (fine_ok _) rfl (after_R hS34 (fun v35 w35 hv35 hS35 => ?_))
  clear hS34
  obtain rfl := hv35
  refine hK _ _ ?_; clear hK K
  refine l_e rfl (fun K hK => ?_)
  refine e_storeA hS35 rfl rfl (by kernel_rfl) (by repeat' (first | exact trivial | refine ⟨by first | rfl | assumption | exact one_if (by assumption), ?_⟩)) (i := 2) rfl rfl (fun w36 (hS36 : St _ _ [_, _, .blk b4 (.cells #[.int .i64 (1 : Int), .int .i64 (1 : Int), .string (bs [])] 51), _, _] _) => ?_)
  clear hS35
  refine hK _ _ ?_; clear hK K
  refine l_e rfl (fun K hK => ?_)
  refine e_storeA hS36 rfl rfl (by kernel_rfl) (by repeat' (first | exact trivial | refine ⟨by first | rfl | assumption | exact one_if (by assumption), ?_⟩)) (i := 1) rfl rfl (fun w37 (hS37 : St _ _ [_, .blk b5 (.cells #[.int .i64 (0 : Int), .int .i64 (-1 : Int)] 72), _, _, _] _) => ?_)
  clear hS36
  refine hK _ _ ?_; clear hK K
  refine l_nil ?_
  refine hK33 _ _ ?_
  refine wp_ret ?_
  refine c_retCC (m := 3) (m2 := 2) rfl (by kernel_rfl) (by kernel_rfl) (by kernel_rfl) (by kernel_rfl) rfl rfl (hS37.blk (i := 2) rfl) (hS37.blk (i := 1) rfl) rfl rfl ?_
  exact ⟨_, rfl, (by rw [c_6 (by omega) (by assumption) (by assumption) (by omega) (by omega) (decide_eq_true (by omega))]; rfl), hS37.drop⟩
 ·
  have hg29b := hg29
  try simp only [decide_eq_true_eq, decide_eq_false_iff_not, Bool.not_eq_true', Bool.not_eq_false', Bool.and_eq_true, Bool.or_eq_true, Int.not_lt, Int.not_le, ne_eq, Decidable.not_not] at hg29
  refine l_on rfl rfl hg29b ?_
  refine l_q rfl rfl (q_moveI rfl) ?_
  refine l_on rfl rfl hg29b ?_
  refine l_q rfl rfl (q_eql rfl rfl) ?_
  refine l_on rfl rfl hg29b ?_
  refine l_q rfl rfl (q_moveB rfl) ?_
  refine l_off rfl rfl rfl (by decide) ?_
  refine l_off rfl rfl rfl (by decide) ?_
  refine l_on rfl rfl hg29b ?_
  refine l_q rfl rfl (q_pickF rfl (by decide) rfl) ?_
  refine l_q rfl rfl (q_pickF rfl hg29b rfl) ?_
  refine l_q rfl rfl (q_moveB rfl) ?_
  refine l_on rfl rfl rfl ?_
  refine l_q rfl rfl (q_moveI rfl) ?_
  refine l_on rfl rfl rfl ?_
  refine l_q rfl rfl (q_eql rfl rfl) ?_
  refine l_on rfl rfl rfl ?_
  refine l_q rfl rfl (q_moveB rfl) ?_
  refine l_off rfl rfl rfl (by decide) ?_
  refine l_off rfl rfl rfl (by decide) ?_
  refine l_on rfl rfl rfl ?_
  refine l_q rfl rfl (q_pickF rfl (by decide) rfl) ?_
  refine l_q rfl rfl (q_pickF rfl rfl rfl) ?_
  refine l_q rfl rfl (q_assignB rfl) ?_
  refine l_nil ?_
  refine hK28 _ _ ?_
  refine wp_seq_k (fun K38 hK38 => ?_)
  refine wp_seq_k (fun K39 hK39 => ?_)
  refine wp_region_lit ?_
  refine l_q rfl rfl (q_moveB rfl) ?_
  refine l_nil ?_
  refine hK39 _ _ ?_
  refine c_condF rfl rfl ?_
  refine wp_skip ?_
  refine hK38 _ _ ?_
  refine wp_seq_k (fun K41 hK41 => ?_)
  refine wp_region_lit ?_
  refine l_e rfl (fun K hK => ?_)
  refine e_call (by kernel_rfl) (rof0_ok _) rfl (after_R hS24 (fun v42 w42 hv42 hS42 => ?_))
  clear hS24
  obtain rfl := hv42
  refine hK _ _ ?_; clear hK K
  refine l_e rfl (fun K hK => ?_)
  refine e_call (by kernel_rfl) (fine_ok _) rfl (after_R hS42 (fun v43 w43 hv43 hS43 => ?_))
  clear hS42
  obtain rfl := hv43
  refine hK _ _ ?_; clear hK K
  refine l_e rfl (fun K hK => ?_)
  refine e_storeA hS43 rfl rfl (by kernel_rfl) (by repeat' (first | exact trivial | refine ⟨by first | rfl | assumption | exact one_if (by assumption), ?_⟩)) (i := 2) rfl rfl (fun w44 (hS44 : St _ _ [_, _, .blk b4 (.cells #[.int .i64 (1 : Int), .int .i64 (0 : Int), .string (bs [])] 51), _, _] _) => ?_)
  clear hS43
  refine hK _ _ ?_; clear hK K
  refine l_e rfl (fun K hK => ?_)
  refine e_storeA hS44 rfl rfl (by kernel_rfl) (by repeat' (first | exact trivial | refine ⟨by first | rfl | assumption | exact one_if (by assumption), ?_⟩)) (i := 1) rfl rfl (fun w45 (hS45 : St _ _ [_, _, _, _, _] _) => ?_)
  clear hS44
  refine hK _ _ ?_; clear hK K
  refine l_nil ?_
  refine hK41 _ _ ?_
  refine wp_ret ?_
  refine c_retCC (m := 3) (m2 := 2) rfl (by kernel_rfl) (by kernel_rfl) (by kernel_rfl) (by kernel_rfl) rfl rfl (hS45.blk (i := 2) rfl) (hS45.blk (i := 1) rfl) rfl rfl ?_
  exact ⟨_, rfl, (by rw [c_7 (by omega) (by assumption) (by assumption) (by omega) (by omega) (decide_eq_false (by omega))]; rfl), hS45.drop⟩

set_option maxHeartbeats 4000000 in
set_option maxRecDepth 100000 in
theorem rcmp12 (a b : Vl) (haB : Bytes a.2.2) (hbB : Bytes b.2.2) (han0 : -9223372036854775808 ≤ a.2.1) (han1 : a.2.1 ≤ 9223372036854775807) (hbn0 : -9223372036854775808 ≤ b.2.1) (hbn1 : b.2.1 ≤ 9223372036854775807) (h1 : rightQ a = true) (h2 : rightQ b = true) (h3 : ¬a.1 = 0) (h4 : ¬b.1 = 0) (h5 : (sg03 a b).2.1 = 0) (w : World) : Calls Tryd.prog 35 #[.int .i64 12, .agg (vl a).toArray, .agg (vl b).toArray] w (PostR w fun v => v = .tuple #[.agg (vl (c03 12 a b).1).toArray, .agg #[.int .i64 (c03 12 a b).2.1, .int .i64 (c03 12 a b).2.2]]) := by
 have hS := St.start w
 refine c_enter Tryd.func35 rfl rfl rfl ?_
 refine wp_seq_k (fun K1 hK1 => ?_)
 refine wp_region_lit ?_
 refine l_e rfl (fun K hK => ?_)
 refine e_boxA hS rfl (fun b2 w2 (hS2 : St _ _ [.blk b2 (.cells #[.int .i64 a.1, .int .i64 a.2.1, .string (bs a.2.2)] 51)] _) => ?_)
 clear hS
 refine hK _ _ ?_; clear hK K
 refine l_e rfl (fun K hK => ?_)
 refine e_boxA hS2 rfl (fun b3 w3 (hS3 : St _ _ [.blk b3 (.cells #[.int .i64 b.1, .int .i64 b.2.1, .string (bs b.2.2)] 51), _] _) => ?_)
 clear hS2
 refine hK _ _ ?_; clear hK K
 refine l_e rfl (fun K hK => ?_)
 refine e_alloc (zv := .agg #[.int .i64 0, .int .i64 0, .string ⟨#[]⟩]) hS3 (by kernel_rfl) (fun b4 w4 (hS4 : St _ _ [.blk b4 (.cells #[.int .i64 (0 : Int), .int .i64 (0 : Int), .string (bs [])] 51), _, _] _) => ?_)
 clear hS3
 refine hK _ _ ?_; clear hK K
 refine l_e rfl (fun K hK => ?_)
 refine e_alloc (zv := .agg #[.int .i64 0, .int .i64 0]) hS4 (by kernel_rfl) (fun b5 w5 (hS5 : St _ _ [.blk b5 (.cells #[.int .i64 (0 : Int), .int .i64 (0 : Int)] 72), _, _, _] _) => ?_)
 clear hS4
 refine hK _ _ ?_; clear hK K
 refine l_nil ?_
 refine hK1 _ _ ?_
 refine wp_seq_k (fun K6 hK6 => ?_)
 refine wp_seq_k (fun K7 hK7 => ?_)
 refine wp_region_lit ?_
 refine l_q rfl rfl (q_moveI rfl) ?_
 refine l_q rfl rfl (q_lss rfl rfl) ?_
 refine l_q rfl rfl (q_moveB rfl) ?_
 refine l_on rfl rfl (by decide) ?_
 refine l_q rfl rfl (q_moveI rfl) ?_
 refine l_on rfl rfl (by decide) ?_
 refine l_q rfl rfl (q_gtr rfl rfl) ?_
 refine l_q rfl rfl (q_pickF rfl (by decide) rfl) ?_
 refine l_nil ?_
 refine hK7 _ _ ?_
 refine c_condF rfl (by decide) ?_
 refine wp_skip ?_
 refine hK6 _ _ ?_
 refine wp_seq_k (fun K9 hK9 => ?_)
 refine wp_region_lit ?_
 refine l_q rfl rfl (q_loadA (m := 3) rfl (by kernel_rfl) (by kernel_rfl) (hS5.blk (i := 3) rfl) rfl rfl) ?_
 refine l_e rfl (fun K hK => ?_)
 refine e_call (by kernel_rfl) (rright_ok a haB _) rfl (after_R hS5 (fun v10 w10 hv10 hS10 => ?_))
 clear hS5
 obtain rfl := hv10
 refine hK _ _ ?_; clear hK K
 refine l_q rfl rfl (q_assignB rfl) ?_
 refine l_nil ?_
 refine hK9 _ _ ?_
 refine wp_seq_k (fun K11 hK11 => ?_)
 refine wp_region_lit ?_
 refine l_q rfl rfl (q_loadA (m := 3) rfl (by kernel_rfl) (by kernel_rfl) (hS10.blk (i := 2) rfl) rfl rfl) ?_
 refine l_e rfl (fun K hK => ?_)
 refine e_call (by kernel_rfl) (rright_ok b hbB _) rfl (after_R hS10 (fun v12 w12 hv12 hS12 => ?_))
 clear hS10
 obtain rfl := hv12
 refine hK _ _ ?_; clear hK K
 refine l_q rfl rfl (q_assignB rfl) ?_
 refine l_nil ?_
 refine hK11 _ _ ?_
 refine wp_seq_k (fun K13 hK13 => ?_)
 refine wp_block ?_
 refine wp_seq_k (fun K14 hK14 => ?_)
 refine wp_region_lit ?_
 refine l_q rfl rfl (q_moveB rfl) ?_
 refine l_q rfl rfl (q_not rfl) ?_
 refine l_q rfl rfl (q_assignB rfl) ?_
 refine l_nil ?_
 refine hK14 _ _ ?_
 refine c_condF rfl (by rw [show _ = _ from h1]; rfl) ?_
 refine wp_seq_k (fun K16 hK16 => ?_)
 refine wp_region_lit ?_
 refine l_q rfl rfl (q_moveB rfl) ?_
 refine l_q rfl rfl (q_not rfl) ?_
 refine l_q rfl rfl (q_assignB rfl) ?_
 refine l_nil ?_
 refine hK16 _ _ ?_
 refine c_condF rfl (by rw [show _ = _ from h2]; rfl) ?_
 refine wp_seq_k (fun K18 hK18 => ?_)
 refine wp_region_lit ?_
 refine l_q rfl rfl (q_fieldAddr (ft := 49) (o := 0) rfl (by kernel_rfl)) ?_
 refine l_q rfl rfl (q_load1 rfl (by kernel_rfl) (hS12.cell (i := 3) rfl rfl)) ?_
 refine l_q rfl rfl (q_eql rfl rfl) ?_
 refine l_q rfl rfl (q_moveB rfl) ?_
 refine l_on rfl rfl (decide_eq_false h3) ?_
 refine l_q rfl rfl (q_fieldAddr (ft := 49) (o := 0) rfl (by kernel_rfl)) ?_
 refine l_on rfl rfl (decide_eq_false h3) ?_
 refine l_q rfl rfl (q_load1 rfl (by kernel_rfl) (hS12.cell (i := 2) rfl rfl)) ?_
 refine l_on rfl rfl (decide_eq_false h3) ?_
 refine l_q rfl rfl (q_eql rfl rfl) ?_
 refine l_q rfl rfl (q_pickF rfl (decide_eq_false h3) rfl) ?_
 refine l_q rfl rfl (q_assignB rfl) ?_
 refine l_nil ?_
 refine hK18 _ _ ?_
 refine c_condF rfl (decide_eq_false h4) ?_
 refine wp_skip ?_
 refine hK13 _ _ ?_
 refine wp_seq_k (fun K21 hK21 => ?_)
 refine wp_region_lit ?_
 refine l_q rfl rfl (q_loadA (m := 3) rfl (by kernel_rfl) (by kernel_rfl) (hS12.blk (i := 3) rfl) rfl rfl) ?_
 refine l_q rfl rfl (q_loadA (m := 3) rfl (by kernel_rfl) (by kernel_rfl) (hS12.blk (i := 2) rfl) rfl rfl) ?_
 refine l_e rfl (fun K hK => ?_)
 refine e_call (by kernel_rfl) (rsign_ok a b haB hbB han0 han1 hbn0 hbn1 _) rfl (after_R hS12 (fun v22 w22 hv22 hS22 => ?_))
 clear hS12
 obtain rfl := hv22
 refine hK _ _ ?_; clear hK K
 refine l_q rfl rfl (q_move rfl) ?_
 refine l_q rfl rfl (q_extract rfl rfl) ?_
 refine l_q rfl rfl (q_extract rfl rfl) ?_
 refine l_e rfl (fun K hK => ?_)
 refine e_alloc (zv := .agg #[.int .i64 0, .int .i64 0]) hS22 (by kernel_rfl) (fun b23 w23 (hS23 : St _ _ [.blk b23 (.cells #[.int .i64 (0 : Int), .int .i64 (0 : Int)] 72), _, _, _, _] _) => ?_)
 clear hS22
 refine hK _ _ ?_; clear hK K
 refine l_q rfl rfl (q_assignI rfl) ?_
 refine l_e rfl (fun K hK => ?_)
 refine e_storeA hS23 rfl rfl (by kernel_rfl) (by repeat' (first | exact trivial | refine ⟨by first | rfl | assumption | exact one_if (by assumption), ?_⟩)) (i := 0) rfl rfl (fun w24 (hS24 : St _ _ [.blk b23 (.cells #[.int .i64 (sg03 a b).2.1, .int .i64 (sg03 a b).2.2] 72), _, _, _, _] _) => ?_)
 clear hS23
 refine hK _ _ ?_; clear hK K
 refine l_nil ?_
 refine hK21 _ _ ?_
 refine wp_seq_k (fun K25 hK25 => ?_)
 refine wp_seq_k (fun K26 hK26 => ?_)
 refine wp_region_lit ?_
 refine l_q rfl rfl (q_fieldAddr (ft := 23) (o := 0) rfl (by kernel_rfl)) ?_
 refine l_q rfl rfl (q_load1 rfl (by kernel_rfl) (hS24.cell (i := 0) rfl rfl)) ?_
 refine l_q rfl rfl (q_neq rfl rfl) ?_
 refine l_nil ?_
 refine hK26 _ _ ?_
 refine c_condF rfl (by rw [h5]; rfl) ?_
 refine wp_skip ?_
 refine hK25 _ _ ?_
 refine wp_seq_k (fun K28 hK28 => ?_)
 refine wp_region_lit ?_
 refine l_q rfl rfl (q_moveI rfl) ?_
 refine l_q rfl rfl (q_eql rfl rfl) ?_
 refine l_q rfl rfl (q_moveB rfl) ?_
 refine l_off rfl rfl rfl (by decide) ?_
 refine l_off rfl rfl rfl (by decide) ?_
 refine l_q rfl rfl (q_pickF rfl (by decide) rfl) ?_
 refine l_q rfl rfl (q_moveB rfl) ?_
 refine l_on rfl rfl rfl ?_
 refine l_q rfl rfl (q_moveI rfl) ?_
 refine l_on rfl rfl rfl ?_
 refine l_q rfl rfl (q_eql rfl rfl) ?_
 refine l_on rfl rfl rfl ?_
 refine l_q rfl rfl (q_moveB rfl) ?_
 refine l_off rfl rfl rfl (by decide) ?_
 refine l_off rfl rfl rfl (by decide) ?_
 refine l_on rfl rfl rfl ?_
 refine l_q rfl rfl (q_pickF rfl (by decide) rfl) ?_
 refine l_q rfl rfl (q_pickF rfl rfl rfl) ?_
 refine l_q rfl rfl (q_moveB rfl) ?_
 refine l_on rfl rfl rfl ?_
 refine l_q rfl rfl (q_moveI rfl) ?_
 refine l_on rfl rfl rfl ?_
 refine l_q rfl rfl (q_eql rfl rfl) ?_
 refine l_on rfl rfl rfl ?_
 refine l_q rfl rfl (q_moveB rfl) ?_
 refine l_off rfl rfl rfl (by decide) ?_
 refine l_off rfl rfl rfl (by decide) ?_
 refine l_on rfl rfl rfl ?_
 refine l_q rfl rfl (q_pickF rfl (by decide) rfl) ?_
 refine l_q rfl rfl (q_pickF rfl rfl rfl) ?_
 refine l_q rfl rfl (q_moveB rfl) ?_
 refine l_on rfl rfl rfl ?_
 refine l_q rfl rfl (q_moveI rfl) ?_
 refine l_on rfl rfl rfl ?_
 refine l_q rfl rfl (q_eql rfl rfl) ?_
 refine l_on rfl rfl rfl ?_
 refine l_q rfl rfl (q_moveB rfl) ?_
 refine l_off rfl rfl rfl (by decide) ?_
 refine l_off rfl rfl rfl (by decide) ?_
 refine l_on rfl rfl rfl ?_
 refine l_q rfl rfl (q_pickF rfl (by decide) rfl) ?_
 refine l_q rfl rfl (q_pickF rfl rfl rfl) ?_
 refine l_q rfl rfl (q_moveB rfl) ?_
 refine l_on rfl rfl rfl ?_
 refine l_q rfl rfl (q_moveI rfl) ?_
 refine l_on rfl rfl rfl ?_
 refine l_q rfl rfl (q_eql rfl rfl) ?_
 refine l_on rfl rfl rfl ?_
 refine l_q rfl rfl (q_moveB rfl) ?_
 refine l_on rfl rfl (by decide) ?_
 refine l_q rfl rfl (q_moveI rfl) ?_
 refine l_on rfl rfl (by decide) ?_
 refine l_q rfl rfl (q_gtr rfl rfl) ?_
 refine l_on rfl rfl rfl ?_
 refine l_q rfl rfl (q_pickT rfl (by decide) rfl) ?_
 refine l_q rfl rfl (q_pickF rfl rfl rfl) ?_
 refine l_q rfl rfl (q_moveB rfl) ?_
 refine g_splitL (t := 95) rfl (fun hg29 => ?_) (fun hg29 => ?_)
 ·
  have hg29b := hg29
  try simp only [decide_eq_true_eq, decide_eq_false_iff_not, Bool.not_eq_true', Bool.not_eq_false', Bool.and_eq_true, Bool.or_eq_true, Int.not_lt, Int.not_le, ne_eq, Decidable.not_not] at hg29
  refine l_off rfl rfl rfl hg29b ?_
  refine l_off rfl rfl rfl hg29b ?_
  refine l_off rfl rfl rfl hg29b ?_
  refine l_offN rfl rfl rfl ?_
  refine l_offN rfl rfl rfl ?_
  refine l_off rfl rfl rfl hg29b ?_
  refine l_q rfl rfl (q_pickT rfl hg29b rfl) ?_
  refine l_q rfl rfl (q_assignB rfl) ?_
  refine l_nil ?_
  refine hK28 _ _ ?_
  refine wp_seq_k (fun K30 hK30 => ?_)
  refine wp_seq_k (fun K31 hK31 => ?_)
  refine wp_region_lit ?_
  refine l_q rfl rfl (q_moveB rfl) ?_
  refine l_nil ?_
  refine hK31 _ _ ?_
  refine c_condT rfl rfl ?_
  refine wp_seq_k (fun K33 hK33 => ?_)
  refine wp_region_lit ?_
  refine l_e rfl (fun K hK => ?_)
  refine e_call (by kernel_rfl) (rof1_ok _) rfl (after_R hS24 (fun v34 w34 hv34 hS34 => ?_))
  clear hS24
  obtain rfl := hv34
  refine hK _ _ ?_; clear hK K
  refine l_e rfl (fun K hK => ?_)
  refine e_call (by kernel_rfl) (fine_ok _) rfl (after_R hS34 (fun v35 w35 hv35 hS35 => ?_))
  clear hS34
  obtain rfl := hv35
  refine hK _ _ ?_; clear hK K
  refine l_e rfl (fun K hK => ?_)
  refine e_storeA hS35 rfl rfl (by kernel_rfl) (by repeat' (first | exact trivial | refine ⟨by first | rfl | assumption | exact one_if (by assumption), ?_⟩)) (i := 2) rfl rfl (fun w36 (hS36 : St _ _ [_, _, .blk b4 (.cells #[.int .i64 (1 : Int), .int .i64 (1 : Int), .string (bs [])] 51), _, _] _) => ?_)
  clear hS35
  refine hK _ _ ?_; clear hK K
  refine l_e rfl (fun K hK => ?_)
  refine e_storeA hS36 rfl rfl (by kernel_rfl) (by repeat' (first | exact trivial | refine ⟨by first | rfl | assumption | exact one_if (by assumption), ?_⟩)) (i := 1) rfl rfl (fun w37 (hS37 : St _ _ [_, .blk b5 (.cells #[.int .i64 (0 : Int), .int .i64 (-1 : Int)] 72), _, _, _] _) => ?_)
  clear hS36
  refine hK _ _ ?_; clear hK K
  refine l_nil ?_
  refine hK33 _ _ ?_
  refine wp_ret ?_
  refine c_retCC (m := 3) (m2 := 2) rfl (by kernel_rfl) (by kernel_rfl) (by kernel_rfl) (by kernel_rfl) rfl rfl (hS37.blk (i := 2) rfl) (hS37.blk (i := 1) rfl) rfl rfl ?_
  exact ⟨_, rfl, (by rw [c_6 (by omega) (by assumption) (by assumption) (by omega) (by omega) (decide_eq_true (by omega))]; rfl), hS37.drop⟩
 ·
  have hg29b := hg29
  try simp only [decide_eq_true_eq, decide_eq_false_iff_not, Bool.not_eq_true', Bool.not_eq_false', Bool.and_eq_true, Bool.or_eq_true, Int.not_lt, Int.not_le, ne_eq, Decidable.not_not] at hg29
  refine l_on rfl rfl hg29b ?_
  refine l_q rfl rfl (q_moveI rfl) ?_
  refine l_on rfl rfl hg29b ?_
  refine l_q rfl rfl (q_eql rfl rfl) ?_
  refine l_on rfl rfl hg29b ?_
  refine l_q rfl rfl (q_moveB rfl) ?_
  refine l_off rfl rfl rfl (by decide) ?_
  refine l_off rfl rfl rfl (by decide) ?_
  refine l_on rfl rfl hg29b ?_
  refine l_q rfl rfl (q_pickF rfl (by decide) rfl) ?_
  refine l_q rfl rfl (q_pickF rfl hg29b rfl) ?_
  refine l_q rfl rfl (q_assignB rfl) ?_
  refine l_nil ?_
  refine hK28 _ _ ?_
  refine wp_seq_k (fun K38 hK38 => ?_)
  refine wp_seq_k (fun K39 hK39 => ?_)
  refine wp_region_lit ?_
  refine l_q rfl rfl (q_moveB rfl) ?_
  refine l_nil ?_
  refine hK39 _ _ ?_
  refine c_condF rfl rfl ?_
  refine wp_skip ?_
  refine hK38 _ _ ?_
  refine wp_seq_k (fun K41 hK41 => ?_)
  refine wp_region_lit ?_
  refine l_e rfl (fun K hK => ?_)
  refine e_call (by kernel_rfl) (rof0_ok _) rfl (after_R hS24 (fun v42 w42 hv42 hS42 => ?_))
  clear hS24
  obtain rfl := hv42
  refine hK _ _ ?_; clear hK K
  refine l_e rfl (fun K hK => ?_)
  refine e_call (by kernel_rfl) (fine_ok _) rfl (after_R hS42 (fun v43 w43 hv43 hS43 => ?_))
  clear hS42
  obtain rfl := hv43
  refine hK _ _ ?_; clear hK K
  refine l_e rfl (fun K hK => ?_)
  refine e_storeA hS43 rfl rfl (by kernel_rfl) (by repeat' (first | exact trivial | refine ⟨by first | rfl | assumption | exact one_if (by assumption), ?_⟩)) (i := 2) rfl rfl (fun w44 (hS44 : St _ _ [_, _, .blk b4 (.cells #[.int .i64 (1 : Int), .int .i64 (0 : Int), .string (bs [])] 51), _, _] _) => ?_)
  clear hS43
  refine hK _ _ ?_; clear hK K
  refine l_e rfl (fun K hK => ?_)
  refine e_storeA hS44 rfl rfl (by kernel_rfl) (by repeat' (first | exact trivial | refine ⟨by first | rfl | assumption | exact one_if (by assumption), ?_⟩)) (i := 1) rfl rfl (fun w45 (hS45 : St _ _ [_, _, _, _, _] _) => ?_)
  clear hS44
  refine hK _ _ ?_; clear hK K
  refine l_nil ?_
  refine hK41 _ _ ?_
  refine wp_ret ?_
  refine c_retCC (m := 3) (m2 := 2) rfl (by kernel_rfl) (by kernel_rfl) (by kernel_rfl) (by kernel_rfl) rfl rfl (hS45.blk (i := 2) rfl) (hS45.blk (i := 1) rfl) rfl rfl ?_
  exact ⟨_, rfl, (by rw [c_7 (by omega) (by assumption) (by assumption) (by omega) (by omega) (decide_eq_false (by omega))]; rfl), hS45.drop⟩

set_option maxHeartbeats 4000000 in
set_option maxRecDepth 100000 in
theorem rcmp13 (a b : Vl) (haB : Bytes a.2.2) (hbB : Bytes b.2.2) (han0 : -9223372036854775808 ≤ a.2.1) (han1 : a.2.1 ≤ 9223372036854775807) (hbn0 : -9223372036854775808 ≤ b.2.1) (hbn1 : b.2.1 ≤ 9223372036854775807) (h1 : rightQ a = true) (h2 : rightQ b = true) (h3 : ¬a.1 = 0) (h4 : ¬b.1 = 0) (h5 : (sg03 a b).2.1 = 0) (w : World) : Calls Tryd.prog 35 #[.int .i64 13, .agg (vl a).toArray, .agg (vl b).toArray] w (PostR w fun v => v = .tuple #[.agg (vl (c03 13 a b).1).toArray, .agg #[.int .i64 (c03 13 a b).2.1, .int .i64 (c03 13 a b).2.2]]) := by
 have hS := St.start w
 refine c_enter Tryd.func35 rfl rfl rfl ?_
 refine wp_seq_k (fun K1 hK1 => ?_)
 refine wp_region_lit ?_
 refine l_e rfl (fun K hK => ?_)
 refine e_boxA hS rfl (fun b2 w2 (hS2 : St _ _ [.blk b2 (.cells #[.int .i64 a.1, .int .i64 a.2.1, .string (bs a.2.2)] 51)] _) => ?_)
 clear hS
 refine hK _ _ ?_; clear hK K
 refine l_e rfl (fun K hK => ?_)
 refine e_boxA hS2 rfl (fun b3 w3 (hS3 : St _ _ [.blk b3 (.cells #[.int .i64 b.1, .int .i64 b.2.1, .string (bs b.2.2)] 51), _] _) => ?_)
 clear hS2
 refine hK _ _ ?_; clear hK K
 refine l_e rfl (fun K hK => ?_)
 refine e_alloc (zv := .agg #[.int .i64 0, .int .i64 0, .string ⟨#[]⟩]) hS3 (by kernel_rfl) (fun b4 w4 (hS4 : St _ _ [.blk b4 (.cells #[.int .i64 (0 : Int), .int .i64 (0 : Int), .string (bs [])] 51), _, _] _) => ?_)
 clear hS3
 refine hK _ _ ?_; clear hK K
 refine l_e rfl (fun K hK => ?_)
 refine e_alloc (zv := .agg #[.int .i64 0, .int .i64 0]) hS4 (by kernel_rfl) (fun b5 w5 (hS5 : St _ _ [.blk b5 (.cells #[.int .i64 (0 : Int), .int .i64 (0 : Int)] 72), _, _, _] _) => ?_)
 clear hS4
 refine hK _ _ ?_; clear hK K
 refine l_nil ?_
 refine hK1 _ _ ?_
 refine wp_seq_k (fun K6 hK6 => ?_)
 refine wp_seq_k (fun K7 hK7 => ?_)
 refine wp_region_lit ?_
 refine l_q rfl rfl (q_moveI rfl) ?_
 refine l_q rfl rfl (q_lss rfl rfl) ?_
 refine l_q rfl rfl (q_moveB rfl) ?_
 refine l_on rfl rfl (by decide) ?_
 refine l_q rfl rfl (q_moveI rfl) ?_
 refine l_on rfl rfl (by decide) ?_
 refine l_q rfl rfl (q_gtr rfl rfl) ?_
 refine l_q rfl rfl (q_pickF rfl (by decide) rfl) ?_
 refine l_nil ?_
 refine hK7 _ _ ?_
 refine c_condF rfl (by decide) ?_
 refine wp_skip ?_
 refine hK6 _ _ ?_
 refine wp_seq_k (fun K9 hK9 => ?_)
 refine wp_region_lit ?_
 refine l_q rfl rfl (q_loadA (m := 3) rfl (by kernel_rfl) (by kernel_rfl) (hS5.blk (i := 3) rfl) rfl rfl) ?_
 refine l_e rfl (fun K hK => ?_)
 refine e_call (by kernel_rfl) (rright_ok a haB _) rfl (after_R hS5 (fun v10 w10 hv10 hS10 => ?_))
 clear hS5
 obtain rfl := hv10
 refine hK _ _ ?_; clear hK K
 refine l_q rfl rfl (q_assignB rfl) ?_
 refine l_nil ?_
 refine hK9 _ _ ?_
 refine wp_seq_k (fun K11 hK11 => ?_)
 refine wp_region_lit ?_
 refine l_q rfl rfl (q_loadA (m := 3) rfl (by kernel_rfl) (by kernel_rfl) (hS10.blk (i := 2) rfl) rfl rfl) ?_
 refine l_e rfl (fun K hK => ?_)
 refine e_call (by kernel_rfl) (rright_ok b hbB _) rfl (after_R hS10 (fun v12 w12 hv12 hS12 => ?_))
 clear hS10
 obtain rfl := hv12
 refine hK _ _ ?_; clear hK K
 refine l_q rfl rfl (q_assignB rfl) ?_
 refine l_nil ?_
 refine hK11 _ _ ?_
 refine wp_seq_k (fun K13 hK13 => ?_)
 refine wp_block ?_
 refine wp_seq_k (fun K14 hK14 => ?_)
 refine wp_region_lit ?_
 refine l_q rfl rfl (q_moveB rfl) ?_
 refine l_q rfl rfl (q_not rfl) ?_
 refine l_q rfl rfl (q_assignB rfl) ?_
 refine l_nil ?_
 refine hK14 _ _ ?_
 refine c_condF rfl (by rw [show _ = _ from h1]; rfl) ?_
 refine wp_seq_k (fun K16 hK16 => ?_)
 refine wp_region_lit ?_
 refine l_q rfl rfl (q_moveB rfl) ?_
 refine l_q rfl rfl (q_not rfl) ?_
 refine l_q rfl rfl (q_assignB rfl) ?_
 refine l_nil ?_
 refine hK16 _ _ ?_
 refine c_condF rfl (by rw [show _ = _ from h2]; rfl) ?_
 refine wp_seq_k (fun K18 hK18 => ?_)
 refine wp_region_lit ?_
 refine l_q rfl rfl (q_fieldAddr (ft := 49) (o := 0) rfl (by kernel_rfl)) ?_
 refine l_q rfl rfl (q_load1 rfl (by kernel_rfl) (hS12.cell (i := 3) rfl rfl)) ?_
 refine l_q rfl rfl (q_eql rfl rfl) ?_
 refine l_q rfl rfl (q_moveB rfl) ?_
 refine l_on rfl rfl (decide_eq_false h3) ?_
 refine l_q rfl rfl (q_fieldAddr (ft := 49) (o := 0) rfl (by kernel_rfl)) ?_
 refine l_on rfl rfl (decide_eq_false h3) ?_
 refine l_q rfl rfl (q_load1 rfl (by kernel_rfl) (hS12.cell (i := 2) rfl rfl)) ?_
 refine l_on rfl rfl (decide_eq_false h3) ?_
 refine l_q rfl rfl (q_eql rfl rfl) ?_
 refine l_q rfl rfl (q_pickF rfl (decide_eq_false h3) rfl) ?_
 refine l_q rfl rfl (q_assignB rfl) ?_
 refine l_nil ?_
 refine hK18 _ _ ?_
 refine c_condF rfl (decide_eq_false h4) ?_
 refine wp_skip ?_
 refine hK13 _ _ ?_
 refine wp_seq_k (fun K21 hK21 => ?_)
 refine wp_region_lit ?_
 refine l_q rfl rfl (q_loadA (m := 3) rfl (by kernel_rfl) (by kernel_rfl) (hS12.blk (i := 3) rfl) rfl rfl) ?_
 refine l_q rfl rfl (q_loadA (m := 3) rfl (by kernel_rfl) (by kernel_rfl) (hS12.blk (i := 2) rfl) rfl rfl) ?_
 refine l_e rfl (fun K hK => ?_)
 refine e_call (by kernel_rfl) (rsign_ok a b haB hbB han0 han1 hbn0 hbn1 _) rfl (after_R hS12 (fun v22 w22 hv22 hS22 => ?_))
 clear hS12
 obtain rfl := hv22
 refine hK _ _ ?_; clear hK K
 refine l_q rfl rfl (q_move rfl) ?_
 refine l_q rfl rfl (q_extract rfl rfl) ?_
 refine l_q rfl rfl (q_extract rfl rfl) ?_
 refine l_e rfl (fun K hK => ?_)
 refine e_alloc (zv := .agg #[.int .i64 0, .int .i64 0]) hS22 (by kernel_rfl) (fun b23 w23 (hS23 : St _ _ [.blk b23 (.cells #[.int .i64 (0 : Int), .int .i64 (0 : Int)] 72), _, _, _, _] _) => ?_)
 clear hS22
 refine hK _ _ ?_; clear hK K
 refine l_q rfl rfl (q_assignI rfl) ?_
 refine l_e rfl (fun K hK => ?_)
 refine e_storeA hS23 rfl rfl (by kernel_rfl) (by repeat' (first | exact trivial | refine ⟨by first | rfl | assumption | exact one_if (by assumption), ?_⟩)) (i := 0) rfl rfl (fun w24 (hS24 : St _ _ [.blk b23 (.cells #[.int .i64 (sg03 a b).2.1, .int .i64 (sg03 a b).2.2] 72), _, _, _, _] _) => ?_)
 clear hS23
 refine hK _ _ ?_; clear hK K
 refine l_nil ?_
 refine hK21 _ _ ?_
 refine wp_seq_k (fun K25 hK25 => ?_)
 refine wp_seq_k (fun K26 hK26 => ?_)
 refine wp_region_lit ?_
 refine l_q rfl rfl (q_fieldAddr (ft := 23) (o := 0) rfl (by kernel_rfl)) ?_
 refine l_q rfl rfl (q_load1 rfl (by kernel_rfl) (hS24.cell (i := 0) rfl rfl)) ?_
 refine l_q rfl rfl (q_neq rfl rfl) ?_
 refine l_nil ?_
 refine hK26 _ _ ?_
 refine c_condF rfl (by rw [h5]; rfl) ?_
 refine wp_skip ?_
 refine hK25 _ _ ?_
 refine wp_seq_k (fun K28 hK28 => ?_)
 refine wp_region_lit ?_
 refine l_q rfl rfl (q_moveI rfl) ?_
 refine l_q rfl rfl (q_eql rfl rfl) ?_
 refine l_q rfl rfl (q_moveB rfl) ?_
 refine l_off rfl rfl rfl (by decide) ?_
 refine l_off rfl rfl rfl (by decide) ?_
 refine l_q rfl rfl (q_pickF rfl (by decide) rfl) ?_
 refine l_q rfl rfl (q_moveB rfl) ?_
 refine l_on rfl rfl rfl ?_
 refine l_q rfl rfl (q_moveI rfl) ?_
 refine l_on rfl rfl rfl ?_
 refine l_q rfl rfl (q_eql rfl rfl) ?_
 refine l_on rfl rfl rfl ?_
 refine l_q rfl rfl (q_moveB rfl) ?_
 refine l_off rfl rfl rfl (by decide) ?_
 refine l_off rfl rfl rfl (by decide) ?_
 refine l_on rfl rfl rfl ?_
 refine l_q rfl rfl (q_pickF rfl (by decide) rfl) ?_
 refine l_q rfl rfl (q_pickF rfl rfl rfl) ?_
 refine l_q rfl rfl (q_moveB rfl) ?_
 refine l_on rfl rfl rfl ?_
 refine l_q rfl rfl (q_moveI rfl) ?_
 refine l_on rfl rfl rfl ?_
 refine l_q rfl rfl (q_eql rfl rfl) ?_
 refine l_on rfl rfl rfl ?_
 refine l_q rfl rfl (q_moveB rfl) ?_
 refine l_off rfl rfl rfl (by decide) ?_
 refine l_off rfl rfl rfl (by decide) ?_
 refine l_on rfl rfl rfl ?_
 refine l_q rfl rfl (q_pickF rfl (by decide) rfl) ?_
 refine l_q rfl rfl (q_pickF rfl rfl rfl) ?_
 refine l_q rfl rfl (q_moveB rfl) ?_
 refine l_on rfl rfl rfl ?_
 refine l_q rfl rfl (q_moveI rfl) ?_
 refine l_on rfl rfl rfl ?_
 refine l_q rfl rfl (q_eql rfl rfl) ?_
 refine l_on rfl rfl rfl ?_
 refine l_q rfl rfl (q_moveB rfl) ?_
 refine l_off rfl rfl rfl (by decide) ?_
 refine l_off rfl rfl rfl (by decide) ?_
 refine l_on rfl rfl rfl ?_
 refine l_q rfl rfl (q_pickF rfl (by decide) rfl) ?_
 refine l_q rfl rfl (q_pickF rfl rfl rfl) ?_
 refine l_q rfl rfl (q_moveB rfl) ?_
 refine l_on rfl rfl rfl ?_
 refine l_q rfl rfl (q_moveI rfl) ?_
 refine l_on rfl rfl rfl ?_
 refine l_q rfl rfl (q_eql rfl rfl) ?_
 refine l_on rfl rfl rfl ?_
 refine l_q rfl rfl (q_moveB rfl) ?_
 refine l_off rfl rfl rfl (by decide) ?_
 refine l_off rfl rfl rfl (by decide) ?_
 refine l_on rfl rfl rfl ?_
 refine l_q rfl rfl (q_pickF rfl (by decide) rfl) ?_
 refine l_q rfl rfl (q_pickF rfl rfl rfl) ?_
 refine l_q rfl rfl (q_moveB rfl) ?_
 refine l_on rfl rfl rfl ?_
 refine l_q rfl rfl (q_moveI rfl) ?_
 refine l_on rfl rfl rfl ?_
 refine l_q rfl rfl (q_eql rfl rfl) ?_
 refine l_on rfl rfl rfl ?_
 refine l_q rfl rfl (q_moveB rfl) ?_
 refine l_on rfl rfl (by decide) ?_
 refine l_q rfl rfl (q_moveI rfl) ?_
 refine l_on rfl rfl (by decide) ?_
 refine l_q rfl rfl (q_geq rfl rfl) ?_
 refine l_on rfl rfl rfl ?_
 refine l_q rfl rfl (q_pickT rfl (by decide) rfl) ?_
 refine l_q rfl rfl (q_pickF rfl rfl rfl) ?_
 refine l_q rfl rfl (q_assignB rfl) ?_
 refine l_nil ?_
 refine hK28 _ _ ?_
 refine wp_seq_k (fun K29 hK29 => ?_)
 refine wp_seq_k (fun K30 hK30 => ?_)
 refine wp_region_lit ?_
 refine l_q rfl rfl (q_moveB rfl) ?_
 refine l_nil ?_
 refine hK30 _ _ ?_
 refine c_cond rfl (fun hc31 => ?_) (fun hc31 => ?_)
 ·
  have hc31b := hc31
  try simp only [decide_eq_true_eq, decide_eq_false_iff_not, Bool.not_eq_true', Bool.not_eq_false', Bool.and_eq_true, Bool.or_eq_true, Int.not_lt, Int.not_le, ne_eq, Decidable.not_not] at hc31
  refine wp_seq_k (fun K32 hK32 => ?_)
  refine wp_region_lit ?_
  refine l_e rfl (fun K hK => ?_)
  refine e_call (by kernel_rfl) (rof1_ok _) rfl (after_R hS24 (fun v33 w33 hv33 hS33 => ?_))
  clear hS24
  obtain rfl := hv33
  refine hK _ _ ?_; clear hK K
  refine l_e rfl (fun K hK => ?_)
  refine e_call (by kernel_rfl) (fine_ok _) rfl (after_R hS33 (fun v34 w34 hv34 hS34 => ?_))
  clear hS33
  obtain rfl := hv34
  refine hK _ _ ?_; clear hK K
  refine l_e rfl (fun K hK => ?_)
  refine e_storeA hS34 rfl rfl (by kernel_rfl) (by repeat' (first | exact trivial | refine ⟨by first | rfl | assumption | exact one_if (by assumption), ?_⟩)) (i := 2) rfl rfl (fun w35 (hS35 : St _ _ [_, _, .blk b4 (.cells #[.int .i64 (1 : Int), .int .i64 (1 : Int), .string (bs [])] 51), _, _] _) => ?_)
  clear hS34
  refine hK _ _ ?_; clear hK K
  refine l_e rfl (fun K hK => ?_)
  refine e_storeA hS35 rfl rfl (by kernel_rfl) (by repeat' (first | exact trivial | refine ⟨by first | rfl | assumption | exact one_if (by assumption), ?_⟩)) (i := 1) rfl rfl (fun w36 (hS36 : St _ _ [_, .blk b5 (.cells #[.int .i64 (0 : Int), .int .i64 (-1 : Int)] 72), _, _, _] _) => ?_)
  clear hS35
  refine hK _ _ ?_; clear hK K
  refine l_nil ?_
  refine hK32 _ _ ?_
  refine wp_ret ?_
  refine c_retCC (m := 3) (m2 := 2) rfl (by kernel_rfl) (by kernel_rfl) (by kernel_rfl) (by kernel_rfl) rfl rfl (hS36.blk (i := 2) rfl) (hS36.blk (i := 1) rfl) rfl rfl ?_
  exact ⟨_, rfl, (by rw [c_6 (by omega) (by assumption) (by assumption) (by omega) (by omega) (decide_eq_true (by omega))]; rfl), hS36.drop⟩
 ·
  have hc31b := hc31
  try simp only [decide_eq_true_eq, decide_eq_false_iff_not, Bool.not_eq_true', Bool.not_eq_false', Bool.and_eq_true, Bool.or_eq_true, Int.not_lt, Int.not_le, ne_eq, Decidable.not_not] at hc31
  refine wp_skip ?_
  refine hK29 _ _ ?_
  refine wp_seq_k (fun K37 hK37 => ?_)
  refine wp_region_lit ?_
  refine l_e rfl (fun K hK => ?_)
  refine e_call (by kernel_rfl) (rof0_ok _) rfl (after_R hS24 (fun v38 w38 hv38 hS38 => ?_))
  clear hS24
  obtain rfl := hv38
  refine hK _ _ ?_; clear hK K
  refine l_e rfl (fun K hK => ?_)
  refine e_call (by kernel_rfl) (fine_ok _) rfl (after_R hS38 (fun v39 w39 hv39 hS39 => ?_))
  clear hS38
  obtain rfl := hv39
  refine hK _ _ ?_; clear hK K
  refine l_e rfl (fun K hK => ?_)
  refine e_storeA hS39 rfl rfl (by kernel_rfl) (by repeat' (first | exact trivial | refine ⟨by first | rfl | assumption | exact one_if (by assumption), ?_⟩)) (i := 2) rfl rfl (fun w40 (hS40 : St _ _ [_, _, .blk b4 (.cells #[.int .i64 (1 : Int), .int .i64 (0 : Int), .string (bs [])] 51), _, _] _) => ?_)
  clear hS39
  refine hK _ _ ?_; clear hK K
  refine l_e rfl (fun K hK => ?_)
  refine e_storeA hS40 rfl rfl (by kernel_rfl) (by repeat' (first | exact trivial | refine ⟨by first | rfl | assumption | exact one_if (by assumption), ?_⟩)) (i := 1) rfl rfl (fun w41 (hS41 : St _ _ [_, _, _, _, _] _) => ?_)
  clear hS40
  refine hK _ _ ?_; clear hK K
  refine l_nil ?_
  refine hK37 _ _ ?_
  refine wp_ret ?_
  refine c_retCC (m := 3) (m2 := 2) rfl (by kernel_rfl) (by kernel_rfl) (by kernel_rfl) (by kernel_rfl) rfl rfl (hS41.blk (i := 2) rfl) (hS41.blk (i := 1) rfl) rfl rfl ?_
  exact ⟨_, rfl, (by rw [c_7 (by omega) (by assumption) (by assumption) (by omega) (by omega) (decide_eq_false (by omega))]; rfl), hS41.drop⟩

set_option maxHeartbeats 4000000 in
set_option maxRecDepth 100000 in
theorem rcmp_gen (op : Int) (a b : Vl) (haB : Bytes a.2.2) (hbB : Bytes b.2.2) (han0 : -9223372036854775808 ≤ a.2.1) (han1 : a.2.1 ≤ 9223372036854775807) (hbn0 : -9223372036854775808 ≤ b.2.1) (hbn1 : b.2.1 ≤ 9223372036854775807) (hno : ¬(8 ≤ op ∧ op ≤ 13 ∧ rightQ a = true ∧ rightQ b = true ∧ ¬a.1 = 0 ∧ ¬b.1 = 0 ∧ (sg03 a b).2.1 = 0)) (w : World) : Calls Tryd.prog 35 #[.int .i64 op, .agg (vl a).toArray, .agg (vl b).toArray] w (PostR w fun v => v = .tuple #[.agg (vl (c03 op a b).1).toArray, .agg #[.int .i64 (c03 op a b).2.1, .int .i64 (c03 op a b).2.2]]) := by
 have hS := St.start w
 refine c_enter Tryd.func35 rfl rfl rfl ?_
 refine wp_seq_k (fun K1 hK1 => ?_)
 refine wp_region_lit ?_
 refine l_e rfl (fun K hK => ?_)
 refine e_boxA hS rfl (fun b2 w2 (hS2 : St _ _ [.blk b2 (.cells #[.int .i64 a.1, .int .i64 a.2.1, .string (bs a.2.2)] 51)] _) => ?_)
 clear hS
 refine hK _ _ ?_; clear hK K
 refine l_e rfl (fun K hK => ?_)
 refine e_boxA hS2 rfl (fun b3 w3 (hS3 : St _ _ [.blk b3 (.cells #[.int .i64 b.1, .int .i64 b.2.1, .string (bs b.2.2)] 51), _] _) => ?_)
 clear hS2
 refine hK _ _ ?_; clear hK K
 refine l_e rfl (fun K hK => ?_)
 refine e_alloc (zv := .agg #[.int .i64 0, .int .i64 0, .string ⟨#[]⟩]) hS3 (by kernel_rfl) (fun b4 w4 (hS4 : St _ _ [.blk b4 (.cells #[.int .i64 (0 : Int), .int .i64 (0 : Int), .string (bs [])] 51), _, _] _) => ?_)
 clear hS3
 refine hK _ _ ?_; clear hK K
 refine l_e rfl (fun K hK => ?_)
 refine e_alloc (zv := .agg #[.int .i64 0, .int .i64 0]) hS4 (by kernel_rfl) (fun b5 w5 (hS5 : St _ _ [.blk b5 (.cells #[.int .i64 (0 : Int), .int .i64 (0 : Int)] 72), _, _, _] _) => ?_)
 clear hS4
 refine hK _ _ ?_; clear hK K
 refine l_nil ?_
 refine hK1 _ _ ?_
 refine wp_seq_k (fun K6 hK6 => ?_)
 refine wp_seq_k (fun K7 hK7 => ?_)
 refine wp_region_lit ?_
 refine l_q rfl rfl (q_moveI rfl) ?_
 refine l_q rfl rfl (q_lss rfl rfl) ?_
 refine l_q rfl rfl (q_moveB rfl) ?_
 refine g_splitL (t := 15) rfl (fun hg8 => ?_) (fun hg8 => ?_)
 ·
  have hg8b := hg8
  try simp only [decide_eq_true_eq, decide_eq_false_iff_not, Bool.not_eq_true', Bool.not_eq_false', Bool.and_eq_true, Bool.or_eq_true, Int.not_lt, Int.not_le, ne_eq, Decidable.not_not] at hg8
  refine l_off rfl rfl rfl hg8b ?_
  refine l_off rfl rfl rfl hg8b ?_
  refine l_q rfl rfl (q_pickT rfl hg8b rfl) ?_
  refine l_nil ?_
  refine hK7 _ _ ?_
  refine c_condT rfl rfl ?_
  refine wp_seq_k (fun K10 hK10 => ?_)
  refine wp_region_lit ?_
  refine l_q rfl rfl (q_build (ps := [(0, 1), (1, 1), (2, 1)]) (zv := .agg #[.int .i64 0, .int .i64 0, .string ⟨#[]⟩]) (by kernel_rfl) (by kernel_rfl) rfl (by repeat' (first | exact trivial | refine ⟨fun _ => by first | rfl | assumption | exact one_if (by assumption), ?_⟩ | refine ⟨fun ⟨_, h⟩ => by simp at h, ?_⟩)) rfl) ?_
  refine l_q rfl rfl (q_build (ps := [(0, 1), (1, 1)]) (zv := .agg #[.int .i64 0, .int .i64 0]) (by kernel_rfl) (by kernel_rfl) rfl (by repeat' (first | exact trivial | refine ⟨fun _ => by first | rfl | assumption | exact one_if (by assumption), ?_⟩ | refine ⟨fun ⟨_, h⟩ => by simp at h, ?_⟩)) rfl) ?_
  refine l_e rfl (fun K hK => ?_)
  refine e_storeA hS5 rfl rfl (by kernel_rfl) (by repeat' (first | exact trivial | refine ⟨by first | rfl | assumption | exact one_if (by assumption), ?_⟩)) (i := 1) rfl rfl (fun w11 (hS11 : St _ _ [_, _, _, _] _) => ?_)
  clear hS5
  refine hK _ _ ?_; clear hK K
  refine l_e rfl (fun K hK => ?_)
  refine e_storeA hS11 rfl rfl (by kernel_rfl) (by repeat' (first | exact trivial | refine ⟨by first | rfl | assumption | exact one_if (by assumption), ?_⟩)) (i := 0) rfl rfl (fun w12 (hS12 : St _ _ [.blk b5 (.cells #[.int .i64 (1 : Int), .int .i64 (0 : Int)] 72), _, _, _] _) => ?_)
  clear hS11
  refine hK _ _ ?_; clear hK K
  refine l_nil ?_
  refine hK10 _ _ ?_
  refine wp_ret ?_
  refine c_retCC (m := 3) (m2 := 2) rfl (by kernel_rfl) (by kernel_rfl) (by kernel_rfl) (by kernel_rfl) rfl rfl (hS12.blk (i := 1) rfl) (hS12.blk (i := 0) rfl) rfl rfl ?_
  exact ⟨_, rfl, (by rw [c_1 (by omega)]; rfl), hS12.drop⟩
 ·
  have hg8b := hg8
  try simp only [decide_eq_true_eq, decide_eq_false_iff_not, Bool.not_eq_true', Bool.not_eq_false', Bool.and_eq_true, Bool.or_eq_true, Int.not_lt, Int.not_le, ne_eq, Decidable.not_not] at hg8
  refine l_on rfl rfl hg8b ?_
  refine l_q rfl rfl (q_moveI rfl) ?_
  refine l_on rfl rfl hg8b ?_
  refine l_q rfl rfl (q_gtr rfl rfl) ?_
  refine l_q rfl rfl (q_pickF rfl hg8b rfl) ?_
  refine l_nil ?_
  refine hK7 _ _ ?_
  refine c_cond rfl (fun hc13 => ?_) (fun hc13 => ?_)
  ·
   have hc13b := hc13
   try simp only [decide_eq_true_eq, decide_eq_false_iff_not, Bool.not_eq_true', Bool.not_eq_false', Bool.and_eq_true, Bool.or_eq_true, Int.not_lt, Int.not_le, ne_eq, Decidable.not_not] at hc13
   refine wp_seq_k (fun K14 hK14 => ?_)
   refine wp_region_lit ?_
   refine l_q rfl rfl (q_build (ps := [(0, 1), (1, 1), (2, 1)]) (zv := .agg #[.int .i64 0, .int .i64 0, .string ⟨#[]⟩]) (by kernel_rfl) (by kernel_rfl) rfl (by repeat' (first | exact trivial | refine ⟨fun _ => by first | rfl | assumption | exact one_if (by assumption), ?_⟩ | refine ⟨fun ⟨_, h⟩ => by simp at h, ?_⟩)) rfl) ?_
   refine l_q rfl rfl (q_build (ps := [(0, 1), (1, 1)]) (zv := .agg #[.int .i64 0, .int .i64 0]) (by kernel_rfl) (by kernel_rfl) rfl (by repeat' (first | exact trivial | refine ⟨fun _ => by first | rfl | assumption | exact one_if (by assumption), ?_⟩ | refine ⟨fun ⟨_, h⟩ => by simp at h, ?_⟩)) rfl) ?_
   refine l_e rfl (fun K hK => ?_)
   refine e_storeA hS5 rfl rfl (by kernel_rfl) (by repeat' (first | exact trivial | refine ⟨by first | rfl | assumption | exact one_if (by assumption), ?_⟩)) (i := 1) rfl rfl (fun w15 (hS15 : St _ _ [_, _, _, _] _) => ?_)
   clear hS5
   refine hK _ _ ?_; clear hK K
   refine l_e rfl (fun K hK => ?_)
   refine e_storeA hS15 rfl rfl (by kernel_rfl) (by repeat' (first | exact trivial | refine ⟨by first | rfl | assumption | exact one_if (by assumption), ?_⟩)) (i := 0) rfl rfl (fun w16 (hS16 : St _ _ [_, _, _, _] _) => ?_)
   clear hS15
   refine hK _ _ ?_; clear hK K
   refine l_nil ?_
   refine hK14 _ _ ?_
   refine wp_ret ?_
   refine c_retCC (m := 3) (m2 := 2) rfl (by kernel_rfl) (by kernel_rfl) (by kernel_rfl) (by kernel_rfl) rfl rfl (hS16.blk (i := 1) rfl) (hS16.blk (i := 0) rfl) rfl rfl ?_
   exact ⟨_, rfl, (by rw [c_1 (by omega)]; rfl), hS16.drop⟩
  ·
   have hc13b := hc13
   try simp only [decide_eq_true_eq, decide_eq_false_iff_not, Bool.not_eq_true', Bool.not_eq_false', Bool.and_eq_true, Bool.or_eq_true, Int.not_lt, Int.not_le, ne_eq, Decidable.not_not] at hc13
   refine wp_skip ?_
   refine hK6 _ _ ?_
   refine wp_seq_k (fun K17 hK17 => ?_)
   refine wp_region_lit ?_
   refine l_q rfl rfl (q_loadA (m := 3) rfl (by kernel_rfl) (by kernel_rfl) (hS5.blk (i := 3) rfl) rfl rfl) ?_
   refine l_e rfl (fun K hK => ?_)
   refine e_call (by kernel_rfl) (rright_ok a haB _) rfl (after_R hS5 (fun v18 w18 hv18 hS18 => ?_))
   clear hS5
   obtain rfl := hv18
   refine hK _ _ ?_; clear hK K
   refine l_q rfl rfl (q_assignB rfl) ?_
   refine l_nil ?_
   refine hK17 _ _ ?_
   refine wp_seq_k (fun K19 hK19 => ?_)
   refine wp_region_lit ?_
   refine l_q rfl rfl (q_loadA (m := 3) rfl (by kernel_rfl) (by kernel_rfl) (hS18.blk (i := 2) rfl) rfl rfl) ?_
   refine l_e rfl (fun K hK => ?_)
   refine e_call (by kernel_rfl) (rright_ok b hbB _) rfl (after_R hS18 (fun v20 w20 hv20 hS20 => ?_))
   clear hS18
   obtain rfl := hv20
   refine hK _ _ ?_; clear hK K
   refine l_q rfl rfl (q_assignB rfl) ?_
   refine l_nil ?_
   refine hK19 _ _ ?_
   refine wp_seq_k (fun K21 hK21 => ?_)
   refine wp_block ?_
   refine wp_seq_k (fun K22 hK22 => ?_)
   refine wp_region_lit ?_
   refine l_q rfl rfl (q_moveB rfl) ?_
   refine l_q rfl rfl (q_not rfl) ?_
   refine l_q rfl rfl (q_assignB rfl) ?_
   refine l_nil ?_
   refine hK22 _ _ ?_
   refine c_cond rfl (fun hc23 => ?_) (fun hc23 => ?_)
   ·
    have hc23b := hc23
    try simp only [decide_eq_true_eq, decide_eq_false_iff_not, Bool.not_eq_true', Bool.not_eq_false', Bool.and_eq_true, Bool.or_eq_true, Int.not_lt, Int.not_le, ne_eq, Decidable.not_not] at hc23
    refine wp_seq_k (fun K24 hK24 => ?_)
    refine wp_region_lit ?_
    refine l_q rfl rfl (q_build (ps := [(0, 1), (1, 1), (2, 1)]) (zv := .agg #[.int .i64 0, .int .i64 0, .string ⟨#[]⟩]) (by kernel_rfl) (by kernel_rfl) rfl (by repeat' (first | exact trivial | refine ⟨fun _ => by first | rfl | assumption | exact one_if (by assumption), ?_⟩ | refine ⟨fun ⟨_, h⟩ => by simp at h, ?_⟩)) rfl) ?_
    refine l_q rfl rfl (q_build (ps := [(0, 1), (1, 1)]) (zv := .agg #[.int .i64 0, .int .i64 0]) (by kernel_rfl) (by kernel_rfl) rfl (by repeat' (first | exact trivial | refine ⟨fun _ => by first | rfl | assumption | exact one_if (by assumption), ?_⟩ | refine ⟨fun ⟨_, h⟩ => by simp at h, ?_⟩)) rfl) ?_
    refine l_e rfl (fun K hK => ?_)
    refine e_storeA hS20 rfl rfl (by kernel_rfl) (by repeat' (first | exact trivial | refine ⟨by first | rfl | assumption | exact one_if (by assumption), ?_⟩)) (i := 1) rfl rfl (fun w25 (hS25 : St _ _ [_, _, _, _] _) => ?_)
    clear hS20
    refine hK _ _ ?_; clear hK K
    refine l_e rfl (fun K hK => ?_)
    refine e_storeA hS25 rfl rfl (by kernel_rfl) (by repeat' (first | exact trivial | refine ⟨by first | rfl | assumption | exact one_if (by assumption), ?_⟩)) (i := 0) rfl rfl (fun w26 (hS26 : St _ _ [.blk b5 (.cells #[.int .i64 (22 : Int), .int .i64 (0 : Int)] 72), _, _, _] _) => ?_)
    clear hS25
    refine hK _ _ ?_; clear hK K
    refine l_nil ?_
    refine hK24 _ _ ?_
    refine wp_ret ?_
    refine c_retCC (m := 3) (m2 := 2) rfl (by kernel_rfl) (by kernel_rfl) (by kernel_rfl) (by kernel_rfl) rfl rfl (hS26.blk (i := 1) rfl) (hS26.blk (i := 0) rfl) rfl rfl ?_
    exact ⟨_, rfl, (by rw [c_2 (by omega) (by assumption)]; rfl), hS26.drop⟩
   ·
    have hc23b := hc23
    try simp only [decide_eq_true_eq, decide_eq_false_iff_not, Bool.not_eq_true', Bool.not_eq_false', Bool.and_eq_true, Bool.or_eq_true, Int.not_lt, Int.not_le, ne_eq, Decidable.not_not] at hc23
    refine wp_seq_k (fun K27 hK27 => ?_)
    refine wp_region_lit ?_
    refine l_q rfl rfl (q_moveB rfl) ?_
    refine l_q rfl rfl (q_not rfl) ?_
    refine l_q rfl rfl (q_assignB rfl) ?_
    refine l_nil ?_
    refine hK27 _ _ ?_
    refine c_cond rfl (fun hc28 => ?_) (fun hc28 => ?_)
    ·
     have hc28b := hc28
     try simp only [decide_eq_true_eq, decide_eq_false_iff_not, Bool.not_eq_true', Bool.not_eq_false', Bool.and_eq_true, Bool.or_eq_true, Int.not_lt, Int.not_le, ne_eq, Decidable.not_not] at hc28
     refine wp_seq_k (fun K29 hK29 => ?_)
     refine wp_region_lit ?_
     refine l_q rfl rfl (q_build (ps := [(0, 1), (1, 1), (2, 1)]) (zv := .agg #[.int .i64 0, .int .i64 0, .string ⟨#[]⟩]) (by kernel_rfl) (by kernel_rfl) rfl (by repeat' (first | exact trivial | refine ⟨fun _ => by first | rfl | assumption | exact one_if (by assumption), ?_⟩ | refine ⟨fun ⟨_, h⟩ => by simp at h, ?_⟩)) rfl) ?_
     refine l_q rfl rfl (q_build (ps := [(0, 1), (1, 1)]) (zv := .agg #[.int .i64 0, .int .i64 0]) (by kernel_rfl) (by kernel_rfl) rfl (by repeat' (first | exact trivial | refine ⟨fun _ => by first | rfl | assumption | exact one_if (by assumption), ?_⟩ | refine ⟨fun ⟨_, h⟩ => by simp at h, ?_⟩)) rfl) ?_
     refine l_e rfl (fun K hK => ?_)
     refine e_storeA hS20 rfl rfl (by kernel_rfl) (by repeat' (first | exact trivial | refine ⟨by first | rfl | assumption | exact one_if (by assumption), ?_⟩)) (i := 1) rfl rfl (fun w30 (hS30 : St _ _ [_, _, _, _] _) => ?_)
     clear hS20
     refine hK _ _ ?_; clear hK K
     refine l_e rfl (fun K hK => ?_)
     refine e_storeA hS30 rfl rfl (by kernel_rfl) (by repeat' (first | exact trivial | refine ⟨by first | rfl | assumption | exact one_if (by assumption), ?_⟩)) (i := 0) rfl rfl (fun w31 (hS31 : St _ _ [.blk b5 (.cells #[.int .i64 (22 : Int), .int .i64 (1 : Int)] 72), _, _, _] _) => ?_)
     clear hS30
     refine hK _ _ ?_; clear hK K
     refine l_nil ?_
     refine hK29 _ _ ?_
     refine wp_ret ?_
     refine c_retCC (m := 3) (m2 := 2) rfl (by kernel_rfl) (by kernel_rfl) (by kernel_rfl) (by kernel_rfl) rfl rfl (hS31.blk (i := 1) rfl) (hS31.blk (i := 0) rfl) rfl rfl ?_
     exact ⟨_, rfl, (by rw [c_3 (by omega) (by assumption) (by assumption)]; rfl), hS31.drop⟩
    ·
     have hc28b := hc28
     try simp only [decide_eq_true_eq, decide_eq_false_iff_not, Bool.not_eq_true', Bool.not_eq_false', Bool.and_eq_true, Bool.or_eq_true, Int.not_lt, Int.not_le, ne_eq, Decidable.not_not] at hc28
     refine wp_seq_k (fun K32 hK32 => ?_)
     refine wp_region_lit ?_
     refine l_q rfl rfl (q_fieldAddr (ft := 49) (o := 0) rfl (by kernel_rfl)) ?_
     refine l_q rfl rfl (q_load1 rfl (by kernel_rfl) (hS20.cell (i := 3) rfl rfl)) ?_
     refine l_q rfl rfl (q_eql rfl rfl) ?_
     refine l_q rfl rfl (q_moveB rfl) ?_
     refine g_splitL (t := 39) rfl (fun hg33 => ?_) (fun hg33 => ?_)
     ·
      have hg33b := hg33
      try simp only [decide_eq_true_eq, decide_eq_false_iff_not, Bool.not_eq_true', Bool.not_eq_false', Bool.and_eq_true, Bool.or_eq_true, Int.not_lt, Int.not_le, ne_eq, Decidable.not_not] at hg33
      refine l_off rfl rfl rfl hg33b ?_
      refine l_off rfl rfl rfl hg33b ?_
      refine l_off rfl rfl rfl hg33b ?_
      refine l_q rfl rfl (q_pickT rfl hg33b rfl) ?_
      refine l_q rfl rfl (q_assignB rfl) ?_
      refine l_nil ?_
      refine hK32 _ _ ?_
      refine c_condT rfl rfl ?_
      refine wp_seq_k (fun K35 hK35 => ?_)
      refine wp_region_lit ?_
      refine l_q rfl rfl (q_build (ps := [(0, 1), (1, 1), (2, 1)]) (zv := .agg #[.int .i64 0, .int .i64 0, .string ⟨#[]⟩]) (by kernel_rfl) (by kernel_rfl) rfl (by repeat' (first | exact trivial | refine ⟨fun _ => by first | rfl | assumption | exact one_if (by assumption), ?_⟩ | refine ⟨fun ⟨_, h⟩ => by simp at h, ?_⟩)) rfl) ?_
      refine l_e rfl (fun K hK => ?_)
      refine e_call (by kernel_rfl) (fine_ok _) rfl (after_R hS20 (fun v36 w36 hv36 hS36 => ?_))
      clear hS20
      obtain rfl := hv36
      refine hK _ _ ?_; clear hK K
      refine l_e rfl (fun K hK => ?_)
      refine e_storeA hS36 rfl rfl (by kernel_rfl) (by repeat' (first | exact trivial | refine ⟨by first | rfl | assumption | exact one_if (by assumption), ?_⟩)) (i := 1) rfl rfl (fun w37 (hS37 : St _ _ [_, _, _, _] _) => ?_)
      clear hS36
      refine hK _ _ ?_; clear hK K
      refine l_e rfl (fun K hK => ?_)
      refine e_storeA hS37 rfl rfl (by kernel_rfl) (by repeat' (first | exact trivial | refine ⟨by first | rfl | assumption | exact one_if (by assumption), ?_⟩)) (i := 0) rfl rfl (fun w38 (hS38 : St _ _ [.blk b5 (.cells #[.int .i64 (0 : Int), .int .i64 (-1 : Int)] 72), _, _, _] _) => ?_)
      clear hS37
      refine hK _ _ ?_; clear hK K
      refine l_nil ?_
      refine hK35 _ _ ?_
      refine wp_ret ?_
      refine c_retCC (m := 3) (m2 := 2) rfl (by kernel_rfl) (by kernel_rfl) (by kernel_rfl) (by kernel_rfl) rfl rfl (hS38.blk (i := 1) rfl) (hS38.blk (i := 0) rfl) rfl rfl ?_
      exact ⟨_, rfl, (by rw [c_4 (by omega) (by assumption) (by assumption) (by omega)]; rfl), hS38.drop⟩
     ·
      have hg33b := hg33
      try simp only [decide_eq_true_eq, decide_eq_false_iff_not, Bool.not_eq_true', Bool.not_eq_false', Bool.and_eq_true, Bool.or_eq_true, Int.not_lt, Int.not_le, ne_eq, Decidable.not_not] at hg33
      refine l_on rfl rfl hg33b ?_
      refine l_q rfl rfl (q_fieldAddr (ft := 49) (o := 0) rfl (by kernel_rfl)) ?_
      refine l_on rfl rfl hg33b ?_
      refine l_q rfl rfl (q_load1 rfl (by kernel_rfl) (hS20.cell (i := 2) rfl rfl)) ?_
      refine l_on rfl rfl hg33b ?_
      refine l_q rfl rfl (q_eql rfl rfl) ?_
      refine l_q rfl rfl (q_pickF rfl hg33b rfl) ?_
      refine l_q rfl rfl (q_assignB rfl) ?_
      refine l_nil ?_
      refine hK32 _ _ ?_
      refine c_cond rfl (fun hc39 => ?_) (fun hc39 => ?_)
      ·
       have hc39b := hc39
       try simp only [decide_eq_true_eq, decide_eq_false_iff_not, Bool.not_eq_true', Bool.not_eq_false', Bool.and_eq_true, Bool.or_eq_true, Int.not_lt, Int.not_le, ne_eq, Decidable.not_not] at hc39
       refine wp_seq_k (fun K40 hK40 => ?_)
       refine wp_region_lit ?_
       refine l_q rfl rfl (q_build (ps := [(0, 1), (1, 1), (2, 1)]) (zv := .agg #[.int .i64 0, .int .i64 0, .string ⟨#[]⟩]) (by kernel_rfl) (by kernel_rfl) rfl (by repeat' (first | exact trivial | refine ⟨fun _ => by first | rfl | assumption | exact one_if (by assumption), ?_⟩ | refine ⟨fun ⟨_, h⟩ => by simp at h, ?_⟩)) rfl) ?_
       refine l_e rfl (fun K hK => ?_)
       refine e_call (by kernel_rfl) (fine_ok _) rfl (after_R hS20 (fun v41 w41 hv41 hS41 => ?_))
       clear hS20
       obtain rfl := hv41
       refine hK _ _ ?_; clear hK K
       refine l_e rfl (fun K hK => ?_)
       refine e_storeA hS41 rfl rfl (by kernel_rfl) (by repeat' (first | exact trivial | refine ⟨by first | rfl | assumption | exact one_if (by assumption), ?_⟩)) (i := 1) rfl rfl (fun w42 (hS42 : St _ _ [_, _, _, _] _) => ?_)
       clear hS41
       refine hK _ _ ?_; clear hK K
       refine l_e rfl (fun K hK => ?_)
       refine e_storeA hS42 rfl rfl (by kernel_rfl) (by repeat' (first | exact trivial | refine ⟨by first | rfl | assumption | exact one_if (by assumption), ?_⟩)) (i := 0) rfl rfl (fun w43 (hS43 : St _ _ [_, _, _, _] _) => ?_)
       clear hS42
       refine hK _ _ ?_; clear hK K
       refine l_nil ?_
       refine hK40 _ _ ?_
       refine wp_ret ?_
       refine c_retCC (m := 3) (m2 := 2) rfl (by kernel_rfl) (by kernel_rfl) (by kernel_rfl) (by kernel_rfl) rfl rfl (hS43.blk (i := 1) rfl) (hS43.blk (i := 0) rfl) rfl rfl ?_
       exact ⟨_, rfl, (by rw [c_4 (by omega) (by assumption) (by assumption) (by omega)]; rfl), hS43.drop⟩
      ·
       have hc39b := hc39
       try simp only [decide_eq_true_eq, decide_eq_false_iff_not, Bool.not_eq_true', Bool.not_eq_false', Bool.and_eq_true, Bool.or_eq_true, Int.not_lt, Int.not_le, ne_eq, Decidable.not_not] at hc39
       refine wp_skip ?_
       refine hK21 _ _ ?_
       refine wp_seq_k (fun K44 hK44 => ?_)
       refine wp_region_lit ?_
       refine l_q rfl rfl (q_loadA (m := 3) rfl (by kernel_rfl) (by kernel_rfl) (hS20.blk (i := 3) rfl) rfl rfl) ?_
       refine l_q rfl rfl (q_loadA (m := 3) rfl (by kernel_rfl) (by kernel_rfl) (hS20.blk (i := 2) rfl) rfl rfl) ?_
       refine l_e rfl (fun K hK => ?_)
       refine e_call (by kernel_rfl) (rsign_ok a b haB hbB han0 han1 hbn0 hbn1 _) rfl (after_R hS20 (fun v45 w45 hv45 hS45 => ?_))
       clear hS20
       obtain rfl := hv45
       refine hK _ _ ?_; clear hK K
       refine l_q rfl rfl (q_move rfl) ?_
       refine l_q rfl rfl (q_extract rfl rfl) ?_
       refine l_q rfl rfl (q_extract rfl rfl) ?_
       refine l_e rfl (fun K hK => ?_)
       refine e_alloc (zv := .agg #[.int .i64 0, .int .i64 0]) hS45 (by kernel_rfl) (fun b46 w46 (hS46 : St _ _ [.blk b46 (.cells #[.int .i64 (0 : Int), .int .i64 (0 : Int)] 72), _, _, _, _] _) => ?_)
       clear hS45
       refine hK _ _ ?_; clear hK K
       refine l_q rfl rfl (q_assignI rfl) ?_
       refine l_e rfl (fun K hK => ?_)
       refine e_storeA hS46 rfl rfl (by kernel_rfl) (by repeat' (first | exact trivial | refine ⟨by first | rfl | assumption | exact one_if (by assumption), ?_⟩)) (i := 0) rfl rfl (fun w47 (hS47 : St _ _ [.blk b46 (.cells #[.int .i64 (sg03 a b).2.1, .int .i64 (sg03 a b).2.2] 72), _, _, _, _] _) => ?_)
       clear hS46
       refine hK _ _ ?_; clear hK K
       refine l_nil ?_
       refine hK44 _ _ ?_
       refine wp_seq_k (fun K48 hK48 => ?_)
       refine wp_seq_k (fun K49 hK49 => ?_)
       refine wp_region_lit ?_
       refine l_q rfl rfl (q_fieldAddr (ft := 23) (o := 0) rfl (by kernel_rfl)) ?_
       refine l_q rfl rfl (q_load1 rfl (by kernel_rfl) (hS47.cell (i := 0) rfl rfl)) ?_
       refine l_q rfl rfl (q_neq rfl rfl) ?_
       refine l_nil ?_
       refine hK49 _ _ ?_
       refine c_cond rfl (fun hc50 => ?_) (fun hc50 => ?_)
       ·
        have hc50b := hc50
        try simp only [decide_eq_true_eq, decide_eq_false_iff_not, Bool.not_eq_true', Bool.not_eq_false', Bool.and_eq_true, Bool.or_eq_true, Int.not_lt, Int.not_le, ne_eq, Decidable.not_not] at hc50
        refine wp_seq_k (fun K51 hK51 => ?_)
        refine r_any (by kernel_rfl) hS47 (fun w52 hS52 => ?_)
        clear hS47
        refine o_pure (i := 0) (fun _ _ => trivial) rfl rfl (by kernel_rfl) (goes0 rfl) (QOk.then (QOk.then QOk.body)) (fun w => q_build (ps := [(0, 1), (1, 1), (2, 1)]) (zv := .agg #[.int .i64 0, .int .i64 0, .string ⟨#[]⟩]) (by kernel_rfl) (by kernel_rfl) rfl (by repeat' (first | exact trivial | refine ⟨fun _ => by first | rfl | assumption | exact one_if (by assumption), ?_⟩ | refine ⟨fun ⟨_, h⟩ => by simp at h, ?_⟩)) rfl) ?_
        refine o_held (i := 1) [3] (fun _ _ => trivial) rfl rfl (by kernel_rfl) (goes0 rfl) (QOk.then (QOk.then QOk.body)) (q_loadA (m := 2) rfl (by kernel_rfl) (by kernel_rfl) (hS52.blk (i := 0) rfl) rfl rfl) ?_
        refine o_eff (i := 2) (by kernel_rfl) rfl (goes0 rfl) (fun K hK => ?_)
        refine e_storeA hS52 rfl rfl (by kernel_rfl) (by repeat' (first | exact trivial | refine ⟨by first | rfl | assumption | exact one_if (by assumption), ?_⟩)) (i := 2) rfl rfl (fun w53 (hS53 : St _ _ [_, _, _, _, _] _) => ?_)
        clear hS52
        refine hK _ _ ⟨trivial, fun _ _ => by first | exact q_loadA (m := 2) rfl (by kernel_rfl) (by kernel_rfl) (hS53.blk (i := 0) rfl) rfl rfl⟩ ?_; clear hK K
        refine o_eff (i := 3) (by kernel_rfl) rfl (goes0 rfl) (fun K hK => ?_)
        refine e_storeA hS53 rfl rfl (by kernel_rfl) (by repeat' (first | exact trivial | refine ⟨by first | rfl | assumption | exact one_if (by assumption), ?_⟩)) (i := 1) rfl rfl (fun w54 (hS54 : St _ _ [_, .blk b5 (.cells #[.int .i64 (sg03 a b).2.1, .int .i64 (sg03 a b).2.2] 72), _, _, _] _) => ?_)
        clear hS53
        refine hK _ _ ⟨trivial, fun h => absurd h (by decide)⟩ ?_; clear hK K
        refine o_done (by kernel_rfl) ?_
        refine hK51 _ _ ?_
        refine wp_ret ?_
        refine c_retCC (m := 3) (m2 := 2) rfl (by kernel_rfl) (by kernel_rfl) (by kernel_rfl) (by kernel_rfl) rfl rfl (hS54.blk (i := 2) rfl) (hS54.blk (i := 1) rfl) rfl rfl ?_
        exact ⟨_, rfl, (by rw [c_5 (by omega) (by assumption) (by assumption) (by omega) (by omega)]; rfl), hS54.drop⟩
       ·
        have hc50b := hc50
        try simp only [decide_eq_true_eq, decide_eq_false_iff_not, Bool.not_eq_true', Bool.not_eq_false', Bool.and_eq_true, Bool.or_eq_true, Int.not_lt, Int.not_le, ne_eq, Decidable.not_not] at hc50
        exact absurd ⟨by omega, by omega, by assumption, by assumption, by omega, by omega, by omega⟩ hno

theorem rcompare_ok (op : Int) (a b : Vl) (haB : Bytes a.2.2) (hbB : Bytes b.2.2) (han0 : -9223372036854775808 ≤ a.2.1) (han1 : a.2.1 ≤ 9223372036854775807) (hbn0 : -9223372036854775808 ≤ b.2.1) (hbn1 : b.2.1 ≤ 9223372036854775807) (w : World) : Calls Tryd.prog 35 #[.int .i64 op, .agg (vl a).toArray, .agg (vl b).toArray] w (PostR w fun v => v = .tuple #[.agg (vl (c03 op a b).1).toArray, .agg #[.int .i64 (c03 op a b).2.1, .int .i64 (c03 op a b).2.2]]) := by
 by_cases h : 8 ≤ op ∧ op ≤ 13 ∧ rightQ a = true ∧ rightQ b = true ∧ ¬a.1 = 0 ∧ ¬b.1 = 0 ∧ (sg03 a b).2.1 = 0
 · obtain ⟨g1, g2, h1, h2, h3, h4, h5⟩ := h
   have h' : op = 8 ∨ op = 9 ∨ op = 10 ∨ op = 11 ∨ op = 12 ∨ op = 13 := by omega
   rcases h' with rfl | rfl | rfl | rfl | rfl | rfl
   · exact rcmp8 a b haB hbB han0 han1 hbn0 hbn1 h1 h2 h3 h4 h5 w
   · exact rcmp9 a b haB hbB han0 han1 hbn0 hbn1 h1 h2 h3 h4 h5 w
   · exact rcmp10 a b haB hbB han0 han1 hbn0 hbn1 h1 h2 h3 h4 h5 w
   · exact rcmp11 a b haB hbB han0 han1 hbn0 hbn1 h1 h2 h3 h4 h5 w
   · exact rcmp12 a b haB hbB han0 han1 hbn0 hbn1 h1 h2 h3 h4 h5 w
   · exact rcmp13 a b haB hbB han0 han1 hbn0 hbn1 h1 h2 h3 h4 h5 w
 · exact rcmp_gen op a b haB hbB han0 han1 hbn0 hbn1 h w

end Go.Proofs.YtdlmcgflgdmjgaaDoor
