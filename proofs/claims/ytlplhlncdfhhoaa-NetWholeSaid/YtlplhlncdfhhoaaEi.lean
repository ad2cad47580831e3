/- Net's laws: at no net; alive; NetNil. -/
import Derived.Test.YtlplhlncdfhhoaaEh
set_option linter.unusedVariables false
set_option linter.unusedSimpArgs false
namespace Go.Proofs.Ytlplhlncdfhhoaa
open Go.RowKit
def l12 : Lr := ⟨2, 1, 0, 7, []⟩
theorem l12_right : rightL (Lr.mk (2 : Int) (1 : Int) (0 : Int) (7 : Int) []) = true := by decide
theorem snd_val {A A' A2 : List (Int × Lr)} {s s' s2 : Nat} {l : Lr} {a b a2 b2 : Int} (h : snd A s l = ((a, b), A', s')) (e : snd A s l = ((a2, b2), A2, s2)) : a = a2 ∧ b = b2 ∧ A' = A2 ∧ s' = s2 := by
  rw [h] at e; injection e with h1 h2; injection h1 with h3 h4; injection h2 with h5 h6; exact ⟨h3, h4, h5, h6⟩
theorem tw_val {A A' A2 : List (Int × Lr)} {s s' s2 : Nat} {n : Int} {a b a2 b2 : Int} (h : twN A s n = ((a, b), A', s')) (e : twN A s n = ((a2, b2), A2, s2)) : a = a2 ∧ b = b2 ∧ A' = A2 ∧ s' = s2 := by
  rw [h] at e; injection e with h1 h2; injection h1 with h3 h4; injection h2 with h5 h6; exact ⟨h3, h4, h5, h6⟩
theorem tk_val {A : List (Int × Lr)} {n : Int} {l l2 : Lr} {b b2 : Int} (h : tkv A n = (l, b)) (e : tkv A n = (l2, b2)) : l = l2 ∧ b = b2 := by
  rw [h] at e; injection e with h1 h2; exact ⟨h1, h2⟩
attribute [local irreducible] Oper.wp Sem.run Code.wp wpList wpAnyO callFunc execOp Calls
attribute [local irreducible] toU short rencs renc rowE encRow rightB zig unzig decRw rightL risB lastN bitsOf nodesTo encL encLE sameL snd numsW sameI toOf badT tkv ls twN

set_option maxRecDepth 100000 in
theorem idx_nil (f : Value) (w : World) : Calls Try.prog 42 #[.slice none 0 0, f] w (PostR w fun v => v = .int .i64 (-1)) := by
 have hS := St.start w
 refine c_enter Try.func42 rfl rfl rfl ?_
 refine wp_seq_k (fun K1 hK1 => ?_)
 refine wp_region_lit ?_
 refine l_q rfl rfl (q_assignI rfl) ?_
 refine l_nil ?_
 refine hK1 _ _ ?_
 refine wp_seq_k (fun K2 hK2 => ?_)
 refine wp_seq_k (fun K3 hK3 => ?_)
 refine wp_region_lit ?_
 refine l_q rfl rfl (q_moveS rfl) ?_
 refine l_q rfl rfl (q_lenSl (e := 3) rfl (by kernel_rfl)) ?_
 refine l_q rfl rfl (q_moveI rfl) ?_
 refine l_nil ?_
 refine hK3 _ _ ?_
 refine wp_block ?_
 refine c_rounds 1 ?_
 refine c_round ?_
 refine wp_seq_k (fun K4 hK4 => ?_)
 refine wp_region_lit ?_
 refine l_q rfl rfl (q_lss rfl rfl) ?_
 refine l_nil ?_
 refine hK4 _ _ ?_
 refine wp_seq_k (fun K5 hK5 => ?_)
 refine c_condF rfl (by decide) ?_
 refine wp_exit ?_
 refine hK2 _ _ ?_
 refine wp_seq_k (fun K7 hK7 => ?_)
 refine wp_region_lit ?_
 refine l_q rfl rfl (q_assignI rfl) ?_
 refine l_nil ?_
 refine hK7 _ _ ?_
 refine wp_ret ?_
 refine c_ret1 rfl rfl ?_
 exact ⟨_, rfl, rfl, hS.drop⟩

set_option maxRecDepth 100000 in
theorem del_nil (f : Value) (w : World) : Calls Try.prog 32 #[.slice none 0 0, f] w (PostR w fun v => v = .slice none 0 0) := by
 have hS := St.start w
 refine c_enter Try.func32 rfl rfl rfl ?_
 refine wp_seq_k (fun K1 hK1 => ?_)
 refine wp_region_lit ?_
 refine l_q rfl rfl (q_assignS rfl) ?_
 refine l_nil ?_
 refine hK1 _ _ ?_
 refine wp_seq_k (fun K2 hK2 => ?_)
 refine wp_region_lit ?_
 refine l_q rfl rfl (q_moveS rfl) ?_
 refine l_q rfl rfl (q_move rfl) ?_
 refine l_e rfl (fun K hK => ?_)
 refine e_call (by kernel_rfl) (idx_nil _ _) rfl (after_R hS (fun v3 w3 hv3 hS3 => ?_))
 clear hS
 obtain rfl := hv3
 refine hK _ _ ?_; clear hK K
 refine l_q rfl rfl (q_assignI rfl) ?_
 refine l_nil ?_
 refine hK2 _ _ ?_
 refine wp_seq_k (fun K4 hK4 => ?_)
 refine wp_seq_k (fun K5 hK5 => ?_)
 refine wp_region_lit ?_
 refine l_q rfl rfl (q_moveI rfl) ?_
 refine l_q rfl rfl (q_eql rfl rfl) ?_
 refine l_nil ?_
 refine hK5 _ _ ?_
 refine c_condT rfl (by decide) ?_
 refine wp_seq_k (fun K7 hK7 => ?_)
 refine wp_region_lit ?_
 refine l_q rfl rfl (q_moveS rfl) ?_
 refine l_q rfl rfl (q_assignS rfl) ?_
 refine l_nil ?_
 refine hK7 _ _ ?_
 refine wp_ret ?_
 refine c_ret1 rfl rfl ?_
 exact ⟨_, rfl, rfl, hS3.drop⟩

set_option maxRecDepth 100000 in
theorem look_nil (n : Int) (w : World) : Calls Try.prog 16 #[.pointer none, .int .i64 n] w (PostR w fun v => v = .tuple #[.agg #[.int .i64 0, .int .i64 0, .int .i64 0, .int .i64 0, .slice none 0 0], .int .i64 1]) := by
 have hS := St.start w
 refine c_enter Try.func16 rfl rfl rfl ?_
 refine wp_seq_k (fun K1 hK1 => ?_)
 refine wp_region_lit ?_
 refine l_e rfl (fun K hK => ?_)
 refine e_alloc (zv := .agg #[.int .i64 0, .int .i64 0, .int .i64 0, .int .i64 0, .slice none 0 0]) hS (by kernel_rfl) (fun b2 w2 (hS2 : St _ _ [.blk b2 (.cells #[.int .i64 (0 : Int), .int .i64 (0 : Int), .int .i64 (0 : Int), .int .i64 (0 : Int), .slice none 0 0] 25)] _) => ?_)
 clear hS
 refine hK _ _ ?_; clear hK K
 refine l_q rfl rfl (q_assignI rfl) ?_
 refine l_nil ?_
 refine hK1 _ _ ?_
 refine wp_seq_k (fun K3 hK3 => ?_)
 refine wp_seq_k (fun K4 hK4 => ?_)
 refine wp_region_lit ?_
 refine l_q rfl rfl (q_moveP rfl) ?_
 refine l_q rfl rfl (q_peq rfl (by kernel_rfl)) ?_
 refine l_nil ?_
 refine hK4 _ _ ?_
 refine c_condT rfl rfl ?_
 refine wp_seq_k (fun K6 hK6 => ?_)
 refine wp_region_lit ?_
 refine l_q rfl rfl (q_build (ps := [(0, 1), (1, 1), (2, 1), (3, 1), (4, 1)]) (zv := .agg #[.int .i64 0, .int .i64 0, .int .i64 0, .int .i64 0, .slice none 0 0]) (by kernel_rfl) (by kernel_rfl) rfl (by repeat' (first | exact trivial | refine ⟨fun _ => by first | rfl | assumption | exact one_if (by assumption), ?_⟩ | refine ⟨fun ⟨_, h⟩ => by simp at h, ?_⟩)) rfl) ?_
 refine l_e rfl (fun K hK => ?_)
 refine e_storeA hS2 rfl rfl (by kernel_rfl) (by repeat' (first | exact trivial | refine ⟨by first | rfl | assumption | exact one_if (by assumption), ?_⟩)) (i := 0) rfl rfl (fun w7 (hS7 : St _ _ [_] _) => ?_)
 clear hS2
 refine hK _ _ ?_; clear hK K
 refine l_q rfl rfl (q_assignI rfl) ?_
 refine l_nil ?_
 refine hK6 _ _ ?_
 refine wp_ret ?_
 refine c_retCT (m := 5) rfl (by kernel_rfl) (by kernel_rfl) rfl (hS7.blk (i := 0) rfl) rfl rfl ?_
 exact ⟨_, rfl, rfl, hS7.drop⟩

set_option maxRecDepth 100000 in
theorem send_nil (l : Lr) (an : Option Addr) (n cn : Nat) (w : World) : Calls Try.prog 10 #[.pointer none, .agg #[.int .i64 l.k, .int .i64 l.f, .int .i64 l.t, .int .i64 l.x, .slice an n cn]] w (PostR w fun v => v = .tuple #[.int .i64 0, .int .i64 1]) := by
 have hS := St.start w
 refine c_enter Try.func10 rfl rfl rfl ?_
 refine wp_seq_k (fun K1 hK1 => ?_)
 refine wp_region_lit ?_
 refine l_e rfl (fun K hK => ?_)
 refine e_boxA hS rfl (fun b2 w2 (hS2 : St _ _ [.blk b2 (.cells #[.int .i64 l.k, .int .i64 l.f, .int .i64 l.t, .int .i64 l.x, .slice an n cn] 25)] _) => ?_)
 clear hS
 refine hK _ _ ?_; clear hK K
 refine l_q rfl rfl (q_assignI rfl) ?_
 refine l_q rfl rfl (q_assignI rfl) ?_
 refine l_nil ?_
 refine hK1 _ _ ?_
 refine wp_seq_k (fun K3 hK3 => ?_)
 refine wp_seq_k (fun K4 hK4 => ?_)
 refine wp_region_lit ?_
 refine l_q rfl rfl (q_moveP rfl) ?_
 refine l_q rfl rfl (q_peq rfl (by kernel_rfl)) ?_
 refine l_nil ?_
 refine hK4 _ _ ?_
 refine c_condT rfl rfl ?_
 refine wp_seq_k (fun K6 hK6 => ?_)
 refine wp_region_lit ?_
 refine l_q rfl rfl (q_assignI rfl) ?_
 refine l_q rfl rfl (q_assignI rfl) ?_
 refine l_nil ?_
 refine hK6 _ _ ?_
 refine wp_ret ?_
 refine c_ret2 rfl rfl rfl ?_
 exact ⟨_, rfl, rfl, hS2.drop⟩

set_option maxRecDepth 100000 in
theorem take_nil (n : Int) (w : World) : Calls Try.prog 14 #[.pointer none, .int .i64 n] w (PostR w fun v => v = .tuple #[.agg #[.int .i64 0, .int .i64 0, .int .i64 0, .int .i64 0, .slice none 0 0], .int .i64 1]) := by
 have hS := St.start w
 refine c_enter Try.func14 rfl rfl rfl ?_
 refine wp_seq_k (fun K1 hK1 => ?_)
 refine wp_region_lit ?_
 refine l_e rfl (fun K hK => ?_)
 refine e_alloc (zv := .agg #[.int .i64 0, .int .i64 0, .int .i64 0, .int .i64 0, .slice none 0 0]) hS (by kernel_rfl) (fun b2 w2 (hS2 : St _ _ [.blk b2 (.cells #[.int .i64 (0 : Int), .int .i64 (0 : Int), .int .i64 (0 : Int), .int .i64 (0 : Int), .slice none 0 0] 25)] _) => ?_)
 clear hS
 refine hK _ _ ?_; clear hK K
 refine l_q rfl rfl (q_assignI rfl) ?_
 refine l_nil ?_
 refine hK1 _ _ ?_
 refine wp_seq_k (fun K3 hK3 => ?_)
 refine wp_region_lit ?_
 refine l_q rfl rfl (q_moveP rfl) ?_
 refine l_q rfl rfl (q_moveI rfl) ?_
 refine l_e rfl (fun K hK => ?_)
 refine e_call (by kernel_rfl) (look_nil n _) rfl (after_R hS2 (fun v4 w4 hv4 hS4 => ?_))
 clear hS2
 obtain rfl := hv4
 refine hK _ _ ?_; clear hK K
 refine l_q rfl rfl (q_move rfl) ?_
 refine l_q rfl rfl (q_extract rfl rfl) ?_
 refine l_q rfl rfl (q_extract rfl rfl) ?_
 refine l_e rfl (fun K hK => ?_)
 refine e_alloc (zv := .agg #[.int .i64 0, .int .i64 0, .int .i64 0, .int .i64 0, .slice none 0 0]) hS4 (by kernel_rfl) (fun b5 w5 (hS5 : St _ _ [.blk b5 (.cells #[.int .i64 (0 : Int), .int .i64 (0 : Int), .int .i64 (0 : Int), .int .i64 (0 : Int), .slice none 0 0] 25), _] _) => ?_)
 clear hS4
 refine hK _ _ ?_; clear hK K
 refine l_e rfl (fun K hK => ?_)
 refine e_storeA hS5 rfl rfl (by kernel_rfl) (by repeat' (first | exact trivial | refine ⟨by first | rfl | assumption | exact one_if (by assumption), ?_⟩)) (i := 0) rfl rfl (fun w6 (hS6 : St _ _ [_, _] _) => ?_)
 clear hS5
 refine hK _ _ ?_; clear hK K
 refine l_q rfl rfl (q_assignI rfl) ?_
 refine l_nil ?_
 refine hK3 _ _ ?_
 refine wp_seq_k (fun K7 hK7 => ?_)
 refine wp_seq_k (fun K8 hK8 => ?_)
 refine wp_region_lit ?_
 refine l_q rfl rfl (q_moveI rfl) ?_
 refine l_q rfl rfl (q_eql rfl rfl) ?_
 refine l_nil ?_
 refine hK8 _ _ ?_
 refine c_condF rfl (by decide) ?_
 refine wp_skip ?_
 refine hK7 _ _ ?_
 refine wp_seq_k (fun K10 hK10 => ?_)
 refine wp_region_lit ?_
 refine l_q rfl rfl (q_loadA (m := 5) rfl (by kernel_rfl) (by kernel_rfl) (hS6.blk (i := 0) rfl) rfl rfl) ?_
 refine l_q rfl rfl (q_moveI rfl) ?_
 refine l_e rfl (fun K hK => ?_)
 refine e_storeA hS6 rfl rfl (by kernel_rfl) (by repeat' (first | exact trivial | refine ⟨by first | rfl | assumption | exact one_if (by assumption), ?_⟩)) (i := 1) rfl rfl (fun w11 (hS11 : St _ _ [_, _] _) => ?_)
 clear hS6
 refine hK _ _ ?_; clear hK K
 refine l_q rfl rfl (q_assignI rfl) ?_
 refine l_nil ?_
 refine hK10 _ _ ?_
 refine wp_ret ?_
 refine c_retCT (m := 5) rfl (by kernel_rfl) (by kernel_rfl) rfl (hS11.blk (i := 1) rfl) rfl rfl ?_
 exact ⟨_, rfl, rfl, hS11.drop⟩

set_option maxRecDepth 100000 in
theorem twice_nil (n : Int) (w : World) : Calls Try.prog 12 #[.pointer none, .int .i64 n] w (PostR w fun v => v = .tuple #[.int .i64 0, .int .i64 1]) := by
 have hS := St.start w
 refine c_enter Try.func12 rfl rfl rfl ?_
 refine wp_seq_k (fun K1 hK1 => ?_)
 refine wp_region_lit ?_
 refine l_q rfl rfl (q_assignI rfl) ?_
 refine l_q rfl rfl (q_assignI rfl) ?_
 refine l_nil ?_
 refine hK1 _ _ ?_
 refine wp_seq_k (fun K2 hK2 => ?_)
 refine wp_seq_k (fun K3 hK3 => ?_)
 refine wp_region_lit ?_
 refine l_q rfl rfl (q_moveP rfl) ?_
 refine l_q rfl rfl (q_moveI rfl) ?_
 refine l_e rfl (fun K hK => ?_)
 refine e_call (by kernel_rfl) (look_nil n _) rfl (after_R hS (fun v4 w4 hv4 hS4 => ?_))
 clear hS
 obtain rfl := hv4
 refine hK _ _ ?_; clear hK K
 refine l_q rfl rfl (q_move rfl) ?_
 refine l_q rfl rfl (q_extract rfl rfl) ?_
 refine l_q rfl rfl (q_extract rfl rfl) ?_
 refine l_e rfl (fun K hK => ?_)
 refine e_alloc (zv := .agg #[.int .i64 0, .int .i64 0, .int .i64 0, .int .i64 0, .slice none 0 0]) hS4 (by kernel_rfl) (fun b5 w5 (hS5 : St _ _ [.blk b5 (.cells #[.int .i64 (0 : Int), .int .i64 (0 : Int), .int .i64 (0 : Int), .int .i64 (0 : Int), .slice none 0 0] 25)] _) => ?_)
 clear hS4
 refine hK _ _ ?_; clear hK K
 refine l_e rfl (fun K hK => ?_)
 refine e_storeA hS5 rfl rfl (by kernel_rfl) (by repeat' (first | exact trivial | refine ⟨by first | rfl | assumption | exact one_if (by assumption), ?_⟩)) (i := 0) rfl rfl (fun w6 (hS6 : St _ _ [_] _) => ?_)
 clear hS5
 refine hK _ _ ?_; clear hK K
 refine l_q rfl rfl (q_assignI rfl) ?_
 refine l_nil ?_
 refine hK3 _ _ ?_
 refine wp_seq_k (fun K7 hK7 => ?_)
 refine wp_region_lit ?_
 refine l_q rfl rfl (q_moveI rfl) ?_
 refine l_q rfl rfl (q_neq rfl rfl) ?_
 refine l_nil ?_
 refine hK7 _ _ ?_
 refine c_condT rfl (by decide) ?_
 refine wp_seq_k (fun K9 hK9 => ?_)
 refine wp_region_lit ?_
 refine l_q rfl rfl (q_moveI rfl) ?_
 refine l_q rfl rfl (q_assignI rfl) ?_
 refine l_q rfl rfl (q_assignI rfl) ?_
 refine l_nil ?_
 refine hK9 _ _ ?_
 refine wp_ret ?_
 refine c_ret2 rfl rfl rfl ?_
 exact ⟨_, rfl, rfl, hS6.drop⟩

set_option maxRecDepth 100000 in
theorem lose_nil (n : Int) (w : World) : Calls Try.prog 13 #[.pointer none, .int .i64 n] w (PostR w fun v => v = .int .i64 1) := by
 have hS := St.start w
 refine c_enter Try.func13 rfl rfl rfl ?_
 refine wp_seq_k (fun K1 hK1 => ?_)
 refine wp_region_lit ?_
 refine l_q rfl rfl (q_assignI rfl) ?_
 refine l_nil ?_
 refine hK1 _ _ ?_
 refine wp_seq_k (fun K2 hK2 => ?_)
 refine wp_region_lit ?_
 refine l_q rfl rfl (q_moveP rfl) ?_
 refine l_q rfl rfl (q_moveI rfl) ?_
 refine l_e rfl (fun K hK => ?_)
 refine e_call (by kernel_rfl) (look_nil n _) rfl (after_R hS (fun v3 w3 hv3 hS3 => ?_))
 clear hS
 obtain rfl := hv3
 refine hK _ _ ?_; clear hK K
 refine l_q rfl rfl (q_move rfl) ?_
 refine l_q rfl rfl (q_extract rfl rfl) ?_
 refine l_q rfl rfl (q_extract rfl rfl) ?_
 refine l_e rfl (fun K hK => ?_)
 refine e_alloc (zv := .agg #[.int .i64 0, .int .i64 0, .int .i64 0, .int .i64 0, .slice none 0 0]) hS3 (by kernel_rfl) (fun b4 w4 (hS4 : St _ _ [.blk b4 (.cells #[.int .i64 (0 : Int), .int .i64 (0 : Int), .int .i64 (0 : Int), .int .i64 (0 : Int), .slice none 0 0] 25)] _) => ?_)
 clear hS3
 refine hK _ _ ?_; clear hK K
 refine l_e rfl (fun K hK => ?_)
 refine e_storeA hS4 rfl rfl (by kernel_rfl) (by repeat' (first | exact trivial | refine ⟨by first | rfl | assumption | exact one_if (by assumption), ?_⟩)) (i := 0) rfl rfl (fun w5 (hS5 : St _ _ [_] _) => ?_)
 clear hS4
 refine hK _ _ ?_; clear hK K
 refine l_q rfl rfl (q_assignI rfl) ?_
 refine l_nil ?_
 refine hK2 _ _ ?_
 refine wp_seq_k (fun K6 hK6 => ?_)
 refine wp_seq_k (fun K7 hK7 => ?_)
 refine wp_region_lit ?_
 refine l_q rfl rfl (q_moveI rfl) ?_
 refine l_q rfl rfl (q_eql rfl rfl) ?_
 refine l_nil ?_
 refine hK7 _ _ ?_
 refine c_condF rfl (by decide) ?_
 refine wp_skip ?_
 refine hK6 _ _ ?_
 refine wp_seq_k (fun K9 hK9 => ?_)
 refine wp_region_lit ?_
 refine l_q rfl rfl (q_moveI rfl) ?_
 refine l_q rfl rfl (q_assignI rfl) ?_
 refine l_nil ?_
 refine hK9 _ _ ?_
 refine wp_ret ?_
 refine c_ret1 rfl rfl ?_
 exact ⟨_, rfl, rfl, hS5.drop⟩

set_option maxRecDepth 100000 in
theorem told_nil (w : World) : Calls Try.prog 18 #[.pointer none] w (PostR w fun v => v = .tuple #[.int .i64 0, .int .i64 0, .int .i64 0]) := by
 have hS := St.start w
 refine c_enter Try.func18 rfl rfl rfl ?_
 refine wp_seq_k (fun K1 hK1 => ?_)
 refine wp_region_lit ?_
 refine l_q rfl rfl (q_assignI rfl) ?_
 refine l_q rfl rfl (q_assignI rfl) ?_
 refine l_q rfl rfl (q_assignI rfl) ?_
 refine l_nil ?_
 refine hK1 _ _ ?_
 refine wp_seq_k (fun K2 hK2 => ?_)
 refine wp_seq_k (fun K3 hK3 => ?_)
 refine wp_region_lit ?_
 refine l_q rfl rfl (q_moveP rfl) ?_
 refine l_q rfl rfl (q_peq rfl (by kernel_rfl)) ?_
 refine l_nil ?_
 refine hK3 _ _ ?_
 refine c_condT rfl rfl ?_
 refine wp_seq_k (fun K5 hK5 => ?_)
 refine wp_region_lit ?_
 refine l_q rfl rfl (q_assignI rfl) ?_
 refine l_q rfl rfl (q_assignI rfl) ?_
 refine l_q rfl rfl (q_assignI rfl) ?_
 refine l_nil ?_
 refine hK5 _ _ ?_
 refine wp_ret ?_
 refine c_ret3 rfl rfl rfl rfl ?_
 exact ⟨_, rfl, rfl, hS.drop⟩

set_option maxRecDepth 100000 in
theorem nums_nil (w : World) : Calls Try.prog 15 #[.pointer none] w (PostR w fun v => v = .slice none 0 0) := by
 have hS := St.start w
 refine c_enter Try.func15 rfl rfl rfl ?_
 refine wp_seq_k (fun K1 hK1 => ?_)
 refine wp_region_lit ?_
 refine l_q rfl rfl (q_assignS rfl) ?_
 refine l_nil ?_
 refine hK1 _ _ ?_
 refine wp_seq_k (fun K2 hK2 => ?_)
 refine wp_seq_k (fun K3 hK3 => ?_)
 refine wp_region_lit ?_
 refine l_q rfl rfl (q_moveP rfl) ?_
 refine l_q rfl rfl (q_peq rfl (by kernel_rfl)) ?_
 refine l_nil ?_
 refine hK3 _ _ ?_
 refine c_condT rfl rfl ?_
 refine wp_seq_k (fun K5 hK5 => ?_)
 refine wp_region_lit ?_
 refine l_q rfl rfl (q_assignS rfl) ?_
 refine l_nil ?_
 refine hK5 _ _ ?_
 refine wp_ret ?_
 refine c_ret1 rfl rfl ?_
 exact ⟨_, rfl, rfl, hS.drop⟩

set_option maxRecDepth 100000 in
theorem to_nil (n : Int) (w : World) : Calls Try.prog 19 #[.pointer none, .int .i64 n] w (PostR w fun v => v = .slice none 0 0) := by
 have hS := St.start w
 refine c_enter Try.func19 rfl rfl rfl ?_
 refine wp_seq_k (fun K1 hK1 => ?_)
 refine wp_region_lit ?_
 refine l_e rfl (fun K hK => ?_)
 refine e_box hS rfl (fun b2 w2 (hS2 : St _ _ [.blk b2 (.cells #[.pointer none] 26)] _) => ?_)
 clear hS
 refine hK _ _ ?_; clear hK K
 refine l_e rfl (fun K hK => ?_)
 refine e_box hS2 rfl (fun b3 w3 (hS3 : St _ _ [.blk b3 (.cells #[.int .i64 n] 3), _] _) => ?_)
 clear hS2
 refine hK _ _ ?_; clear hK K
 refine l_q rfl rfl (q_assignS rfl) ?_
 refine l_nil ?_
 refine hK1 _ _ ?_
 refine wp_seq_k (fun K4 hK4 => ?_)
 refine wp_region_lit ?_
 refine l_q rfl rfl (q_load1 rfl (by kernel_rfl) (hS3.cell (i := 1) rfl rfl)) ?_
 refine l_e rfl (fun K hK => ?_)
 refine e_call (by kernel_rfl) (nums_nil _) rfl (after_R hS3 (fun v5 w5 hv5 hS5 => ?_))
 clear hS3
 obtain rfl := hv5
 refine hK _ _ ?_; clear hK K
 refine l_q rfl rfl (q_makeFunc) ?_
 refine l_e rfl (fun K hK => ?_)
 refine e_call (by kernel_rfl) (del_nil _ _) rfl (after_R hS5 (fun v6 w6 hv6 hS6 => ?_))
 clear hS5
 obtain rfl := hv6
 refine hK _ _ ?_; clear hK K
 refine l_q rfl rfl (q_assignS rfl) ?_
 refine l_nil ?_
 refine hK4 _ _ ?_
 refine wp_ret ?_
 refine c_ret1 rfl rfl ?_
 exact ⟨_, rfl, rfl, hS6.drop⟩

set_option maxRecDepth 100000 in
theorem alive12_ok (w : World) : Calls Try.prog 11 #[] w (PostR w fun v => v = .bool true) := by
 have hS := St.start w
 refine c_enter Try.func11 rfl rfl rfl ?_
 refine wp_seq_k (fun K1 hK1 => ?_)
 refine wp_region_lit ?_
 refine l_q rfl rfl (q_assignB rfl) ?_
 refine l_nil ?_
 refine hK1 _ _ ?_
 refine wp_seq_k (fun K2 hK2 => ?_)
 refine wp_region_lit ?_
 refine l_e rfl (fun K hK => ?_)
 refine e_call (by kernel_rfl) (nnew_ok _) rfl (after_N hS (fun v3 G3 w3 hv3 hS3 => ?_))
 clear hS
 obtain ⟨k, mb, rfl, rfl⟩ := hv3
 have hS4 : St _ _ [.blk k (.cells #[.map (some mb), .int .i64 ((0 : Nat) : Int), .int .i64 ((0 : Nat) : Int), .int .i64 ((0 : Nat) : Int)] 60), .mp (.int .i64) mb (List.map nc [])] _ := hS3; clear hS3
 have hS5 := hS4.fz0; clear hS4
 have hS6 := hS5.fr2; clear hS5
 have hS7 := hS6.fr2; clear hS6
 obtain ⟨L0, hL0⟩ : ∃ L : List (Int × Ent), L = [] := ⟨[], rfl⟩
 rw [← hL0] at hS7
 have hE0 : EOk (fun _ => none) L0 := by rw [hL0]; exact EOk.nil
 have hn0 : NumOk (absN L0) 0 := by rw [hL0]; exact NumOk.nil 0
 have hl0 : L0.length = 0 := by rw [hL0]; rfl
 refine hK _ _ ?_; clear hK K
 refine l_q rfl rfl (q_assignP rfl) ?_
 refine l_nil ?_
 refine hK2 _ _ ?_
 refine wp_seq_k (fun K8 hK8 => ?_)
 refine wp_seq_k (fun K9 hK9 => ?_)
 refine wp_region_lit ?_
 refine l_q rfl rfl (q_moveP rfl) ?_
 refine l_q rfl rfl (q_peq rfl (by kernel_rfl)) ?_
 refine l_nil ?_
 refine hK9 _ _ ?_
 refine c_condF rfl rfl ?_
 refine wp_skip ?_
 refine hK8 _ _ ?_
 refine wp_seq_k (fun K11 hK11 => ?_)
 refine wp_region_lit ?_
 refine l_q rfl rfl (q_moveP rfl) ?_
 refine l_q rfl rfl (q_build (ps := [(0, 1), (1, 1), (2, 1), (3, 1), (4, 1)]) (zv := .agg #[.int .i64 0, .int .i64 0, .int .i64 0, .int .i64 0, .slice none 0 0]) (by kernel_rfl) (by kernel_rfl) rfl (by repeat' (first | exact trivial | refine ⟨fun _ => by first | rfl | assumption | exact one_if (by assumption), ?_⟩ | refine ⟨fun ⟨_, h⟩ => by simp at h, ?_⟩)) rfl) ?_
 refine l_e rfl (fun K hK => ?_)
 refine e_call (by kernel_rfl) (send_any k mb 0 0 0 L0 (fun _ => none) hE0 hn0 (by omega) (Lr.mk (2 : Int) (1 : Int) (0 : Int) (7 : Int) []) 0 (by first | rfl | omega) (by omega) none 0 _ _ ((fun _ _ e => by cases e) : Rog [_, _, _] _ (fun _ => none)) SlG.nil (St.begin (Γ := [_, _, _]) hS7)) rfl (after_M (Γ1 := [_, _, _]) hS7 (fun v12 G12 w12 hv12 hS12 => ?_))
 clear hS7
 obtain ⟨a12, b12, L12, s12, g12, rfl, rfl, hle12, hE12, hs12⟩ := hv12
 have hS13 : St _ _ [.blk k (.cells #[.map (some mb), .int .i64 (s12 : Int), .int .i64 ((0 : Nat) : Int), .int .i64 ((0 : Nat) : Int)] 60), .mp (.int .i64) mb (List.map nc L12), .fz g12] _ := hS12; clear hS12
 have hn12 := hn0.snd' hs12
 have hgr12 := snd_grow hs12
 have hgl12 := hgr12.2.1; have hgs12 := hgr12.1; rw [absN_len, absN_len] at hgl12
 obtain ⟨ea12, eb12, eA12, es12⟩ := snd_val hs12 (snd_ok l12_right (by rw [absN_len]; omega)); subst ea12 eb12 es12
 rw [hL0] at eA12
 refine hK _ _ ?_; clear hK K
 refine l_q rfl rfl (q_move rfl) ?_
 refine l_q rfl rfl (q_extract rfl rfl) ?_
 refine l_q rfl rfl (q_extract rfl rfl) ?_
 refine l_q rfl rfl (q_assignI rfl) ?_
 refine l_q rfl rfl (q_assignI rfl) ?_
 refine l_nil ?_
 refine hK11 _ _ ?_
 refine wp_seq_k (fun K14 hK14 => ?_)
 refine wp_region_lit ?_
 refine l_q rfl rfl (q_moveP rfl) ?_
 refine l_e rfl (fun K hK => ?_)
 refine e_call (by kernel_rfl) (twice_any k mb (0 + 1) 0 0 L12 g12 hE12 hn12 (by omega) (0 : Int) _ (St.begin (Γ := [_, _, _]) hS13)) rfl (after_M (Γ1 := [_, _, _]) hS13 (fun v15 G15 w15 hv15 hS15 => ?_))
 clear hS13
 obtain ⟨a15, b15, L15, s15, g15, rfl, rfl, hle15, hE15, hs15⟩ := hv15
 have hS16 : St _ _ [.blk k (.cells #[.map (some mb), .int .i64 (s15 : Int), .int .i64 ((0 : Nat) : Int), .int .i64 ((0 : Nat) : Int)] 60), .mp (.int .i64) mb (List.map nc L15), .fz g15] _ := hS15; clear hS15
 have hn15 := (tw_grow hn12 hs15).2.2
 have hgr15 := tw_grow hn12 hs15
 have hgl15 := hgr15.2.1; have hgs15 := hgr15.1; rw [absN_len, absN_len] at hgl15
 obtain ⟨ea15, eb15, eA15, es15⟩ := tw_val hs15 ((hn12.twN (l := (Lr.mk (2 : Int) (1 : Int) (0 : Int) (7 : Int) [])) (by rw [eA12]; exact .head _)).trans (snd_ok l12_right (by rw [absN_len]; omega))); subst ea15 eb15 es15
 rw [eA12] at eA15
 refine hK _ _ ?_; clear hK K
 refine l_q rfl rfl (q_move rfl) ?_
 refine l_q rfl rfl (q_extract rfl rfl) ?_
 refine l_q rfl rfl (q_extract rfl rfl) ?_
 refine l_q rfl rfl (q_assignI rfl) ?_
 refine l_q rfl rfl (q_assignI rfl) ?_
 refine l_nil ?_
 refine hK14 _ _ ?_
 refine wp_seq_k (fun K17 hK17 => ?_)
 refine wp_region_lit ?_
 refine l_q rfl rfl (q_moveP rfl) ?_
 refine l_e rfl (fun K hK => ?_)
 refine e_call (by kernel_rfl) (take_any k mb (0 + 1 + 1) 0 0 L15 g15 hE15 hn15 (by omega) (1 : Int) _ (St.begin (Γ := [_, _, _]) hS16)) rfl (after_M (Γ1 := [_, _, _]) hS16 (fun v18 G18 w18 hv18 hS18 => ?_))
 clear hS16
 obtain ⟨l18, b18, an18, cn18, rfl, rfl, hs18⟩ := hv18
 have hS19 : St _ _ [.blk k (.cells #[.map (some mb), .int .i64 (((0 + 1 + 1) : Nat) : Int), .int .i64 (((0 + ls (absN L15) (1 : Int)) : Nat) : Int), .int .i64 ((0 : Nat) : Int)] 60), .mp (.int .i64) mb (List.map nc (mdel L15 (1 : Int))), .fz g15, .ow 3 1 an18 l18.nd.length cn18 (iv l18.nd)] _ := hS18; clear hS18
 have hn18 : NumOk (absN (mdel L15 (1 : Int))) (0 + 1 + 1) := by rw [absN_del]; exact hn15.del _
 have hgl18 := ls_add (absN L15) (1 : Int); rw [← absN_del, absN_len, absN_len] at hgl18
 obtain ⟨el18, eb18⟩ := tk_val hs18 (hn15.tkv (l := (Lr.mk (2 : Int) (1 : Int) (0 : Int) (7 : Int) [])) (by rw [eA15]; exact .tail _ (.head _))); subst el18 eb18
 have hls18 : ls (absN L15) (1 : Int) = 1 := hn15.ls (l := (Lr.mk (2 : Int) (1 : Int) (0 : Int) (7 : Int) [])) (by rw [eA15]; exact .tail _ (.head _))
 refine hK _ _ ?_; clear hK K
 refine l_q rfl rfl (q_move rfl) ?_
 refine l_q rfl rfl (q_extract rfl rfl) ?_
 refine l_q rfl rfl (q_extract rfl rfl) ?_
 refine l_e rfl (fun K hK => ?_)
 refine e_alloc (zv := .agg #[.int .i64 0, .int .i64 0, .int .i64 0, .int .i64 0, .slice none 0 0]) hS19 (by kernel_rfl) (fun b20 w20 (hS20 : St _ _ [.blk b20 (.cells #[.int .i64 (0 : Int), .int .i64 (0 : Int), .int .i64 (0 : Int), .int .i64 (0 : Int), .slice none 0 0] 25), _, _, .fz g15, .ow 3 1 an18 (((Lr.mk (2 : Int) (1 : Int) (0 : Int) (7 : Int) []).nd).length) cn18 (iv ((Lr.mk (2 : Int) (1 : Int) (0 : Int) (7 : Int) []).nd))] _) => ?_)
 clear hS19
 refine hK _ _ ?_; clear hK K
 refine l_e rfl (fun K hK => ?_)
 refine e_storeA hS20 rfl rfl (by kernel_rfl) (by repeat' (first | exact trivial | refine ⟨by first | rfl | assumption | exact one_if (by assumption), ?_⟩)) (i := 0) rfl rfl (fun w21 (hS21 : St _ _ [.blk b20 (.cells #[.int .i64 (2 : Int), .int .i64 (1 : Int), .int .i64 (0 : Int), .int .i64 (7 : Int), .slice an18 (((Lr.mk (2 : Int) (1 : Int) (0 : Int) (7 : Int) []).nd).length) cn18] 25), _, _, .fz g15, _] _) => ?_)
 clear hS20
 refine hK _ _ ?_; clear hK K
 refine l_q rfl rfl (q_assignI rfl) ?_
 refine l_nil ?_
 refine hK17 _ _ ?_
 refine wp_seq_k (fun K22 hK22 => ?_)
 refine wp_region_lit ?_
 refine l_q rfl rfl (q_moveI rfl) ?_
 refine l_q rfl rfl (q_eql rfl rfl) ?_
 refine l_q rfl rfl (q_moveB rfl) ?_
 refine l_on rfl rfl (by decide) ?_
 refine l_q rfl rfl (q_moveI rfl) ?_
 refine l_on rfl rfl (by decide) ?_
 refine l_q rfl rfl (q_eql rfl rfl) ?_
 refine l_q rfl rfl (q_pickT rfl (by decide) rfl) ?_
 refine l_q rfl rfl (q_moveB rfl) ?_
 refine l_on rfl rfl (by decide) ?_
 refine l_q rfl rfl (q_moveI rfl) ?_
 refine l_on rfl rfl (by decide) ?_
 refine l_q rfl rfl (q_eql rfl rfl) ?_
 refine l_q rfl rfl (q_pickT rfl (by decide) rfl) ?_
 refine l_q rfl rfl (q_moveB rfl) ?_
 refine l_on rfl rfl (by decide) ?_
 refine l_q rfl rfl (q_moveI rfl) ?_
 refine l_on rfl rfl (by decide) ?_
 refine l_q rfl rfl (q_eql rfl rfl) ?_
 refine l_q rfl rfl (q_pickT rfl (by decide) rfl) ?_
 refine l_q rfl rfl (q_moveB rfl) ?_
 refine g_splitL (t := 41) rfl (fun hg23 => ?_) (fun hg23 => ?_)
 ·
  have hg23b := hg23
  try simp only [decide_eq_true_eq, decide_eq_false_iff_not, Bool.not_eq_true', Bool.not_eq_false', Bool.and_eq_true, Bool.or_eq_true, Int.not_lt, Int.not_le, ne_eq, Decidable.not_not] at hg23
  refine l_on rfl rfl hg23b ?_
  refine l_q rfl rfl (q_moveI rfl) ?_
  refine l_on rfl rfl hg23b ?_
  refine l_q rfl rfl (q_eql rfl rfl) ?_
  refine l_q rfl rfl (q_pickT rfl hg23b rfl) ?_
  refine l_q rfl rfl (q_moveB rfl) ?_
  refine g_splitL (t := 45) rfl (fun hg24 => ?_) (fun hg24 => ?_)
  ·
   have hg24b := hg24
   try simp only [decide_eq_true_eq, decide_eq_false_iff_not, Bool.not_eq_true', Bool.not_eq_false', Bool.and_eq_true, Bool.or_eq_true, Int.not_lt, Int.not_le, ne_eq, Decidable.not_not] at hg24
   refine l_on rfl rfl hg24b ?_
   refine l_q rfl rfl (q_fieldAddr (ft := 3) (o := 3) rfl (by kernel_rfl)) ?_
   refine l_on rfl rfl hg24b ?_
   refine l_q rfl rfl (q_load1 rfl (by kernel_rfl) (hS21.cell (i := 0) rfl rfl)) ?_
   refine l_on rfl rfl hg24b ?_
   refine l_q rfl rfl (q_eql rfl rfl) ?_
   refine l_q rfl rfl (q_pickT rfl hg24b rfl) ?_
   refine l_q rfl rfl (q_moveB rfl) ?_
   refine l_on rfl rfl (by decide) ?_
   refine l_q rfl rfl (q_moveP rfl) ?_
   refine l_on rfl rfl (by decide) ?_
   refine l_e rfl (fun K hK => ?_)
   have hlm25 : (List.map Prod.fst (mdel L15 (1 : Int))).length = (mdel L15 (1 : Int)).length := List.length_map _
   refine e_call (by kernel_rfl) (nums_ok k mb (0 + 1 + 1) (0 + ls (absN L15) (1 : Int)) 0 (mdel L15 (1 : Int)) hn18 (by omega) (by omega) _ (hS21.blk (i := 1) rfl) (hS21.map (i := 2) rfl) ((EOk.del hE15 (1 : Int)).mono (hS21.fz (i := 3) rfl))) rfl (after_N hS21 (fun v25 G25 w25 hv25 hS25 => ?_))
   clear hS21
   obtain ⟨ad25, cp25, rfl, rfl⟩ := hv25
   have hS26 : St _ _ [.ow 3 1 ad25 ((List.map Prod.fst (mdel L15 (1 : Int))).length) cp25 (iv (List.map Prod.fst (mdel L15 (1 : Int)))), _, _, _, .fz g15, _] _ := hS25; clear hS25
   refine hK _ _ ?_; clear hK K
   refine l_on rfl rfl (by decide) ?_
   refine l_q rfl rfl (q_lenSl (e := 3) rfl (by kernel_rfl)) ?_
   refine l_on rfl rfl (by decide) ?_
   refine l_q rfl rfl (q_eql rfl rfl) ?_
   refine l_q rfl rfl (q_pickT rfl (by decide) rfl) ?_
   refine l_q rfl rfl (q_assignB rfl) ?_
   refine l_nil ?_
   refine hK22 _ _ ?_
   refine wp_ret ?_
   refine c_ret1 rfl rfl ?_
   first | exact ⟨_, rfl, rfl, hS26.drop⟩ | exact ⟨_, rfl, congrArg Value.bool (decide_eq_true (by omega)), hS26.drop⟩
  ·
   have hg24b := hg24
   try simp only [decide_eq_true_eq, decide_eq_false_iff_not, Bool.not_eq_true', Bool.not_eq_false', Bool.and_eq_true, Bool.or_eq_true, Int.not_lt, Int.not_le, ne_eq, Decidable.not_not] at hg24
   exfalso; omega
 ·
  have hg23b := hg23
  try simp only [decide_eq_true_eq, decide_eq_false_iff_not, Bool.not_eq_true', Bool.not_eq_false', Bool.and_eq_true, Bool.or_eq_true, Int.not_lt, Int.not_le, ne_eq, Decidable.not_not] at hg23
  exfalso; omega

set_option maxRecDepth 100000 in
theorem netNil_ok (l : Lr) (an : Option Addr) (n cn : Nat) (z : Int) (w : World) : Calls Try.prog 8 #[.agg #[.int .i64 l.k, .int .i64 l.f, .int .i64 l.t, .int .i64 l.x, .slice an n cn], .int .i64 z] w (PostR w fun v => v = .bool true) := by
 have hS := St.start w
 refine c_enter Try.func8 rfl rfl rfl ?_
 refine wp_seq_k (fun K1 hK1 => ?_)
 refine wp_region_lit ?_
 refine l_e rfl (fun K hK => ?_)
 refine e_boxA hS rfl (fun b2 w2 (hS2 : St _ _ [.blk b2 (.cells #[.int .i64 l.k, .int .i64 l.f, .int .i64 l.t, .int .i64 l.x, .slice an n cn] 25)] _) => ?_)
 clear hS
 refine hK _ _ ?_; clear hK K
 refine l_q rfl rfl (q_assignB rfl) ?_
 refine l_nil ?_
 refine hK1 _ _ ?_
 refine wp_seq_k (fun K3 hK3 => ?_)
 refine wp_region_lit ?_
 refine l_q rfl rfl (q_assignP rfl) ?_
 refine l_nil ?_
 refine hK3 _ _ ?_
 refine wp_seq_k (fun K4 hK4 => ?_)
 refine wp_region_lit ?_
 refine l_q rfl rfl (q_moveP rfl) ?_
 refine l_q rfl rfl (q_loadA (m := 5) rfl (by kernel_rfl) (by kernel_rfl) (hS2.blk (i := 0) rfl) rfl rfl) ?_
 refine l_e rfl (fun K hK => ?_)
 refine e_call (by kernel_rfl) (send_nil (Lr.mk l.k l.f l.t l.x []) an n cn _) rfl (after_R hS2 (fun v5 w5 hv5 hS5 => ?_))
 clear hS2
 obtain rfl := hv5
 refine hK _ _ ?_; clear hK K
 refine l_q rfl rfl (q_move rfl) ?_
 refine l_q rfl rfl (q_extract rfl rfl) ?_
 refine l_q rfl rfl (q_extract rfl rfl) ?_
 refine l_q rfl rfl (q_assignI rfl) ?_
 refine l_q rfl rfl (q_assignI rfl) ?_
 refine l_nil ?_
 refine hK4 _ _ ?_
 refine wp_seq_k (fun K6 hK6 => ?_)
 refine wp_region_lit ?_
 refine l_q rfl rfl (q_moveP rfl) ?_
 refine l_q rfl rfl (q_moveI rfl) ?_
 refine l_e rfl (fun K hK => ?_)
 refine e_call (by kernel_rfl) (take_nil z _) rfl (after_R hS5 (fun v7 w7 hv7 hS7 => ?_))
 clear hS5
 obtain rfl := hv7
 refine hK _ _ ?_; clear hK K
 refine l_q rfl rfl (q_move rfl) ?_
 refine l_q rfl rfl (q_extract rfl rfl) ?_
 refine l_q rfl rfl (q_extract rfl rfl) ?_
 refine l_e rfl (fun K hK => ?_)
 refine e_alloc (zv := .agg #[.int .i64 0, .int .i64 0, .int .i64 0, .int .i64 0, .slice none 0 0]) hS7 (by kernel_rfl) (fun b8 w8 (hS8 : St _ _ [.blk b8 (.cells #[.int .i64 (0 : Int), .int .i64 (0 : Int), .int .i64 (0 : Int), .int .i64 (0 : Int), .slice none 0 0] 25), _] _) => ?_)
 clear hS7
 refine hK _ _ ?_; clear hK K
 refine l_e rfl (fun K hK => ?_)
 refine e_storeA hS8 rfl rfl (by kernel_rfl) (by repeat' (first | exact trivial | refine ⟨by first | rfl | assumption | exact one_if (by assumption), ?_⟩)) (i := 0) rfl rfl (fun w9 (hS9 : St _ _ [_, _] _) => ?_)
 clear hS8
 refine hK _ _ ?_; clear hK K
 refine l_q rfl rfl (q_assignI rfl) ?_
 refine l_nil ?_
 refine hK6 _ _ ?_
 refine wp_seq_k (fun K10 hK10 => ?_)
 refine wp_region_lit ?_
 refine l_q rfl rfl (q_moveP rfl) ?_
 refine l_q rfl rfl (q_moveI rfl) ?_
 refine l_e rfl (fun K hK => ?_)
 refine e_call (by kernel_rfl) (twice_nil z _) rfl (after_R hS9 (fun v11 w11 hv11 hS11 => ?_))
 clear hS9
 obtain rfl := hv11
 refine hK _ _ ?_; clear hK K
 refine l_q rfl rfl (q_move rfl) ?_
 refine l_q rfl rfl (q_extract rfl rfl) ?_
 refine l_q rfl rfl (q_extract rfl rfl) ?_
 refine l_q rfl rfl (q_assignI rfl) ?_
 refine l_q rfl rfl (q_assignI rfl) ?_
 refine l_nil ?_
 refine hK10 _ _ ?_
 refine wp_seq_k (fun K12 hK12 => ?_)
 refine wp_region_lit ?_
 refine l_q rfl rfl (q_moveP rfl) ?_
 refine l_q rfl rfl (q_moveI rfl) ?_
 refine l_e rfl (fun K hK => ?_)
 refine e_call (by kernel_rfl) (look_nil z _) rfl (after_R hS11 (fun v13 w13 hv13 hS13 => ?_))
 clear hS11
 obtain rfl := hv13
 refine hK _ _ ?_; clear hK K
 refine l_q rfl rfl (q_move rfl) ?_
 refine l_q rfl rfl (q_extract rfl rfl) ?_
 refine l_q rfl rfl (q_extract rfl rfl) ?_
 refine l_e rfl (fun K hK => ?_)
 refine e_alloc (zv := .agg #[.int .i64 0, .int .i64 0, .int .i64 0, .int .i64 0, .slice none 0 0]) hS13 (by kernel_rfl) (fun b14 w14 (hS14 : St _ _ [.blk b14 (.cells #[.int .i64 (0 : Int), .int .i64 (0 : Int), .int .i64 (0 : Int), .int .i64 (0 : Int), .slice none 0 0] 25), _, _] _) => ?_)
 clear hS13
 refine hK _ _ ?_; clear hK K
 refine l_e rfl (fun K hK => ?_)
 refine e_storeA hS14 rfl rfl (by kernel_rfl) (by repeat' (first | exact trivial | refine ⟨by first | rfl | assumption | exact one_if (by assumption), ?_⟩)) (i := 0) rfl rfl (fun w15 (hS15 : St _ _ [_, _, _] _) => ?_)
 clear hS14
 refine hK _ _ ?_; clear hK K
 refine l_q rfl rfl (q_assignI rfl) ?_
 refine l_nil ?_
 refine hK12 _ _ ?_
 refine wp_seq_k (fun K16 hK16 => ?_)
 refine wp_region_lit ?_
 refine l_q rfl rfl (q_moveP rfl) ?_
 refine l_e rfl (fun K hK => ?_)
 refine e_call (by kernel_rfl) (told_nil _) rfl (after_R hS15 (fun v17 w17 hv17 hS17 => ?_))
 clear hS15
 obtain rfl := hv17
 refine hK _ _ ?_; clear hK K
 refine l_q rfl rfl (q_move rfl) ?_
 refine l_q rfl rfl (q_extract rfl rfl) ?_
 refine l_q rfl rfl (q_extract rfl rfl) ?_
 refine l_q rfl rfl (q_extract rfl rfl) ?_
 refine l_q rfl rfl (q_assignI rfl) ?_
 refine l_q rfl rfl (q_assignI rfl) ?_
 refine l_q rfl rfl (q_assignI rfl) ?_
 refine l_nil ?_
 refine hK16 _ _ ?_
 refine wp_seq_k (fun K18 hK18 => ?_)
 refine wp_region_lit ?_
 refine l_e rfl (fun K hK => ?_)
 refine e_call (by kernel_rfl) (alive12_ok _) rfl (after_R hS17 (fun v19 w19 hv19 hS19 => ?_))
 clear hS17
 obtain rfl := hv19
 refine hK _ _ ?_; clear hK K
 refine l_q rfl rfl (q_moveB rfl) ?_
 refine l_on rfl rfl rfl ?_
 refine l_q rfl rfl (q_moveI rfl) ?_
 refine l_on rfl rfl rfl ?_
 refine l_q rfl rfl (q_eql rfl rfl) ?_
 refine l_q rfl rfl (q_pickT rfl rfl rfl) ?_
 refine l_q rfl rfl (q_moveB rfl) ?_
 refine l_on rfl rfl (by decide) ?_
 refine l_q rfl rfl (q_moveI rfl) ?_
 refine l_on rfl rfl (by decide) ?_
 refine l_q rfl rfl (q_eql rfl rfl) ?_
 refine l_q rfl rfl (q_pickT rfl (by decide) rfl) ?_
 refine l_q rfl rfl (q_moveB rfl) ?_
 refine l_on rfl rfl (by decide) ?_
 refine l_q rfl rfl (q_fieldAddr (ft := 3) (o := 3) rfl (by kernel_rfl)) ?_
 refine l_on rfl rfl (by decide) ?_
 refine l_q rfl rfl (q_load1 rfl (by kernel_rfl) (hS19.cell (i := 1) rfl rfl)) ?_
 refine l_on rfl rfl (by decide) ?_
 refine l_q rfl rfl (q_eql rfl rfl) ?_
 refine l_q rfl rfl (q_pickT rfl (by decide) rfl) ?_
 refine l_q rfl rfl (q_moveB rfl) ?_
 refine l_on rfl rfl (by decide) ?_
 refine l_q rfl rfl (q_moveI rfl) ?_
 refine l_on rfl rfl (by decide) ?_
 refine l_q rfl rfl (q_eql rfl rfl) ?_
 refine l_q rfl rfl (q_pickT rfl (by decide) rfl) ?_
 refine l_q rfl rfl (q_moveB rfl) ?_
 refine l_on rfl rfl (by decide) ?_
 refine l_q rfl rfl (q_moveI rfl) ?_
 refine l_on rfl rfl (by decide) ?_
 refine l_q rfl rfl (q_eql rfl rfl) ?_
 refine l_q rfl rfl (q_pickT rfl (by decide) rfl) ?_
 refine l_q rfl rfl (q_moveB rfl) ?_
 refine l_on rfl rfl (by decide) ?_
 refine l_q rfl rfl (q_moveI rfl) ?_
 refine l_on rfl rfl (by decide) ?_
 refine l_q rfl rfl (q_eql rfl rfl) ?_
 refine l_q rfl rfl (q_pickT rfl (by decide) rfl) ?_
 refine l_q rfl rfl (q_moveB rfl) ?_
 refine l_on rfl rfl (by decide) ?_
 refine l_q rfl rfl (q_moveI rfl) ?_
 refine l_on rfl rfl (by decide) ?_
 refine l_q rfl rfl (q_eql rfl rfl) ?_
 refine l_q rfl rfl (q_pickT rfl (by decide) rfl) ?_
 refine l_q rfl rfl (q_moveB rfl) ?_
 refine l_on rfl rfl (by decide) ?_
 refine l_q rfl rfl (q_moveP rfl) ?_
 refine l_on rfl rfl (by decide) ?_
 refine l_q rfl rfl (q_moveI rfl) ?_
 refine l_on rfl rfl (by decide) ?_
 refine l_e rfl (fun K hK => ?_)
 refine e_call (by kernel_rfl) (lose_nil z _) rfl (after_R hS19 (fun v20 w20 hv20 hS20 => ?_))
 clear hS19
 obtain rfl := hv20
 refine hK _ _ ?_; clear hK K
 refine l_on rfl rfl (by decide) ?_
 refine l_q rfl rfl (q_eql rfl rfl) ?_
 refine l_q rfl rfl (q_pickT rfl (by decide) rfl) ?_
 refine l_q rfl rfl (q_moveB rfl) ?_
 refine l_on rfl rfl (by decide) ?_
 refine l_q rfl rfl (q_moveP rfl) ?_
 refine l_on rfl rfl (by decide) ?_
 refine l_e rfl (fun K hK => ?_)
 refine e_call (by kernel_rfl) (nums_nil _) rfl (after_R hS20 (fun v21 w21 hv21 hS21 => ?_))
 clear hS20
 obtain rfl := hv21
 refine hK _ _ ?_; clear hK K
 refine l_on rfl rfl (by decide) ?_
 refine l_q rfl rfl (q_lenSl (e := 3) rfl (by kernel_rfl)) ?_
 refine l_on rfl rfl (by decide) ?_
 refine l_q rfl rfl (q_eql rfl rfl) ?_
 refine l_q rfl rfl (q_pickT rfl (by decide) rfl) ?_
 refine l_q rfl rfl (q_moveB rfl) ?_
 refine l_on rfl rfl (by decide) ?_
 refine l_q rfl rfl (q_moveP rfl) ?_
 refine l_on rfl rfl (by decide) ?_
 refine l_q rfl rfl (q_moveI rfl) ?_
 refine l_on rfl rfl (by decide) ?_
 refine l_e rfl (fun K hK => ?_)
 refine e_call (by kernel_rfl) (to_nil z _) rfl (after_R hS21 (fun v22 w22 hv22 hS22 => ?_))
 clear hS21
 obtain rfl := hv22
 refine hK _ _ ?_; clear hK K
 refine l_on rfl rfl (by decide) ?_
 refine l_q rfl rfl (q_lenSl (e := 3) rfl (by kernel_rfl)) ?_
 refine l_on rfl rfl (by decide) ?_
 refine l_q rfl rfl (q_eql rfl rfl) ?_
 refine l_q rfl rfl (q_pickT rfl (by decide) rfl) ?_
 refine l_q rfl rfl (q_moveB rfl) ?_
 refine l_on rfl rfl (by decide) ?_
 refine l_q rfl rfl (q_moveI rfl) ?_
 refine l_on rfl rfl (by decide) ?_
 refine l_q rfl rfl (q_moveI rfl) ?_
 refine l_on rfl rfl (by decide) ?_
 refine l_q rfl rfl (q_addx rfl rfl (by first | decide | omega) (by first | decide | omega)) ?_
 refine l_on rfl rfl (by decide) ?_
 refine l_q rfl rfl (q_moveI rfl) ?_
 refine l_on rfl rfl (by decide) ?_
 refine l_q rfl rfl (q_addx rfl rfl (by first | decide | omega) (by first | decide | omega)) ?_
 refine l_on rfl rfl (by decide) ?_
 refine l_q rfl rfl (q_eql rfl rfl) ?_
 refine l_q rfl rfl (q_pickT rfl (by decide) rfl) ?_
 refine l_q rfl rfl (q_assignB rfl) ?_
 refine l_nil ?_
 refine hK18 _ _ ?_
 refine wp_ret ?_
 refine c_ret1 rfl rfl ?_
 exact ⟨_, rfl, rfl, hS22.drop⟩

end Go.Proofs.Ytlplhlncdfhhoaa
