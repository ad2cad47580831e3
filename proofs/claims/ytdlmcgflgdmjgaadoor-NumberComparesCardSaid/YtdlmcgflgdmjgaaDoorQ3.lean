/- Great numbers: Of. -/
import Derived.Test.YtdlmcgflgdmjgaaDoorQ2
import Derived.Test.YtdlmcgflgdmjgaaDoorSc
set_option linter.unusedVariables false
set_option linter.unusedSimpArgs false
namespace Go.Proofs.YtdlmcgflgdmjgaaDoor
open Go.RowKit
theorem of_neg {n : Int} (h : -9223372036854775808 ≤ n) (h0 : n < 0) : (toU (IntKind.i64.wrap (0 - (n + 1))) + 1) % 18446744073709551616 = n.natAbs := by
  have h1 : IntKind.i64.wrap (0 - (n + 1)) = -(n + 1) := by
    rw [IntKind.wrap_i64]
    try unfold wrap64
    omega
  rw [h1]; unfold toU; omega
theorem of_pos {n : Int} (h : n ≤ 9223372036854775807) (h0 : 0 ≤ n) : toU n = n.natAbs := by unfold toU; omega
/-- A whole number as a great one. -/
def OfP (n : Int) (v : Value) : Prop := ∃ d0 d1 : Nat, v = .agg #[.bool (decide (n < 0)), .int .u64 ((d0 : Nat) : Int), .int .u64 ((d1 : Nat) : Int), .int .u64 0, .int .u64 0, .int .u64 0, .int .u64 0] ∧ d0 < 4294967296 ∧ d1 < 4294967296 ∧ d0 + 4294967296 * d1 = n.natAbs
theorem OfP.mk {n : Int} {m : Bool} {u : Nat} (hm : m = decide (n < 0)) (hu : u = n.natAbs) (hl : n.natAbs ≤ 9223372036854775808) : OfP n (.agg #[.bool m, .int .u64 ((u % 4294967296 : Nat) : Int), .int .u64 ((u / 2 ^ 32 : Nat) : Int), .int .u64 0, .int .u64 0, .int .u64 0, .int .u64 0]) := by
  subst hm
  rw [show (2 : Nat) ^ 32 = 4294967296 from rfl]
  exact ⟨_, _, rfl, by omega, by omega, by omega⟩
attribute [local irreducible] Oper.wp Sem.run Code.wp wpList wpAnyO callFunc execOp Calls
attribute [local irreducible] rightQ cmpZ cmB orL vcmp
attribute [local irreducible] dv toU

set_option maxRecDepth 100000 in
theorem of_ok (n : Int) (hn : -9223372036854775808 ≤ n) (hn2 : n ≤ 9223372036854775807) (w : World) : Calls Tryd.prog 74 #[.int .i64 n] w (PostR w fun v => OfP n v) := by
 have hS := St.start w
 refine c_enter Tryd.func74 rfl rfl rfl ?_
 refine wp_seq_k (fun K1 hK1 => ?_)
 refine wp_region_lit ?_
 refine l_e rfl (fun K hK => ?_)
 refine e_alloc (zv := .agg #[.bool false, .int .u64 0, .int .u64 0, .int .u64 0, .int .u64 0, .int .u64 0, .int .u64 0]) hS (by kernel_rfl) (fun b2 w2 (hS2 : St _ _ [.blk b2 (.cells #[.bool false, .int .u64 (0 : Int), .int .u64 (0 : Int), .int .u64 (0 : Int), .int .u64 (0 : Int), .int .u64 (0 : Int), .int .u64 (0 : Int)] 108)] _) => ?_)
 clear hS
 refine hK _ _ ?_; clear hK K
 refine l_nil ?_
 refine hK1 _ _ ?_
 refine wp_seq_k (fun K3 hK3 => ?_)
 refine wp_region_lit ?_
 refine l_e rfl (fun K hK => ?_)
 refine e_alloc (zv := .agg #[.bool false, .int .u64 0, .int .u64 0, .int .u64 0, .int .u64 0, .int .u64 0, .int .u64 0]) hS2 (by kernel_rfl) (fun b4 w4 (hS4 : St _ _ [.blk b4 (.cells #[.bool false, .int .u64 (0 : Int), .int .u64 (0 : Int), .int .u64 (0 : Int), .int .u64 (0 : Int), .int .u64 (0 : Int), .int .u64 (0 : Int)] 108), _] _) => ?_)
 clear hS2
 refine hK _ _ ?_; clear hK K
 refine l_nil ?_
 refine hK3 _ _ ?_
 refine wp_seq_k (fun K5 hK5 => ?_)
 refine wp_region_lit ?_
 refine l_q rfl rfl (q_moveI rfl) ?_
 refine l_q rfl rfl (q_convU (z := n) rfl (by kernel_rfl) rfl) ?_
 refine l_q rfl rfl (q_assignI rfl) ?_
 refine l_nil ?_
 refine hK5 _ _ ?_
 refine wp_seq_k (fun K6 hK6 => ?_)
 refine wp_seq_k (fun K7 hK7 => ?_)
 refine wp_region_lit ?_
 refine l_q rfl rfl (q_moveI rfl) ?_
 refine l_q rfl rfl (q_lss rfl rfl) ?_
 refine l_nil ?_
 refine hK7 _ _ ?_
 refine c_cond rfl (fun hc8 => ?_) (fun hc8 => ?_)
 ·
  have hc8b := hc8
  try simp only [decide_eq_true_eq, decide_eq_false_iff_not, Bool.not_eq_true', Bool.not_eq_false', Bool.and_eq_true, Bool.or_eq_true, Int.not_lt, Int.not_le, ne_eq, Decidable.not_not] at hc8
  refine wp_seq_k (fun K9 hK9 => ?_)
  refine wp_region_lit ?_
  refine l_q rfl rfl (q_fieldAddr (ft := 4) (o := 0) rfl (by kernel_rfl)) ?_
  refine l_e rfl (fun K hK => ?_)
  refine e_store1 hS4 rfl rfl (by kernel_rfl) (by first | rfl | assumption) (i := 0) rfl rfl (fun w10 (hS10 : St _ _ [.blk b4 (.cells #[.bool true, .int .u64 (0 : Int), .int .u64 (0 : Int), .int .u64 (0 : Int), .int .u64 (0 : Int), .int .u64 (0 : Int), .int .u64 (0 : Int)] 108), _] _) => ?_)
  clear hS4
  refine hK _ _ ?_; clear hK K
  refine l_nil ?_
  refine hK9 _ _ ?_
  refine wp_region_lit ?_
  refine l_q rfl rfl (q_moveI rfl) ?_
  refine l_q rfl rfl (q_addx rfl rfl (by first | decide | omega) (by first | decide | omega)) ?_
  refine l_q rfl rfl (q_neg rfl) ?_
  refine l_q rfl rfl (q_convU (z := (IntKind.i64.wrap (0 - (n + (1 : Int))))) rfl (by kernel_rfl) rfl) ?_
  refine l_q rfl rfl (u_add (a := (toU (IntKind.i64.wrap (0 - (n + (1 : Int)))))) (b := 1) (M := 18446744073709551616) rfl rfl rfl (by decide)) ?_
  refine l_q rfl rfl (q_assignI rfl) ?_
  refine l_nil ?_
  refine hK6 _ _ ?_
  refine wp_seq_k (fun K11 hK11 => ?_)
  refine wp_region_lit ?_
  refine l_q rfl rfl (q_moveI rfl) ?_
  refine l_q rfl rfl (q_remN (a := (((toU (IntKind.i64.wrap (0 - (n + (1 : Int))))) + 1) % 18446744073709551616)) (b := 4294967296) rfl rfl (by first | decide | omega)) ?_
  refine l_q rfl rfl (q_fieldAddr (ft := 106) (o := 1) rfl (by kernel_rfl)) ?_
  refine l_q rfl rfl (q_indexAddrA (len := 6) (e := 105) (m := 1) rfl rfl (by kernel_rfl) (by kernel_rfl) (by decide) (by decide)) ?_
  refine l_e rfl (fun K hK => ?_)
  refine e_store1 hS10 rfl rfl (by kernel_rfl) (by first | rfl | assumption) (i := 0) rfl rfl (fun w12 (hS12 : St _ _ [.blk b4 (.cells #[.bool true, .int .u64 ((((((toU (IntKind.i64.wrap (0 - (n + (1 : Int))))) + 1) % 18446744073709551616) % 4294967296) : Nat) : Int), .int .u64 (0 : Int), .int .u64 (0 : Int), .int .u64 (0 : Int), .int .u64 (0 : Int), .int .u64 (0 : Int)] 108), _] _) => ?_)
  clear hS10
  refine hK _ _ ?_; clear hK K
  refine l_nil ?_
  refine hK11 _ _ ?_
  refine wp_seq_k (fun K13 hK13 => ?_)
  refine wp_region_lit ?_
  refine l_q rfl rfl (q_moveI rfl) ?_
  refine l_q rfl rfl (q_shrN (k := .u64) (a := (((toU (IntKind.i64.wrap (0 - (n + (1 : Int))))) + 1) % 18446744073709551616)) (b := 32) rfl rfl (by decide)) ?_
  refine l_q rfl rfl (q_fieldAddr (ft := 106) (o := 1) rfl (by kernel_rfl)) ?_
  refine l_q rfl rfl (q_indexAddrA (len := 6) (e := 105) (m := 1) rfl rfl (by kernel_rfl) (by kernel_rfl) (by decide) (by decide)) ?_
  refine l_e rfl (fun K hK => ?_)
  refine e_store1 hS12 rfl rfl (by kernel_rfl) (by first | rfl | assumption) (i := 0) rfl rfl (fun w14 (hS14 : St _ _ [.blk b4 (.cells #[.bool true, .int .u64 ((((((toU (IntKind.i64.wrap (0 - (n + (1 : Int))))) + 1) % 18446744073709551616) % 4294967296) : Nat) : Int), .int .u64 ((((((toU (IntKind.i64.wrap (0 - (n + (1 : Int))))) + 1) % 18446744073709551616) / 2 ^ 32) : Nat) : Int), .int .u64 (0 : Int), .int .u64 (0 : Int), .int .u64 (0 : Int), .int .u64 (0 : Int)] 108), _] _) => ?_)
  clear hS12
  refine hK _ _ ?_; clear hK K
  refine l_nil ?_
  refine hK13 _ _ ?_
  refine wp_seq_k (fun K15 hK15 => ?_)
  refine wp_region_lit ?_
  refine l_q rfl rfl (q_loadA (m := 7) rfl (by kernel_rfl) (by kernel_rfl) (hS14.blk (i := 0) rfl) rfl rfl) ?_
  refine l_e rfl (fun K hK => ?_)
  refine e_storeA hS14 rfl rfl (by kernel_rfl) (by repeat' (first | exact trivial | refine ⟨by first | rfl | assumption | exact one_if (by assumption), ?_⟩)) (i := 1) rfl rfl (fun w16 (hS16 : St _ _ [_, .blk b2 (.cells #[.bool true, .int .u64 ((((((toU (IntKind.i64.wrap (0 - (n + (1 : Int))))) + 1) % 18446744073709551616) % 4294967296) : Nat) : Int), .int .u64 ((((((toU (IntKind.i64.wrap (0 - (n + (1 : Int))))) + 1) % 18446744073709551616) / 2 ^ 32) : Nat) : Int), .int .u64 (0 : Int), .int .u64 (0 : Int), .int .u64 (0 : Int), .int .u64 (0 : Int)] 108)] _) => ?_)
  clear hS14
  refine hK _ _ ?_; clear hK K
  refine l_nil ?_
  refine hK15 _ _ ?_
  refine wp_ret ?_
  refine c_retC (m := 7) rfl (by kernel_rfl) (by kernel_rfl) rfl (by first | exact hS16.blk (i := 0) rfl | exact hS16.blk (i := 1) rfl | exact hS16.blk (i := 2) rfl | exact hS16.blk (i := 3) rfl | exact hS16.blk (i := 4) rfl) rfl ?_
  exact ⟨_, rfl, OfP.mk (n := n) (decide_eq_true (by omega)).symm (of_neg (by omega) (by omega)) (by omega), hS16.drop⟩
 ·
  have hc8b := hc8
  try simp only [decide_eq_true_eq, decide_eq_false_iff_not, Bool.not_eq_true', Bool.not_eq_false', Bool.and_eq_true, Bool.or_eq_true, Int.not_lt, Int.not_le, ne_eq, Decidable.not_not] at hc8
  refine wp_skip ?_
  refine hK6 _ _ ?_
  refine wp_seq_k (fun K17 hK17 => ?_)
  refine wp_region_lit ?_
  refine l_q rfl rfl (q_moveI rfl) ?_
  refine l_q rfl rfl (q_remN (a := (toU n)) (b := 4294967296) rfl rfl (by first | decide | omega)) ?_
  refine l_q rfl rfl (q_fieldAddr (ft := 106) (o := 1) rfl (by kernel_rfl)) ?_
  refine l_q rfl rfl (q_indexAddrA (len := 6) (e := 105) (m := 1) rfl rfl (by kernel_rfl) (by kernel_rfl) (by decide) (by decide)) ?_
  refine l_e rfl (fun K hK => ?_)
  refine e_store1 hS4 rfl rfl (by kernel_rfl) (by first | rfl | assumption) (i := 0) rfl rfl (fun w18 (hS18 : St _ _ [.blk b4 (.cells #[.bool false, .int .u64 ((((toU n) % 4294967296) : Nat) : Int), .int .u64 (0 : Int), .int .u64 (0 : Int), .int .u64 (0 : Int), .int .u64 (0 : Int), .int .u64 (0 : Int)] 108), _] _) => ?_)
  clear hS4
  refine hK _ _ ?_; clear hK K
  refine l_nil ?_
  refine hK17 _ _ ?_
  refine wp_seq_k (fun K19 hK19 => ?_)
  refine wp_region_lit ?_
  refine l_q rfl rfl (q_moveI rfl) ?_
  refine l_q rfl rfl (q_shrN (k := .u64) (a := (toU n)) (b := 32) rfl rfl (by decide)) ?_
  refine l_q rfl rfl (q_fieldAddr (ft := 106) (o := 1) rfl (by kernel_rfl)) ?_
  refine l_q rfl rfl (q_indexAddrA (len := 6) (e := 105) (m := 1) rfl rfl (by kernel_rfl) (by kernel_rfl) (by decide) (by decide)) ?_
  refine l_e rfl (fun K hK => ?_)
  refine e_store1 hS18 rfl rfl (by kernel_rfl) (by first | rfl | assumption) (i := 0) rfl rfl (fun w20 (hS20 : St _ _ [.blk b4 (.cells #[.bool false, .int .u64 ((((toU n) % 4294967296) : Nat) : Int), .int .u64 ((((toU n) / 2 ^ 32) : Nat) : Int), .int .u64 (0 : Int), .int .u64 (0 : Int), .int .u64 (0 : Int), .int .u64 (0 : Int)] 108), _] _) => ?_)
  clear hS18
  refine hK _ _ ?_; clear hK K
  refine l_nil ?_
  refine hK19 _ _ ?_
  refine wp_seq_k (fun K21 hK21 => ?_)
  refine wp_region_lit ?_
  refine l_q rfl rfl (q_loadA (m := 7) rfl (by kernel_rfl) (by kernel_rfl) (hS20.blk (i := 0) rfl) rfl rfl) ?_
  refine l_e rfl (fun K hK => ?_)
  refine e_storeA hS20 rfl rfl (by kernel_rfl) (by repeat' (first | exact trivial | refine ⟨by first | rfl | assumption | exact one_if (by assumption), ?_⟩)) (i := 1) rfl rfl (fun w22 (hS22 : St _ _ [_, .blk b2 (.cells #[.bool false, .int .u64 ((((toU n) % 4294967296) : Nat) : Int), .int .u64 ((((toU n) / 2 ^ 32) : Nat) : Int), .int .u64 (0 : Int), .int .u64 (0 : Int), .int .u64 (0 : Int), .int .u64 (0 : Int)] 108)] _) => ?_)
  clear hS20
  refine hK _ _ ?_; clear hK K
  refine l_nil ?_
  refine hK21 _ _ ?_
  refine wp_ret ?_
  refine c_retC (m := 7) rfl (by kernel_rfl) (by kernel_rfl) rfl (by first | exact hS22.blk (i := 0) rfl | exact hS22.blk (i := 1) rfl | exact hS22.blk (i := 2) rfl | exact hS22.blk (i := 3) rfl | exact hS22.blk (i := 4) rfl) rfl ?_
  exact ⟨_, rfl, OfP.mk (n := n) (decide_eq_false (by omega)).symm (of_pos (by omega) (by omega)) (by omega), hS22.drop⟩

end Go.Proofs.YtdlmcgflgdmjgaaDoor
