/- Great numbers: Add. -/
import Derived.Test.YtdlmcgflgdmjgaaDoorQ3
set_option linter.unusedVariables false
set_option linter.unusedSimpArgs false
namespace Go.Proofs.YtdlmcgflgdmjgaaDoor
open Go.RowKit
section
variable {P : Program} {n : Nat} {f : Nat → Value} {w : World} {d : Option Tmp} {x y : Operand} {ty T T' : TypeId} {pos : String} {aft : Array Edge} {g : Option (Nat × Bool)}
theorem u_subN {k : IntKind} {a b : Nat} (hk : k.signed = false) (hx : ev n f x = .int k (a : Int)) (hy : ev n f y = .int k (b : Int)) (h : b ≤ a) (ha : a < 2 ^ k.bits) : Run P n f ⟨d, .binOp .sub T x y T', ty, pos, aft, g⟩ w (.int k ((a - b : Nat) : Int)) := by
  have := q_sub (P := P) (w := w) (d := d) (T := T) (T' := T') (ty := ty) (pos := pos) (aft := aft) (g := g) hx hy
  rwa [show (a : Int) - (b : Int) = ((a - b : Nat) : Int) from by omega, wrap_u hk, Nat.mod_eq_of_lt (by omega)] at this
end
def sv (m : Bool) (k : Nat) : Int := if m = true then -(k : Int) else (k : Int)
def bigV (m : Bool) (a b c d e f : Nat) : Value := .agg #[.bool m, .int .u64 ((a : Nat) : Int), .int .u64 ((b : Nat) : Int), .int .u64 ((c : Nat) : Int), .int .u64 ((d : Nat) : Int), .int .u64 ((e : Nat) : Int), .int .u64 ((f : Nat) : Int)]
def BigP (z : Int) (v : Value) : Prop := ∃ m a b c d e f, v = bigV m a b c d e f ∧ a < 4294967296 ∧ b < 4294967296 ∧ c < 4294967296 ∧ d < 4294967296 ∧ e < 4294967296 ∧ f < 4294967296 ∧ sv m (dv a b c d e f) = z
attribute [local irreducible] Oper.wp Sem.run Code.wp wpList wpAnyO callFunc execOp Calls
attribute [local irreducible] rightQ cmpZ cmB orL vcmp
attribute [local irreducible] toU

set_option maxHeartbeats 8000000 in
set_option maxRecDepth 100000 in
theorem addQ_ok (m1 m2 : Bool) (p0 p1 p2 p3 p4 p5 q0 q1 q2 q3 q4 q5 : Nat) (hp0 : p0 < 4294967296) (hp1 : p1 < 4294967296) (hp2 : p2 < 4294967296) (hp3 : p3 < 4294967296) (hp4 : p4 < 4294967296) (hp5 : p5 < 4294967296) (hq0 : q0 < 4294967296) (hq1 : q1 < 4294967296) (hq2 : q2 < 4294967296) (hq3 : q3 < 4294967296) (hq4 : q4 < 4294967296) (hq5 : q5 < 4294967296) (hp5s : p5 < 1000) (hq5s : q5 < 1000) (w : World) : Calls Tryd.prog 59 #[bigV m1 p0 p1 p2 p3 p4 p5, bigV m2 q0 q1 q2 q3 q4 q5] w (PostR w fun v => BigP (sv m1 (dv p0 p1 p2 p3 p4 p5) + sv m2 (dv q0 q1 q2 q3 q4 q5)) v) := by
 have hS := St.start w
 refine c_enter Tryd.func59 rfl rfl rfl ?_
 refine wp_seq_k (fun K1 hK1 => ?_)
 refine wp_region_lit ?_
 refine l_e rfl (fun K hK => ?_)
 refine e_boxA hS rfl (fun b2 w2 (hS2 : St _ _ [.blk b2 (.cells #[.bool m1, .int .u64 (p0 : Int), .int .u64 (p1 : Int), .int .u64 (p2 : Int), .int .u64 (p3 : Int), .int .u64 (p4 : Int), .int .u64 (p5 : Int)] 108)] _) => ?_)
 clear hS
 refine hK _ _ ?_; clear hK K
 refine l_e rfl (fun K hK => ?_)
 refine e_boxA hS2 rfl (fun b3 w3 (hS3 : St _ _ [.blk b3 (.cells #[.bool m2, .int .u64 (q0 : Int), .int .u64 (q1 : Int), .int .u64 (q2 : Int), .int .u64 (q3 : Int), .int .u64 (q4 : Int), .int .u64 (q5 : Int)] 108), _] _) => ?_)
 clear hS2
 refine hK _ _ ?_; clear hK K
 refine l_e rfl (fun K hK => ?_)
 refine e_alloc (zv := .agg #[.bool false, .int .u64 0, .int .u64 0, .int .u64 0, .int .u64 0, .int .u64 0, .int .u64 0]) hS3 (by kernel_rfl) (fun b4 w4 (hS4 : St _ _ [.blk b4 (.cells #[.bool false, .int .u64 (0 : Int), .int .u64 (0 : Int), .int .u64 (0 : Int), .int .u64 (0 : Int), .int .u64 (0 : Int), .int .u64 (0 : Int)] 108), _, _] _) => ?_)
 clear hS3
 refine hK _ _ ?_; clear hK K
 refine l_nil ?_
 refine hK1 _ _ ?_
 refine wp_seq_k (fun K5 hK5 => ?_)
 refine wp_region_lit ?_
 refine l_e rfl (fun K hK => ?_)
 refine e_alloc (zv := .agg #[.bool false, .int .u64 0, .int .u64 0, .int .u64 0, .int .u64 0, .int .u64 0, .int .u64 0]) hS4 (by kernel_rfl) (fun b6 w6 (hS6 : St _ _ [.blk b6 (.cells #[.bool false, .int .u64 (0 : Int), .int .u64 (0 : Int), .int .u64 (0 : Int), .int .u64 (0 : Int), .int .u64 (0 : Int), .int .u64 (0 : Int)] 108), _, _, _] _) => ?_)
 clear hS4
 refine hK _ _ ?_; clear hK K
 refine l_nil ?_
 refine hK5 _ _ ?_
 refine wp_seq_k (fun K7 hK7 => ?_)
 refine wp_seq_k (fun K8 hK8 => ?_)
 refine wp_region_lit ?_
 refine l_q rfl rfl (q_fieldAddr (ft := 4) (o := 0) rfl (by kernel_rfl)) ?_
 refine l_q rfl rfl (q_load1 rfl (by kernel_rfl) (hS6.cell (i := 3) rfl rfl)) ?_
 refine l_q rfl rfl (q_fieldAddr (ft := 4) (o := 0) rfl (by kernel_rfl)) ?_
 refine l_q rfl rfl (q_load1 rfl (by kernel_rfl) (hS6.cell (i := 2) rfl rfl)) ?_
 refine l_q rfl rfl (q_bool_eql rfl rfl (by kernel_rfl)) ?_
 refine l_nil ?_
 refine hK8 _ _ ?_
 refine c_cond rfl (fun hc9 => ?_) (fun hc9 => ?_)
 ·
  have hc9b := hc9
  try simp only [decide_eq_true_eq, decide_eq_false_iff_not, Bool.not_eq_true', Bool.not_eq_false', Bool.and_eq_true, Bool.or_eq_true, Int.not_lt, Int.not_le, ne_eq, Decidable.not_not] at hc9
  refine wp_seq_k (fun K10 hK10 => ?_)
  refine wp_region_lit ?_
  refine l_q rfl rfl (q_fieldAddr (ft := 4) (o := 0) rfl (by kernel_rfl)) ?_
  refine l_q rfl rfl (q_load1 rfl (by kernel_rfl) (hS6.cell (i := 3) rfl rfl)) ?_
  refine l_q rfl rfl (q_fieldAddr (ft := 4) (o := 0) rfl (by kernel_rfl)) ?_
  refine l_e rfl (fun K hK => ?_)
  refine e_store1 hS6 rfl rfl (by kernel_rfl) (by first | rfl | assumption) (i := 0) rfl rfl (fun w11 (hS11 : St _ _ [.blk b6 (.cells #[.bool m1, .int .u64 (0 : Int), .int .u64 (0 : Int), .int .u64 (0 : Int), .int .u64 (0 : Int), .int .u64 (0 : Int), .int .u64 (0 : Int)] 108), _, _, _] _) => ?_)
  clear hS6
  refine hK _ _ ?_; clear hK K
  refine l_nil ?_
  refine hK10 _ _ ?_
  refine wp_seq_k (fun K12 hK12 => ?_)
  refine wp_region_lit ?_
  refine l_q rfl rfl (q_assignI rfl) ?_
  refine l_nil ?_
  refine hK12 _ _ ?_
  refine wp_seq_k (fun K13 hK13 => ?_)
  refine wp_seq_k (fun K14 hK14 => ?_)
  refine wp_region_lit ?_
  refine l_q rfl rfl (q_assignI rfl) ?_
  refine l_nil ?_
  refine hK14 _ _ ?_
  refine wp_block ?_
  refine c_rounds 7 ?_
  refine c_round ?_
  refine wp_seq_k (fun K15 hK15 => ?_)
  refine wp_seq_k (fun K16 hK16 => ?_)
  refine wp_region_lit ?_
  refine l_q rfl rfl (q_moveI rfl) ?_
  refine l_q rfl rfl (q_lss rfl rfl) ?_
  refine l_nil ?_
  refine hK16 _ _ ?_
  refine c_condT rfl (by decide) ?_
  refine wp_skip ?_
  refine hK15 _ _ ?_
  refine wp_seq_k (fun K18 hK18 => ?_)
  refine wp_block ?_
  refine wp_seq_k (fun K19 hK19 => ?_)
  refine r_any (by kernel_rfl) hS11 (fun w20 hS20 => ?_)
  clear hS11
  refine o_pure (i := 0) (fun _ _ => trivial) rfl rfl (by kernel_rfl) (goes0 rfl) (QOk.then (QOk.inBlock (QOk.then (QOk.then (QOk.inBlock (QOk.then (QOk.then QOk.body))))))) (fun w => q_moveI rfl) ?_
  refine o_pure (i := 1) (fun _ _ => trivial) rfl rfl (by kernel_rfl) (goes0 rfl) (QOk.then (QOk.inBlock (QOk.then (QOk.then (QOk.inBlock (QOk.then (QOk.then QOk.body))))))) (fun w => q_fieldAddr (ft := 106) (o := 1) rfl (by kernel_rfl)) ?_
  refine o_pure (i := 2) (fun _ _ => trivial) rfl rfl (by kernel_rfl) (goes0 rfl) (QOk.then (QOk.inBlock (QOk.then (QOk.then (QOk.inBlock (QOk.then (QOk.then QOk.body))))))) (fun w => q_indexAddrA (len := 6) (e := 105) (m := 1) rfl rfl (by kernel_rfl) (by kernel_rfl) (by decide) (by decide)) ?_
  refine o_held (i := 3) [8, 10, 11] (fun _ _ => trivial) rfl rfl (by kernel_rfl) (goes0 rfl) (QOk.then (QOk.inBlock (QOk.then (QOk.then (QOk.inBlock (QOk.then (QOk.then QOk.body))))))) (q_load1 rfl (by kernel_rfl) (hS20.cell (i := 3) rfl rfl)) ?_
  refine o_pure (i := 4) (fun j w => ⟨(fun _ _ => trivial) j w, fun _ h => h⟩) rfl rfl (by kernel_rfl) (goes0 rfl) (QOk.then (QOk.inBlock (QOk.then (QOk.then (QOk.inBlock (QOk.then (QOk.then QOk.body))))))) (fun w => q_moveI rfl) ?_
  refine o_pure (i := 5) (fun j w => ⟨(fun _ _ => trivial) j w, fun _ h => h⟩) rfl rfl (by kernel_rfl) (goes0 rfl) (QOk.then (QOk.inBlock (QOk.then (QOk.then (QOk.inBlock (QOk.then (QOk.then QOk.body))))))) (fun w => q_fieldAddr (ft := 106) (o := 1) rfl (by kernel_rfl)) ?_
  refine o_pure (i := 6) (fun j w => ⟨(fun _ _ => trivial) j w, fun _ h => h⟩) rfl rfl (by kernel_rfl) (goes0 rfl) (QOk.then (QOk.inBlock (QOk.then (QOk.then (QOk.inBlock (QOk.then (QOk.then QOk.body))))))) (fun w => q_indexAddrA (len := 6) (e := 105) (m := 1) rfl rfl (by kernel_rfl) (by kernel_rfl) (by decide) (by decide)) ?_
  refine o_held (i := 7) [8, 10, 11] (fun j w => ⟨(fun _ _ => trivial) j w, fun _ h => h⟩) rfl rfl (by kernel_rfl) (goes0 rfl) (QOk.then (QOk.inBlock (QOk.then (QOk.then (QOk.inBlock (QOk.then (QOk.then QOk.body))))))) (q_load1 rfl (by kernel_rfl) (hS20.cell (i := 2) rfl rfl)) ?_
  refine o_pure (i := 8) (fun j w => ⟨(fun j w => ⟨(fun _ _ => trivial) j w, fun _ h => h⟩) j w, fun _ h => h⟩) rfl rfl (by kernel_rfl) (goes0 rfl) (QOk.then (QOk.inBlock (QOk.then (QOk.then (QOk.inBlock (QOk.then (QOk.then QOk.body))))))) (fun w => u_add (a := p0) (b := q0) (M := 18446744073709551616) rfl rfl rfl (by decide)) ?_
  refine o_pure (i := 9) (fun j w => ⟨(fun j w => ⟨(fun _ _ => trivial) j w, fun _ h => h⟩) j w, fun _ h => h⟩) rfl rfl (by kernel_rfl) (goes0 rfl) (QOk.then (QOk.inBlock (QOk.then (QOk.then (QOk.inBlock (QOk.then (QOk.then QOk.body))))))) (fun w => q_moveI rfl) ?_
  refine o_pure (i := 10) (fun j w => ⟨(fun j w => ⟨(fun _ _ => trivial) j w, fun _ h => h⟩) j w, fun _ h => h⟩) rfl rfl (by kernel_rfl) (goes0 rfl) (QOk.then (QOk.inBlock (QOk.then (QOk.then (QOk.inBlock (QOk.then (QOk.then QOk.body))))))) (fun w => u_add (a := ((p0 + q0) % 18446744073709551616)) (b := 0) (M := 18446744073709551616) rfl rfl rfl (by decide)) ?_
  refine o_pure (i := 11) (fun j w => ⟨(fun j w => ⟨(fun _ _ => trivial) j w, fun _ h => h⟩) j w, fun _ h => h⟩) rfl rfl (by kernel_rfl) (goes0 rfl) (QOk.then (QOk.inBlock (QOk.then (QOk.then (QOk.inBlock (QOk.then (QOk.then QOk.body))))))) (fun w => q_assignI rfl) ?_
  refine o_done (by kernel_rfl) ?_
  generalize hs21 : ((((p0 + q0) % 18446744073709551616) + 0) % 18446744073709551616) = s21
  refine hK19 _ _ ?_
  refine wp_seq_k (fun K22 hK22 => ?_)
  refine wp_region_lit ?_
  refine l_q rfl rfl (q_moveI rfl) ?_
  refine l_q rfl rfl (q_moveI rfl) ?_
  refine l_q rfl rfl (q_remN (a := s21) (b := 4294967296) rfl rfl (by first | decide | omega)) ?_
  refine l_q rfl rfl (q_fieldAddr (ft := 106) (o := 1) rfl (by kernel_rfl)) ?_
  refine l_q rfl rfl (q_indexAddrA (len := 6) (e := 105) (m := 1) rfl rfl (by kernel_rfl) (by kernel_rfl) (by decide) (by decide)) ?_
  refine l_e rfl (fun K hK => ?_)
  refine e_store1 hS20 rfl rfl (by kernel_rfl) (by first | rfl | assumption) (i := 0) rfl rfl (fun w23 (hS23 : St _ _ [.blk b6 (.cells #[.bool m1, .int .u64 (((s21 % 4294967296) : Nat) : Int), .int .u64 (0 : Int), .int .u64 (0 : Int), .int .u64 (0 : Int), .int .u64 (0 : Int), .int .u64 (0 : Int)] 108), _, _, _] _) => ?_)
  clear hS20
  refine hK _ _ ?_; clear hK K
  refine l_nil ?_
  refine hK22 _ _ ?_
  refine wp_region_lit ?_
  refine l_q rfl rfl (q_moveI rfl) ?_
  refine l_q rfl rfl (q_shrN (k := .u64) (a := s21) (b := 32) rfl rfl (by decide)) ?_
  refine l_q rfl rfl (q_assignI rfl) ?_
  refine l_nil ?_
  refine hK18 _ _ ?_
  refine wp_region_lit ?_
  refine l_q rfl rfl (q_moveI rfl) ?_
  refine l_q rfl rfl (q_addx rfl rfl (by first | decide | omega) (by first | decide | omega)) ?_
  refine l_q rfl rfl (q_assignI rfl) ?_
  refine l_nil ?_
  refine c_round ?_
  refine wp_seq_k (fun K24 hK24 => ?_)
  refine wp_seq_k (fun K25 hK25 => ?_)
  refine wp_region_lit ?_
  refine l_q rfl rfl (q_moveI rfl) ?_
  refine l_q rfl rfl (q_lss rfl rfl) ?_
  refine l_nil ?_
  refine hK25 _ _ ?_
  refine c_condT rfl (by decide) ?_
  refine wp_skip ?_
  refine hK24 _ _ ?_
  refine wp_seq_k (fun K27 hK27 => ?_)
  refine wp_block ?_
  refine wp_seq_k (fun K28 hK28 => ?_)
  refine r_any (by kernel_rfl) hS23 (fun w29 hS29 => ?_)
  clear hS23
  refine o_pure (i := 0) (fun _ _ => trivial) rfl rfl (by kernel_rfl) (goes0 rfl) (QOk.then (QOk.inBlock (QOk.then (QOk.then (QOk.inBlock (QOk.then (QOk.then QOk.body))))))) (fun w => q_moveI rfl) ?_
  refine o_pure (i := 1) (fun _ _ => trivial) rfl rfl (by kernel_rfl) (goes0 rfl) (QOk.then (QOk.inBlock (QOk.then (QOk.then (QOk.inBlock (QOk.then (QOk.then QOk.body))))))) (fun w => q_fieldAddr (ft := 106) (o := 1) rfl (by kernel_rfl)) ?_
  refine o_pure (i := 2) (fun _ _ => trivial) rfl rfl (by kernel_rfl) (goes0 rfl) (QOk.then (QOk.inBlock (QOk.then (QOk.then (QOk.inBlock (QOk.then (QOk.then QOk.body))))))) (fun w => q_indexAddrA (len := 6) (e := 105) (m := 1) rfl rfl (by kernel_rfl) (by kernel_rfl) (by decide) (by decide)) ?_
  refine o_held (i := 3) [8, 10, 11] (fun _ _ => trivial) rfl rfl (by kernel_rfl) (goes0 rfl) (QOk.then (QOk.inBlock (QOk.then (QOk.then (QOk.inBlock (QOk.then (QOk.then QOk.body))))))) (q_load1 rfl (by kernel_rfl) (hS29.cell (i := 3) rfl rfl)) ?_
  refine o_pure (i := 4) (fun j w => ⟨(fun _ _ => trivial) j w, fun _ h => h⟩) rfl rfl (by kernel_rfl) (goes0 rfl) (QOk.then (QOk.inBlock (QOk.then (QOk.then (QOk.inBlock (QOk.then (QOk.then QOk.body))))))) (fun w => q_moveI rfl) ?_
  refine o_pure (i := 5) (fun j w => ⟨(fun _ _ => trivial) j w, fun _ h => h⟩) rfl rfl (by kernel_rfl) (goes0 rfl) (QOk.then (QOk.inBlock (QOk.then (QOk.then (QOk.inBlock (QOk.then (QOk.then QOk.body))))))) (fun w => q_fieldAddr (ft := 106) (o := 1) rfl (by kernel_rfl)) ?_
  refine o_pure (i := 6) (fun j w => ⟨(fun _ _ => trivial) j w, fun _ h => h⟩) rfl rfl (by kernel_rfl) (goes0 rfl) (QOk.then (QOk.inBlock (QOk.then (QOk.then (QOk.inBlock (QOk.then (QOk.then QOk.body))))))) (fun w => q_indexAddrA (len := 6) (e := 105) (m := 1) rfl rfl (by kernel_rfl) (by kernel_rfl) (by decide) (by decide)) ?_
  refine o_held (i := 7) [8, 10, 11] (fun j w => ⟨(fun _ _ => trivial) j w, fun _ h => h⟩) rfl rfl (by kernel_rfl) (goes0 rfl) (QOk.then (QOk.inBlock (QOk.then (QOk.then (QOk.inBlock (QOk.then (QOk.then QOk.body))))))) (q_load1 rfl (by kernel_rfl) (hS29.cell (i := 2) rfl rfl)) ?_
  refine o_pure (i := 8) (fun j w => ⟨(fun j w => ⟨(fun _ _ => trivial) j w, fun _ h => h⟩) j w, fun _ h => h⟩) rfl rfl (by kernel_rfl) (goes0 rfl) (QOk.then (QOk.inBlock (QOk.then (QOk.then (QOk.inBlock (QOk.then (QOk.then QOk.body))))))) (fun w => u_add (a := p1) (b := q1) (M := 18446744073709551616) rfl rfl rfl (by decide)) ?_
  refine o_pure (i := 9) (fun j w => ⟨(fun j w => ⟨(fun _ _ => trivial) j w, fun _ h => h⟩) j w, fun _ h => h⟩) rfl rfl (by kernel_rfl) (goes0 rfl) (QOk.then (QOk.inBlock (QOk.then (QOk.then (QOk.inBlock (QOk.then (QOk.then QOk.body))))))) (fun w => q_moveI rfl) ?_
  refine o_pure (i := 10) (fun j w => ⟨(fun j w => ⟨(fun _ _ => trivial) j w, fun _ h => h⟩) j w, fun _ h => h⟩) rfl rfl (by kernel_rfl) (goes0 rfl) (QOk.then (QOk.inBlock (QOk.then (QOk.then (QOk.inBlock (QOk.then (QOk.then QOk.body))))))) (fun w => u_add (a := ((p1 + q1) % 18446744073709551616)) (b := (s21 / 2 ^ 32)) (M := 18446744073709551616) rfl rfl rfl (by decide)) ?_
  refine o_pure (i := 11) (fun j w => ⟨(fun j w => ⟨(fun _ _ => trivial) j w, fun _ h => h⟩) j w, fun _ h => h⟩) rfl rfl (by kernel_rfl) (goes0 rfl) (QOk.then (QOk.inBlock (QOk.then (QOk.then (QOk.inBlock (QOk.then (QOk.then QOk.body))))))) (fun w => q_assignI rfl) ?_
  refine o_done (by kernel_rfl) ?_
  generalize hs30 : ((((p1 + q1) % 18446744073709551616) + (s21 / 2 ^ 32)) % 18446744073709551616) = s30
  refine hK28 _ _ ?_
  refine wp_seq_k (fun K31 hK31 => ?_)
  refine wp_region_lit ?_
  refine l_q rfl rfl (q_moveI rfl) ?_
  refine l_q rfl rfl (q_moveI rfl) ?_
  refine l_q rfl rfl (q_remN (a := s30) (b := 4294967296) rfl rfl (by first | decide | omega)) ?_
  refine l_q rfl rfl (q_fieldAddr (ft := 106) (o := 1) rfl (by kernel_rfl)) ?_
  refine l_q rfl rfl (q_indexAddrA (len := 6) (e := 105) (m := 1) rfl rfl (by kernel_rfl) (by kernel_rfl) (by decide) (by decide)) ?_
  refine l_e rfl (fun K hK => ?_)
  refine e_store1 hS29 rfl rfl (by kernel_rfl) (by first | rfl | assumption) (i := 0) rfl rfl (fun w32 (hS32 : St _ _ [.blk b6 (.cells #[.bool m1, .int .u64 (((s21 % 4294967296) : Nat) : Int), .int .u64 (((s30 % 4294967296) : Nat) : Int), .int .u64 (0 : Int), .int .u64 (0 : Int), .int .u64 (0 : Int), .int .u64 (0 : Int)] 108), _, _, _] _) => ?_)
  clear hS29
  refine hK _ _ ?_; clear hK K
  refine l_nil ?_
  refine hK31 _ _ ?_
  refine wp_region_lit ?_
  refine l_q rfl rfl (q_moveI rfl) ?_
  refine l_q rfl rfl (q_shrN (k := .u64) (a := s30) (b := 32) rfl rfl (by decide)) ?_
  refine l_q rfl rfl (q_assignI rfl) ?_
  refine l_nil ?_
  refine hK27 _ _ ?_
  refine wp_region_lit ?_
  refine l_q rfl rfl (q_moveI rfl) ?_
  refine l_q rfl rfl (q_addx rfl rfl (by first | decide | omega) (by first | decide | omega)) ?_
  refine l_q rfl rfl (q_assignI rfl) ?_
  refine l_nil ?_
  refine c_round ?_
  refine wp_seq_k (fun K33 hK33 => ?_)
  refine wp_seq_k (fun K34 hK34 => ?_)
  refine wp_region_lit ?_
  refine l_q rfl rfl (q_moveI rfl) ?_
  refine l_q rfl rfl (q_lss rfl rfl) ?_
  refine l_nil ?_
  refine hK34 _ _ ?_
  refine c_condT rfl (by decide) ?_
  refine wp_skip ?_
  refine hK33 _ _ ?_
  refine wp_seq_k (fun K36 hK36 => ?_)
  refine wp_block ?_
  refine wp_seq_k (fun K37 hK37 => ?_)
  refine r_any (by kernel_rfl) hS32 (fun w38 hS38 => ?_)
  clear hS32
  refine o_pure (i := 0) (fun _ _ => trivial) rfl rfl (by kernel_rfl) (goes0 rfl) (QOk.then (QOk.inBlock (QOk.then (QOk.then (QOk.inBlock (QOk.then (QOk.then QOk.body))))))) (fun w => q_moveI rfl) ?_
  refine o_pure (i := 1) (fun _ _ => trivial) rfl rfl (by kernel_rfl) (goes0 rfl) (QOk.then (QOk.inBlock (QOk.then (QOk.then (QOk.inBlock (QOk.then (QOk.then QOk.body))))))) (fun w => q_fieldAddr (ft := 106) (o := 1) rfl (by kernel_rfl)) ?_
  refine o_pure (i := 2) (fun _ _ => trivial) rfl rfl (by kernel_rfl) (goes0 rfl) (QOk.then (QOk.inBlock (QOk.then (QOk.then (QOk.inBlock (QOk.then (QOk.then QOk.body))))))) (fun w => q_indexAddrA (len := 6) (e := 105) (m := 1) rfl rfl (by kernel_rfl) (by kernel_rfl) (by decide) (by decide)) ?_
  refine o_held (i := 3) [8, 10, 11] (fun _ _ => trivial) rfl rfl (by kernel_rfl) (goes0 rfl) (QOk.then (QOk.inBlock (QOk.then (QOk.then (QOk.inBlock (QOk.then (QOk.then QOk.body))))))) (q_load1 rfl (by kernel_rfl) (hS38.cell (i := 3) rfl rfl)) ?_
  refine o_pure (i := 4) (fun j w => ⟨(fun _ _ => trivial) j w, fun _ h => h⟩) rfl rfl (by kernel_rfl) (goes0 rfl) (QOk.then (QOk.inBlock (QOk.then (QOk.then (QOk.inBlock (QOk.then (QOk.then QOk.body))))))) (fun w => q_moveI rfl) ?_
  refine o_pure (i := 5) (fun j w => ⟨(fun _ _ => trivial) j w, fun _ h => h⟩) rfl rfl (by kernel_rfl) (goes0 rfl) (QOk.then (QOk.inBlock (QOk.then (QOk.then (QOk.inBlock (QOk.then (QOk.then QOk.body))))))) (fun w => q_fieldAddr (ft := 106) (o := 1) rfl (by kernel_rfl)) ?_
  refine o_pure (i := 6) (fun j w => ⟨(fun _ _ => trivial) j w, fun _ h => h⟩) rfl rfl (by kernel_rfl) (goes0 rfl) (QOk.then (QOk.inBlock (QOk.then (QOk.then (QOk.inBlock (QOk.then (QOk.then QOk.body))))))) (fun w => q_indexAddrA (len := 6) (e := 105) (m := 1) rfl rfl (by kernel_rfl) (by kernel_rfl) (by decide) (by decide)) ?_
  refine o_held (i := 7) [8, 10, 11] (fun j w => ⟨(fun _ _ => trivial) j w, fun _ h => h⟩) rfl rfl (by kernel_rfl) (goes0 rfl) (QOk.then (QOk.inBlock (QOk.then (QOk.then (QOk.inBlock (QOk.then (QOk.then QOk.body))))))) (q_load1 rfl (by kernel_rfl) (hS38.cell (i := 2) rfl rfl)) ?_
  refine o_pure (i := 8) (fun j w => ⟨(fun j w => ⟨(fun _ _ => trivial) j w, fun _ h => h⟩) j w, fun _ h => h⟩) rfl rfl (by kernel_rfl) (goes0 rfl) (QOk.then (QOk.inBlock (QOk.then (QOk.then (QOk.inBlock (QOk.then (QOk.then QOk.body))))))) (fun w => u_add (a := p2) (b := q2) (M := 18446744073709551616) rfl rfl rfl (by decide)) ?_
  refine o_pure (i := 9) (fun j w => ⟨(fun j w => ⟨(fun _ _ => trivial) j w, fun _ h => h⟩) j w, fun _ h => h⟩) rfl rfl (by kernel_rfl) (goes0 rfl) (QOk.then (QOk.inBlock (QOk.then (QOk.then (QOk.inBlock (QOk.then (QOk.then QOk.body))))))) (fun w => q_moveI rfl) ?_
  refine o_pure (i := 10) (fun j w => ⟨(fun j w => ⟨(fun _ _ => trivial) j w, fun _ h => h⟩) j w, fun _ h => h⟩) rfl rfl (by kernel_rfl) (goes0 rfl) (QOk.then (QOk.inBlock (QOk.then (QOk.then (QOk.inBlock (QOk.then (QOk.then QOk.body))))))) (fun w => u_add (a := ((p2 + q2) % 18446744073709551616)) (b := (s30 / 2 ^ 32)) (M := 18446744073709551616) rfl rfl rfl (by decide)) ?_
  refine o_pure (i := 11) (fun j w => ⟨(fun j w => ⟨(fun _ _ => trivial) j w, fun _ h => h⟩) j w, fun _ h => h⟩) rfl rfl (by kernel_rfl) (goes0 rfl) (QOk.then (QOk.inBlock (QOk.then (QOk.then (QOk.inBlock (QOk.then (QOk.then QOk.body))))))) (fun w => q_assignI rfl) ?_
  refine o_done (by kernel_rfl) ?_
  generalize hs39 : ((((p2 + q2) % 18446744073709551616) + (s30 / 2 ^ 32)) % 18446744073709551616) = s39
  refine hK37 _ _ ?_
  refine wp_seq_k (fun K40 hK40 => ?_)
  refine wp_region_lit ?_
  refine l_q rfl rfl (q_moveI rfl) ?_
  refine l_q rfl rfl (q_moveI rfl) ?_
  refine l_q rfl rfl (q_remN (a := s39) (b := 4294967296) rfl rfl (by first | decide | omega)) ?_
  refine l_q rfl rfl (q_fieldAddr (ft := 106) (o := 1) rfl (by kernel_rfl)) ?_
  refine l_q rfl rfl (q_indexAddrA (len := 6) (e := 105) (m := 1) rfl rfl (by kernel_rfl) (by kernel_rfl) (by decide) (by decide)) ?_
  refine l_e rfl (fun K hK => ?_)
  refine e_store1 hS38 rfl rfl (by kernel_rfl) (by first | rfl | assumption) (i := 0) rfl rfl (fun w41 (hS41 : St _ _ [.blk b6 (.cells #[.bool m1, .int .u64 (((s21 % 4294967296) : Nat) : Int), .int .u64 (((s30 % 4294967296) : Nat) : Int), .int .u64 (((s39 % 4294967296) : Nat) : Int), .int .u64 (0 : Int), .int .u64 (0 : Int), .int .u64 (0 : Int)] 108), _, _, _] _) => ?_)
  clear hS38
  refine hK _ _ ?_; clear hK K
  refine l_nil ?_
  refine hK40 _ _ ?_
  refine wp_region_lit ?_
  refine l_q rfl rfl (q_moveI rfl) ?_
  refine l_q rfl rfl (q_shrN (k := .u64) (a := s39) (b := 32) rfl rfl (by decide)) ?_
  refine l_q rfl rfl (q_assignI rfl) ?_
  refine l_nil ?_
  refine hK36 _ _ ?_
  refine wp_region_lit ?_
  refine l_q rfl rfl (q_moveI rfl) ?_
  refine l_q rfl rfl (q_addx rfl rfl (by first | decide | omega) (by first | decide | omega)) ?_
  refine l_q rfl rfl (q_assignI rfl) ?_
  refine l_nil ?_
  refine c_round ?_
  refine wp_seq_k (fun K42 hK42 => ?_)
  refine wp_seq_k (fun K43 hK43 => ?_)
  refine wp_region_lit ?_
  refine l_q rfl rfl (q_moveI rfl) ?_
  refine l_q rfl rfl (q_lss rfl rfl) ?_
  refine l_nil ?_
  refine hK43 _ _ ?_
  refine c_condT rfl (by decide) ?_
  refine wp_skip ?_
  refine hK42 _ _ ?_
  refine wp_seq_k (fun K45 hK45 => ?_)
  refine wp_block ?_
  refine wp_seq_k (fun K46 hK46 => ?_)
  refine r_any (by kernel_rfl) hS41 (fun w47 hS47 => ?_)
  clear hS41
  refine o_pure (i := 0) (fun _ _ => trivial) rfl rfl (by kernel_rfl) (goes0 rfl) (QOk.then (QOk.inBlock (QOk.then (QOk.then (QOk.inBlock (QOk.then (QOk.then QOk.body))))))) (fun w => q_moveI rfl) ?_
  refine o_pure (i := 1) (fun _ _ => trivial) rfl rfl (by kernel_rfl) (goes0 rfl) (QOk.then (QOk.inBlock (QOk.then (QOk.then (QOk.inBlock (QOk.then (QOk.then QOk.body))))))) (fun w => q_fieldAddr (ft := 106) (o := 1) rfl (by kernel_rfl)) ?_
  refine o_pure (i := 2) (fun _ _ => trivial) rfl rfl (by kernel_rfl) (goes0 rfl) (QOk.then (QOk.inBlock (QOk.then (QOk.then (QOk.inBlock (QOk.then (QOk.then QOk.body))))))) (fun w => q_indexAddrA (len := 6) (e := 105) (m := 1) rfl rfl (by kernel_rfl) (by kernel_rfl) (by decide) (by decide)) ?_
  refine o_held (i := 3) [8, 10, 11] (fun _ _ => trivial) rfl rfl (by kernel_rfl) (goes0 rfl) (QOk.then (QOk.inBlock (QOk.then (QOk.then (QOk.inBlock (QOk.then (QOk.then QOk.body))))))) (q_load1 rfl (by kernel_rfl) (hS47.cell (i := 3) rfl rfl)) ?_
  refine o_pure (i := 4) (fun j w => ⟨(fun _ _ => trivial) j w, fun _ h => h⟩) rfl rfl (by kernel_rfl) (goes0 rfl) (QOk.then (QOk.inBlock (QOk.then (QOk.then (QOk.inBlock (QOk.then (QOk.then QOk.body))))))) (fun w => q_moveI rfl) ?_
  refine o_pure (i := 5) (fun j w => ⟨(fun _ _ => trivial) j w, fun _ h => h⟩) rfl rfl (by kernel_rfl) (goes0 rfl) (QOk.then (QOk.inBlock (QOk.then (QOk.then (QOk.inBlock (QOk.then (QOk.then QOk.body))))))) (fun w => q_fieldAddr (ft := 106) (o := 1) rfl (by kernel_rfl)) ?_
  refine o_pure (i := 6) (fun j w => ⟨(fun _ _ => trivial) j w, fun _ h => h⟩) rfl rfl (by kernel_rfl) (goes0 rfl) (QOk.then (QOk.inBlock (QOk.then (QOk.then (QOk.inBlock (QOk.then (QOk.then QOk.body))))))) (fun w => q_indexAddrA (len := 6) (e := 105) (m := 1) rfl rfl (by kernel_rfl) (by kernel_rfl) (by decide) (by decide)) ?_
  refine o_held (i := 7) [8, 10, 11] (fun j w => ⟨(fun _ _ => trivial) j w, fun _ h => h⟩) rfl rfl (by kernel_rfl) (goes0 rfl) (QOk.then (QOk.inBlock (QOk.then (QOk.then (QOk.inBlock (QOk.then (QOk.then QOk.body))))))) (q_load1 rfl (by kernel_rfl) (hS47.cell (i := 2) rfl rfl)) ?_
  refine o_pure (i := 8) (fun j w => ⟨(fun j w => ⟨(fun _ _ => trivial) j w, fun _ h => h⟩) j w, fun _ h => h⟩) rfl rfl (by kernel_rfl) (goes0 rfl) (QOk.then (QOk.inBlock (QOk.then (QOk.then (QOk.inBlock (QOk.then (QOk.then QOk.body))))))) (fun w => u_add (a := p3) (b := q3) (M := 18446744073709551616) rfl rfl rfl (by decide)) ?_
  refine o_pure (i := 9) (fun j w => ⟨(fun j w => ⟨(fun _ _ => trivial) j w, fun _ h => h⟩) j w, fun _ h => h⟩) rfl rfl (by kernel_rfl) (goes0 rfl) (QOk.then (QOk.inBlock (QOk.then (QOk.then (QOk.inBlock (QOk.then (QOk.then QOk.body))))))) (fun w => q_moveI rfl) ?_
  refine o_pure (i := 10) (fun j w => ⟨(fun j w => ⟨(fun _ _ => trivial) j w, fun _ h => h⟩) j w, fun _ h => h⟩) rfl rfl (by kernel_rfl) (goes0 rfl) (QOk.then (QOk.inBlock (QOk.then (QOk.then (QOk.inBlock (QOk.then (QOk.then QOk.body))))))) (fun w => u_add (a := ((p3 + q3) % 18446744073709551616)) (b := (s39 / 2 ^ 32)) (M := 18446744073709551616) rfl rfl rfl (by decide)) ?_
  refine o_pure (i := 11) (fun j w => ⟨(fun j w => ⟨(fun _ _ => trivial) j w, fun _ h => h⟩) j w, fun _ h => h⟩) rfl rfl (by kernel_rfl) (goes0 rfl) (QOk.then (QOk.inBlock (QOk.then (QOk.then (QOk.inBlock (QOk.then (QOk.then QOk.body))))))) (fun w => q_assignI rfl) ?_
  refine o_done (by kernel_rfl) ?_
  generalize hs48 : ((((p3 + q3) % 18446744073709551616) + (s39 / 2 ^ 32)) % 18446744073709551616) = s48
  refine hK46 _ _ ?_
  refine wp_seq_k (fun K49 hK49 => ?_)
  refine wp_region_lit ?_
  refine l_q rfl rfl (q_moveI rfl) ?_
  refine l_q rfl rfl (q_moveI rfl) ?_
  refine l_q rfl rfl (q_remN (a := s48) (b := 4294967296) rfl rfl (by first | decide | omega)) ?_
  refine l_q rfl rfl (q_fieldAddr (ft := 106) (o := 1) rfl (by kernel_rfl)) ?_
  refine l_q rfl rfl (q_indexAddrA (len := 6) (e := 105) (m := 1) rfl rfl (by kernel_rfl) (by kernel_rfl) (by decide) (by decide)) ?_
  refine l_e rfl (fun K hK => ?_)
  refine e_store1 hS47 rfl rfl (by kernel_rfl) (by first | rfl | assumption) (i := 0) rfl rfl (fun w50 (hS50 : St _ _ [.blk b6 (.cells #[.bool m1, .int .u64 (((s21 % 4294967296) : Nat) : Int), .int .u64 (((s30 % 4294967296) : Nat) : Int), .int .u64 (((s39 % 4294967296) : Nat) : Int), .int .u64 (((s48 % 4294967296) : Nat) : Int), .int .u64 (0 : Int), .int .u64 (0 : Int)] 108), _, _, _] _) => ?_)
  clear hS47
  refine hK _ _ ?_; clear hK K
  refine l_nil ?_
  refine hK49 _ _ ?_
  refine wp_region_lit ?_
  refine l_q rfl rfl (q_moveI rfl) ?_
  refine l_q rfl rfl (q_shrN (k := .u64) (a := s48) (b := 32) rfl rfl (by decide)) ?_
  refine l_q rfl rfl (q_assignI rfl) ?_
  refine l_nil ?_
  refine hK45 _ _ ?_
  refine wp_region_lit ?_
  refine l_q rfl rfl (q_moveI rfl) ?_
  refine l_q rfl rfl (q_addx rfl rfl (by first | decide | omega) (by first | decide | omega)) ?_
  refine l_q rfl rfl (q_assignI rfl) ?_
  refine l_nil ?_
  refine c_round ?_
  refine wp_seq_k (fun K51 hK51 => ?_)
  refine wp_seq_k (fun K52 hK52 => ?_)
  refine wp_region_lit ?_
  refine l_q rfl rfl (q_moveI rfl) ?_
  refine l_q rfl rfl (q_lss rfl rfl) ?_
  refine l_nil ?_
  refine hK52 _ _ ?_
  refine c_condT rfl (by decide) ?_
  refine wp_skip ?_
  refine hK51 _ _ ?_
  refine wp_seq_k (fun K54 hK54 => ?_)
  refine wp_block ?_
  refine wp_seq_k (fun K55 hK55 => ?_)
  refine r_any (by kernel_rfl) hS50 (fun w56 hS56 => ?_)
  clear hS50
  refine o_pure (i := 0) (fun _ _ => trivial) rfl rfl (by kernel_rfl) (goes0 rfl) (QOk.then (QOk.inBlock (QOk.then (QOk.then (QOk.inBlock (QOk.then (QOk.then QOk.body))))))) (fun w => q_moveI rfl) ?_
  refine o_pure (i := 1) (fun _ _ => trivial) rfl rfl (by kernel_rfl) (goes0 rfl) (QOk.then (QOk.inBlock (QOk.then (QOk.then (QOk.inBlock (QOk.then (QOk.then QOk.body))))))) (fun w => q_fieldAddr (ft := 106) (o := 1) rfl (by kernel_rfl)) ?_
  refine o_pure (i := 2) (fun _ _ => trivial) rfl rfl (by kernel_rfl) (goes0 rfl) (QOk.then (QOk.inBlock (QOk.then (QOk.then (QOk.inBlock (QOk.then (QOk.then QOk.body))))))) (fun w => q_indexAddrA (len := 6) (e := 105) (m := 1) rfl rfl (by kernel_rfl) (by kernel_rfl) (by decide) (by decide)) ?_
  refine o_held (i := 3) [8, 10, 11] (fun _ _ => trivial) rfl rfl (by kernel_rfl) (goes0 rfl) (QOk.then (QOk.inBlock (QOk.then (QOk.then (QOk.inBlock (QOk.then (QOk.then QOk.body))))))) (q_load1 rfl (by kernel_rfl) (hS56.cell (i := 3) rfl rfl)) ?_
  refine o_pure (i := 4) (fun j w => ⟨(fun _ _ => trivial) j w, fun _ h => h⟩) rfl rfl (by kernel_rfl) (goes0 rfl) (QOk.then (QOk.inBlock (QOk.then (QOk.then (QOk.inBlock (QOk.then (QOk.then QOk.body))))))) (fun w => q_moveI rfl) ?_
  refine o_pure (i := 5) (fun j w => ⟨(fun _ _ => trivial) j w, fun _ h => h⟩) rfl rfl (by kernel_rfl) (goes0 rfl) (QOk.then (QOk.inBlock (QOk.then (QOk.then (QOk.inBlock (QOk.then (QOk.then QOk.body))))))) (fun w => q_fieldAddr (ft := 106) (o := 1) rfl (by kernel_rfl)) ?_
  refine o_pure (i := 6) (fun j w => ⟨(fun _ _ => trivial) j w, fun _ h => h⟩) rfl rfl (by kernel_rfl) (goes0 rfl) (QOk.then (QOk.inBlock (QOk.then (QOk.then (QOk.inBlock (QOk.then (QOk.then QOk.body))))))) (fun w => q_indexAddrA (len := 6) (e := 105) (m := 1) rfl rfl (by kernel_rfl) (by kernel_rfl) (by decide) (by decide)) ?_
  refine o_held (i := 7) [8, 10, 11] (fun j w => ⟨(fun _ _ => trivial) j w, fun _ h => h⟩) rfl rfl (by kernel_rfl) (goes0 rfl) (QOk.then (QOk.inBlock (QOk.then (QOk.then (QOk.inBlock (QOk.then (QOk.then QOk.body))))))) (q_load1 rfl (by kernel_rfl) (hS56.cell (i := 2) rfl rfl)) ?_
  refine o_pure (i := 8) (fun j w => ⟨(fun j w => ⟨(fun _ _ => trivial) j w, fun _ h => h⟩) j w, fun _ h => h⟩) rfl rfl (by kernel_rfl) (goes0 rfl) (QOk.then (QOk.inBlock (QOk.then (QOk.then (QOk.inBlock (QOk.then (QOk.then QOk.body))))))) (fun w => u_add (a := p4) (b := q4) (M := 18446744073709551616) rfl rfl rfl (by decide)) ?_
  refine o_pure (i := 9) (fun j w => ⟨(fun j w => ⟨(fun _ _ => trivial) j w, fun _ h => h⟩) j w, fun _ h => h⟩) rfl rfl (by kernel_rfl) (goes0 rfl) (QOk.then (QOk.inBlock (QOk.then (QOk.then (QOk.inBlock (QOk.then (QOk.then QOk.body))))))) (fun w => q_moveI rfl) ?_
  refine o_pure (i := 10) (fun j w => ⟨(fun j w => ⟨(fun _ _ => trivial) j w, fun _ h => h⟩) j w, fun _ h => h⟩) rfl rfl (by kernel_rfl) (goes0 rfl) (QOk.then (QOk.inBlock (QOk.then (QOk.then (QOk.inBlock (QOk.then (QOk.then QOk.body))))))) (fun w => u_add (a := ((p4 + q4) % 18446744073709551616)) (b := (s48 / 2 ^ 32)) (M := 18446744073709551616) rfl rfl rfl (by decide)) ?_
  refine o_pure (i := 11) (fun j w => ⟨(fun j w => ⟨(fun _ _ => trivial) j w, fun _ h => h⟩) j w, fun _ h => h⟩) rfl rfl (by kernel_rfl) (goes0 rfl) (QOk.then (QOk.inBlock (QOk.then (QOk.then (QOk.inBlock (QOk.then (QOk.then QOk.body))))))) (fun w => q_assignI rfl) ?_
  refine o_done (by kernel_rfl) ?_
  generalize hs57 : ((((p4 + q4) % 18446744073709551616) + (s48 / 2 ^ 32)) % 18446744073709551616) = s57
  refine hK55 _ _ ?_
  refine wp_seq_k (fun K58 hK58 => ?_)
  refine wp_region_lit ?_
  refine l_q rfl rfl (q_moveI rfl) ?_
  refine l_q rfl rfl (q_moveI rfl) ?_
  refine l_q rfl rfl (q_remN (a := s57) (b := 4294967296) rfl rfl (by first | decide | omega)) ?_
  refine l_q rfl rfl (q_fieldAddr (ft := 106) (o := 1) rfl (by kernel_rfl)) ?_
  refine l_q rfl rfl (q_indexAddrA (len := 6) (e := 105) (m := 1) rfl rfl (by kernel_rfl) (by kernel_rfl) (by decide) (by decide)) ?_
  refine l_e rfl (fun K hK => ?_)
  refine e_store1 hS56 rfl rfl (by kernel_rfl) (by first | rfl | assumption) (i := 0) rfl rfl (fun w59 (hS59 : St _ _ [.blk b6 (.cells #[.bool m1, .int .u64 (((s21 % 4294967296) : Nat) : Int), .int .u64 (((s30 % 4294967296) : Nat) : Int), .int .u64 (((s39 % 4294967296) : Nat) : Int), .int .u64 (((s48 % 4294967296) : Nat) : Int), .int .u64 (((s57 % 4294967296) : Nat) : Int), .int .u64 (0 : Int)] 108), _, _, _] _) => ?_)
  clear hS56
  refine hK _ _ ?_; clear hK K
  refine l_nil ?_
  refine hK58 _ _ ?_
  refine wp_region_lit ?_
  refine l_q rfl rfl (q_moveI rfl) ?_
  refine l_q rfl rfl (q_shrN (k := .u64) (a := s57) (b := 32) rfl rfl (by decide)) ?_
  refine l_q rfl rfl (q_assignI rfl) ?_
  refine l_nil ?_
  refine hK54 _ _ ?_
  refine wp_region_lit ?_
  refine l_q rfl rfl (q_moveI rfl) ?_
  refine l_q rfl rfl (q_addx rfl rfl (by first | decide | omega) (by first | decide | omega)) ?_
  refine l_q rfl rfl (q_assignI rfl) ?_
  refine l_nil ?_
  refine c_round ?_
  refine wp_seq_k (fun K60 hK60 => ?_)
  refine wp_seq_k (fun K61 hK61 => ?_)
  refine wp_region_lit ?_
  refine l_q rfl rfl (q_moveI rfl) ?_
  refine l_q rfl rfl (q_lss rfl rfl) ?_
  refine l_nil ?_
  refine hK61 _ _ ?_
  refine c_condT rfl (by decide) ?_
  refine wp_skip ?_
  refine hK60 _ _ ?_
  refine wp_seq_k (fun K63 hK63 => ?_)
  refine wp_block ?_
  refine wp_seq_k (fun K64 hK64 => ?_)
  refine r_any (by kernel_rfl) hS59 (fun w65 hS65 => ?_)
  clear hS59
  refine o_pure (i := 0) (fun _ _ => trivial) rfl rfl (by kernel_rfl) (goes0 rfl) (QOk.then (QOk.inBlock (QOk.then (QOk.then (QOk.inBlock (QOk.then (QOk.then QOk.body))))))) (fun w => q_moveI rfl) ?_
  refine o_pure (i := 1) (fun _ _ => trivial) rfl rfl (by kernel_rfl) (goes0 rfl) (QOk.then (QOk.inBlock (QOk.then (QOk.then (QOk.inBlock (QOk.then (QOk.then QOk.body))))))) (fun w => q_fieldAddr (ft := 106) (o := 1) rfl (by kernel_rfl)) ?_
  refine o_pure (i := 2) (fun _ _ => trivial) rfl rfl (by kernel_rfl) (goes0 rfl) (QOk.then (QOk.inBlock (QOk.then (QOk.then (QOk.inBlock (QOk.then (QOk.then QOk.body))))))) (fun w => q_indexAddrA (len := 6) (e := 105) (m := 1) rfl rfl (by kernel_rfl) (by kernel_rfl) (by decide) (by decide)) ?_
  refine o_held (i := 3) [8, 10, 11] (fun _ _ => trivial) rfl rfl (by kernel_rfl) (goes0 rfl) (QOk.then (QOk.inBlock (QOk.then (QOk.then (QOk.inBlock (QOk.then (QOk.then QOk.body))))))) (q_load1 rfl (by kernel_rfl) (hS65.cell (i := 3) rfl rfl)) ?_
  refine o_pure (i := 4) (fun j w => ⟨(fun _ _ => trivial) j w, fun _ h => h⟩) rfl rfl (by kernel_rfl) (goes0 rfl) (QOk.then (QOk.inBlock (QOk.then (QOk.then (QOk.inBlock (QOk.then (QOk.then QOk.body))))))) (fun w => q_moveI rfl) ?_
  refine o_pure (i := 5) (fun j w => ⟨(fun _ _ => trivial) j w, fun _ h => h⟩) rfl rfl (by kernel_rfl) (goes0 rfl) (QOk.then (QOk.inBlock (QOk.then (QOk.then (QOk.inBlock (QOk.then (QOk.then QOk.body))))))) (fun w => q_fieldAddr (ft := 106) (o := 1) rfl (by kernel_rfl)) ?_
  refine o_pure (i := 6) (fun j w => ⟨(fun _ _ => trivial) j w, fun _ h => h⟩) rfl rfl (by kernel_rfl) (goes0 rfl) (QOk.then (QOk.inBlock (QOk.then (QOk.then (QOk.inBlock (QOk.then (QOk.then QOk.body))))))) (fun w => q_indexAddrA (len := 6) (e := 105) (m := 1) rfl rfl (by kernel_rfl) (by kernel_rfl) (by decide) (by decide)) ?_
  refine o_held (i := 7) [8, 10, 11] (fun j w => ⟨(fun _ _ => trivial) j w, fun _ h => h⟩) rfl rfl (by kernel_rfl) (goes0 rfl) (QOk.then (QOk.inBlock (QOk.then (QOk.then (QOk.inBlock (QOk.then (QOk.then QOk.body))))))) (q_load1 rfl (by kernel_rfl) (hS65.cell (i := 2) rfl rfl)) ?_
  refine o_pure (i := 8) (fun j w => ⟨(fun j w => ⟨(fun _ _ => trivial) j w, fun _ h => h⟩) j w, fun _ h => h⟩) rfl rfl (by kernel_rfl) (goes0 rfl) (QOk.then (QOk.inBlock (QOk.then (QOk.then (QOk.inBlock (QOk.then (QOk.then QOk.body))))))) (fun w => u_add (a := p5) (b := q5) (M := 18446744073709551616) rfl rfl rfl (by decide)) ?_
  refine o_pure (i := 9) (fun j w => ⟨(fun j w => ⟨(fun _ _ => trivial) j w, fun _ h => h⟩) j w, fun _ h => h⟩) rfl rfl (by kernel_rfl) (goes0 rfl) (QOk.then (QOk.inBlock (QOk.then (QOk.then (QOk.inBlock (QOk.then (QOk.then QOk.body))))))) (fun w => q_moveI rfl) ?_
  refine o_pure (i := 10) (fun j w => ⟨(fun j w => ⟨(fun _ _ => trivial) j w, fun _ h => h⟩) j w, fun _ h => h⟩) rfl rfl (by kernel_rfl) (goes0 rfl) (QOk.then (QOk.inBlock (QOk.then (QOk.then (QOk.inBlock (QOk.then (QOk.then QOk.body))))))) (fun w => u_add (a := ((p5 + q5) % 18446744073709551616)) (b := (s57 / 2 ^ 32)) (M := 18446744073709551616) rfl rfl rfl (by decide)) ?_
  refine o_pure (i := 11) (fun j w => ⟨(fun j w => ⟨(fun _ _ => trivial) j w, fun _ h => h⟩) j w, fun _ h => h⟩) rfl rfl (by kernel_rfl) (goes0 rfl) (QOk.then (QOk.inBlock (QOk.then (QOk.then (QOk.inBlock (QOk.then (QOk.then QOk.body))))))) (fun w => q_assignI rfl) ?_
  refine o_done (by kernel_rfl) ?_
  generalize hs66 : ((((p5 + q5) % 18446744073709551616) + (s57 / 2 ^ 32)) % 18446744073709551616) = s66
  refine hK64 _ _ ?_
  refine wp_seq_k (fun K67 hK67 => ?_)
  refine wp_region_lit ?_
  refine l_q rfl rfl (q_moveI rfl) ?_
  refine l_q rfl rfl (q_moveI rfl) ?_
  refine l_q rfl rfl (q_remN (a := s66) (b := 4294967296) rfl rfl (by first | decide | omega)) ?_
  refine l_q rfl rfl (q_fieldAddr (ft := 106) (o := 1) rfl (by kernel_rfl)) ?_
  refine l_q rfl rfl (q_indexAddrA (len := 6) (e := 105) (m := 1) rfl rfl (by kernel_rfl) (by kernel_rfl) (by decide) (by decide)) ?_
  refine l_e rfl (fun K hK => ?_)
  refine e_store1 hS65 rfl rfl (by kernel_rfl) (by first | rfl | assumption) (i := 0) rfl rfl (fun w68 (hS68 : St _ _ [.blk b6 (.cells #[.bool m1, .int .u64 (((s21 % 4294967296) : Nat) : Int), .int .u64 (((s30 % 4294967296) : Nat) : Int), .int .u64 (((s39 % 4294967296) : Nat) : Int), .int .u64 (((s48 % 4294967296) : Nat) : Int), .int .u64 (((s57 % 4294967296) : Nat) : Int), .int .u64 (((s66 % 4294967296) : Nat) : Int)] 108), _, _, _] _) => ?_)
  clear hS65
  refine hK _ _ ?_; clear hK K
  refine l_nil ?_
  refine hK67 _ _ ?_
  refine wp_region_lit ?_
  refine l_q rfl rfl (q_moveI rfl) ?_
  refine l_q rfl rfl (q_shrN (k := .u64) (a := s66) (b := 32) rfl rfl (by decide)) ?_
  refine l_q rfl rfl (q_assignI rfl) ?_
  refine l_nil ?_
  refine hK63 _ _ ?_
  refine wp_region_lit ?_
  refine l_q rfl rfl (q_moveI rfl) ?_
  refine l_q rfl rfl (q_addx rfl rfl (by first | decide | omega) (by first | decide | omega)) ?_
  refine l_q rfl rfl (q_assignI rfl) ?_
  refine l_nil ?_
  refine c_round ?_
  refine wp_seq_k (fun K69 hK69 => ?_)
  refine wp_seq_k (fun K70 hK70 => ?_)
  refine wp_region_lit ?_
  refine l_q rfl rfl (q_moveI rfl) ?_
  refine l_q rfl rfl (q_lss rfl rfl) ?_
  refine l_nil ?_
  refine hK70 _ _ ?_
  refine c_condF rfl (by decide) ?_
  refine wp_exit ?_
  refine hK13 _ _ ?_
  refine wp_seq_k (fun K72 hK72 => ?_)
  refine wp_region_lit ?_
  refine l_q rfl rfl (q_loadA (m := 7) rfl (by kernel_rfl) (by kernel_rfl) (hS68.blk (i := 0) rfl) rfl rfl) ?_
  refine l_e rfl (fun K hK => ?_)
  refine e_storeA hS68 rfl rfl (by kernel_rfl) (by repeat' (first | exact trivial | refine ⟨by first | rfl | assumption | exact one_if (by assumption), ?_⟩)) (i := 1) rfl rfl (fun w73 (hS73 : St _ _ [_, .blk b4 (.cells #[.bool m1, .int .u64 (((s21 % 4294967296) : Nat) : Int), .int .u64 (((s30 % 4294967296) : Nat) : Int), .int .u64 (((s39 % 4294967296) : Nat) : Int), .int .u64 (((s48 % 4294967296) : Nat) : Int), .int .u64 (((s57 % 4294967296) : Nat) : Int), .int .u64 (((s66 % 4294967296) : Nat) : Int)] 108), _, _] _) => ?_)
  clear hS68
  refine hK _ _ ?_; clear hK K
  refine l_nil ?_
  refine hK72 _ _ ?_
  refine wp_ret ?_
  refine c_retC (m := 7) rfl (by kernel_rfl) (by kernel_rfl) rfl (by first | exact hS73.blk (i := 0) rfl | exact hS73.blk (i := 1) rfl | exact hS73.blk (i := 2) rfl | exact hS73.blk (i := 3) rfl | exact hS73.blk (i := 4) rfl) rfl ?_
  exact ⟨_, rfl, ⟨m1, (s21 % 4294967296), (s30 % 4294967296), (s39 % 4294967296), (s48 % 4294967296), (s57 % 4294967296), (s66 % 4294967296), rfl, by omega, by omega, by omega, by omega, by omega, by omega, by (try have hm := hc9; cases m1 <;> cases m2 <;> simp_all only [sv] <;> unfold dv at * <;> simp at * <;> omega)⟩, hS73.drop⟩
 ·
  have hc9b := hc9
  try simp only [decide_eq_true_eq, decide_eq_false_iff_not, Bool.not_eq_true', Bool.not_eq_false', Bool.and_eq_true, Bool.or_eq_true, Int.not_lt, Int.not_le, ne_eq, Decidable.not_not] at hc9
  refine wp_skip ?_
  refine hK7 _ _ ?_
  refine wp_seq_k (fun K74 hK74 => ?_)
  refine wp_seq_k (fun K75 hK75 => ?_)
  refine wp_region_lit ?_
  refine l_q rfl rfl (q_fieldAddr (ft := 106) (o := 1) rfl (by kernel_rfl)) ?_
  refine l_q rfl rfl (q_loadA (m := 6) rfl (by kernel_rfl) (by kernel_rfl) (hS6.blk (i := 3) rfl) rfl rfl) ?_
  refine l_q rfl rfl (q_fieldAddr (ft := 106) (o := 1) rfl (by kernel_rfl)) ?_
  refine l_q rfl rfl (q_loadA (m := 6) rfl (by kernel_rfl) (by kernel_rfl) (hS6.blk (i := 2) rfl) rfl rfl) ?_
  refine l_e rfl (fun K hK => ?_)
  refine e_call (by kernel_rfl) (less_ok p0 p1 p2 p3 p4 p5 q0 q1 q2 q3 q4 q5 (by omega) (by omega) (by omega) (by omega) (by omega) (by omega) (by omega) (by omega) (by omega) (by omega) (by omega) (by omega) _) rfl (after_R hS6 (fun v76 w76 hv76 hS76 => ?_))
  clear hS6
  obtain rfl := hv76
  refine hK _ _ ?_; clear hK K
  refine l_nil ?_
  refine hK75 _ _ ?_
  refine c_cond rfl (fun hc77 => ?_) (fun hc77 => ?_)
  ·
   have hc77b := hc77
   try simp only [decide_eq_true_eq, decide_eq_false_iff_not, Bool.not_eq_true', Bool.not_eq_false', Bool.and_eq_true, Bool.or_eq_true, Int.not_lt, Int.not_le, ne_eq, Decidable.not_not] at hc77
   refine wp_seq_k (fun K78 hK78 => ?_)
   refine wp_region_lit ?_
   refine l_q rfl rfl (q_loadA (m := 7) rfl (by kernel_rfl) (by kernel_rfl) (hS76.blk (i := 3) rfl) rfl rfl) ?_
   refine l_e rfl (fun K hK => ?_)
   refine e_alloc (zv := .agg #[.bool false, .int .u64 0, .int .u64 0, .int .u64 0, .int .u64 0, .int .u64 0, .int .u64 0]) hS76 (by kernel_rfl) (fun b79 w79 (hS79 : St _ _ [.blk b79 (.cells #[.bool false, .int .u64 (0 : Int), .int .u64 (0 : Int), .int .u64 (0 : Int), .int .u64 (0 : Int), .int .u64 (0 : Int), .int .u64 (0 : Int)] 108), _, _, _, _] _) => ?_)
   clear hS76
   refine hK _ _ ?_; clear hK K
   refine l_e rfl (fun K hK => ?_)
   refine e_storeA hS79 rfl rfl (by kernel_rfl) (by repeat' (first | exact trivial | refine ⟨by first | rfl | assumption | exact one_if (by assumption), ?_⟩)) (i := 0) rfl rfl (fun w80 (hS80 : St _ _ [.blk b79 (.cells #[.bool m1, .int .u64 (p0 : Int), .int .u64 (p1 : Int), .int .u64 (p2 : Int), .int .u64 (p3 : Int), .int .u64 (p4 : Int), .int .u64 (p5 : Int)] 108), _, _, _, _] _) => ?_)
   clear hS79
   refine hK _ _ ?_; clear hK K
   refine l_nil ?_
   refine hK78 _ _ ?_
   refine wp_seq_k (fun K81 hK81 => ?_)
   refine wp_region_lit ?_
   refine l_q rfl rfl (q_loadA (m := 7) rfl (by kernel_rfl) (by kernel_rfl) (hS80.blk (i := 3) rfl) rfl rfl) ?_
   refine l_e rfl (fun K hK => ?_)
   refine e_storeA hS80 rfl rfl (by kernel_rfl) (by repeat' (first | exact trivial | refine ⟨by first | rfl | assumption | exact one_if (by assumption), ?_⟩)) (i := 4) rfl rfl (fun w82 (hS82 : St _ _ [_, _, _, _, .blk b2 (.cells #[.bool m2, .int .u64 (q0 : Int), .int .u64 (q1 : Int), .int .u64 (q2 : Int), .int .u64 (q3 : Int), .int .u64 (q4 : Int), .int .u64 (q5 : Int)] 108)] _) => ?_)
   clear hS80
   refine hK _ _ ?_; clear hK K
   refine l_nil ?_
   refine hK81 _ _ ?_
   refine wp_region_lit ?_
   refine l_q rfl rfl (q_loadA (m := 7) rfl (by kernel_rfl) (by kernel_rfl) (hS82.blk (i := 0) rfl) rfl rfl) ?_
   refine l_e rfl (fun K hK => ?_)
   refine e_storeA hS82 rfl rfl (by kernel_rfl) (by repeat' (first | exact trivial | refine ⟨by first | rfl | assumption | exact one_if (by assumption), ?_⟩)) (i := 3) rfl rfl (fun w83 (hS83 : St _ _ [_, _, _, .blk b3 (.cells #[.bool m1, .int .u64 (p0 : Int), .int .u64 (p1 : Int), .int .u64 (p2 : Int), .int .u64 (p3 : Int), .int .u64 (p4 : Int), .int .u64 (p5 : Int)] 108), _] _) => ?_)
   clear hS82
   refine hK _ _ ?_; clear hK K
   refine l_nil ?_
   refine hK74 _ _ ?_
   refine wp_seq_k (fun K84 hK84 => ?_)
   refine wp_region_lit ?_
   refine l_q rfl rfl (q_fieldAddr (ft := 4) (o := 0) rfl (by kernel_rfl)) ?_
   refine l_q rfl rfl (q_load1 rfl (by kernel_rfl) (hS83.cell (i := 4) rfl rfl)) ?_
   refine l_q rfl rfl (q_fieldAddr (ft := 4) (o := 0) rfl (by kernel_rfl)) ?_
   refine l_e rfl (fun K hK => ?_)
   refine e_store1 hS83 rfl rfl (by kernel_rfl) (by first | rfl | assumption) (i := 1) rfl rfl (fun w85 (hS85 : St _ _ [_, .blk b6 (.cells #[.bool m2, .int .u64 (0 : Int), .int .u64 (0 : Int), .int .u64 (0 : Int), .int .u64 (0 : Int), .int .u64 (0 : Int), .int .u64 (0 : Int)] 108), _, _, _] _) => ?_)
   clear hS83
   refine hK _ _ ?_; clear hK K
   refine l_nil ?_
   refine hK84 _ _ ?_
   refine wp_seq_k (fun K86 hK86 => ?_)
   refine wp_region_lit ?_
   refine l_q rfl rfl (q_assignI rfl) ?_
   refine l_nil ?_
   refine hK86 _ _ ?_
   refine wp_seq_k (fun K87 hK87 => ?_)
   refine wp_seq_k (fun K88 hK88 => ?_)
   refine wp_region_lit ?_
   refine l_q rfl rfl (q_assignI rfl) ?_
   refine l_nil ?_
   refine hK88 _ _ ?_
   refine wp_block ?_
   refine c_rounds 7 ?_
   refine c_round ?_
   refine wp_seq_k (fun K89 hK89 => ?_)
   refine wp_seq_k (fun K90 hK90 => ?_)
   refine wp_region_lit ?_
   refine l_q rfl rfl (q_moveI rfl) ?_
   refine l_q rfl rfl (q_lss rfl rfl) ?_
   refine l_nil ?_
   refine hK90 _ _ ?_
   refine c_condT rfl (by decide) ?_
   refine wp_skip ?_
   refine hK89 _ _ ?_
   refine wp_seq_k (fun K92 hK92 => ?_)
   refine wp_block ?_
   refine wp_seq_k (fun K93 hK93 => ?_)
   refine r_any (by kernel_rfl) hS85 (fun w94 hS94 => ?_)
   clear hS85
   refine o_pure (i := 0) (fun _ _ => trivial) rfl rfl (by kernel_rfl) (goes0 rfl) (QOk.then (QOk.inBlock (QOk.then (QOk.then (QOk.inBlock (QOk.then QOk.body)))))) (fun w => q_moveI rfl) ?_
   refine o_pure (i := 1) (fun _ _ => trivial) rfl rfl (by kernel_rfl) (goes0 rfl) (QOk.then (QOk.inBlock (QOk.then (QOk.then (QOk.inBlock (QOk.then QOk.body)))))) (fun w => q_fieldAddr (ft := 106) (o := 1) rfl (by kernel_rfl)) ?_
   refine o_pure (i := 2) (fun _ _ => trivial) rfl rfl (by kernel_rfl) (goes0 rfl) (QOk.then (QOk.inBlock (QOk.then (QOk.then (QOk.inBlock (QOk.then QOk.body)))))) (fun w => q_indexAddrA (len := 6) (e := 105) (m := 1) rfl rfl (by kernel_rfl) (by kernel_rfl) (by decide) (by decide)) ?_
   refine o_held (i := 3) [4, 9, 11, 12] (fun _ _ => trivial) rfl rfl (by kernel_rfl) (goes0 rfl) (QOk.then (QOk.inBlock (QOk.then (QOk.then (QOk.inBlock (QOk.then QOk.body)))))) (q_load1 rfl (by kernel_rfl) (hS94.cell (i := 4) rfl rfl)) ?_
   refine o_pure (i := 4) (fun j w => ⟨(fun _ _ => trivial) j w, fun _ h => h⟩) rfl rfl (by kernel_rfl) (goes0 rfl) (QOk.then (QOk.inBlock (QOk.then (QOk.then (QOk.inBlock (QOk.then QOk.body)))))) (fun w => u_add (a := q0) (b := 4294967296) (M := 18446744073709551616) rfl rfl rfl (by decide)) ?_
   refine o_pure (i := 5) (fun j w => ⟨(fun _ _ => trivial) j w, fun _ h => h⟩) rfl rfl (by kernel_rfl) (goes0 rfl) (QOk.then (QOk.inBlock (QOk.then (QOk.then (QOk.inBlock (QOk.then QOk.body)))))) (fun w => q_moveI rfl) ?_
   refine o_pure (i := 6) (fun j w => ⟨(fun _ _ => trivial) j w, fun _ h => h⟩) rfl rfl (by kernel_rfl) (goes0 rfl) (QOk.then (QOk.inBlock (QOk.then (QOk.then (QOk.inBlock (QOk.then QOk.body)))))) (fun w => q_fieldAddr (ft := 106) (o := 1) rfl (by kernel_rfl)) ?_
   refine o_pure (i := 7) (fun j w => ⟨(fun _ _ => trivial) j w, fun _ h => h⟩) rfl rfl (by kernel_rfl) (goes0 rfl) (QOk.then (QOk.inBlock (QOk.then (QOk.then (QOk.inBlock (QOk.then QOk.body)))))) (fun w => q_indexAddrA (len := 6) (e := 105) (m := 1) rfl rfl (by kernel_rfl) (by kernel_rfl) (by decide) (by decide)) ?_
   refine o_held (i := 8) [9, 11, 12] (fun j w => ⟨(fun _ _ => trivial) j w, fun _ h => h⟩) rfl rfl (by kernel_rfl) (goes0 rfl) (QOk.then (QOk.inBlock (QOk.then (QOk.then (QOk.inBlock (QOk.then QOk.body)))))) (q_load1 rfl (by kernel_rfl) (hS94.cell (i := 3) rfl rfl)) ?_
   refine o_pure (i := 9) (fun j w => ⟨(fun j w => ⟨(fun _ _ => trivial) j w, fun _ h => h⟩) j w, fun _ h => h⟩) rfl rfl (by kernel_rfl) (goes0 rfl) (QOk.then (QOk.inBlock (QOk.then (QOk.then (QOk.inBlock (QOk.then QOk.body)))))) (fun w => u_subN (a := ((q0 + 4294967296) % 18446744073709551616)) (b := p0) rfl rfl rfl (by omega) (by show _ < 18446744073709551616; omega)) ?_
   refine o_pure (i := 10) (fun j w => ⟨(fun j w => ⟨(fun _ _ => trivial) j w, fun _ h => h⟩) j w, fun _ h => h⟩) rfl rfl (by kernel_rfl) (goes0 rfl) (QOk.then (QOk.inBlock (QOk.then (QOk.then (QOk.inBlock (QOk.then QOk.body)))))) (fun w => q_moveI rfl) ?_
   refine o_pure (i := 11) (fun j w => ⟨(fun j w => ⟨(fun _ _ => trivial) j w, fun _ h => h⟩) j w, fun _ h => h⟩) rfl rfl (by kernel_rfl) (goes0 rfl) (QOk.then (QOk.inBlock (QOk.then (QOk.then (QOk.inBlock (QOk.then QOk.body)))))) (fun w => u_subN (a := (((q0 + 4294967296) % 18446744073709551616) - p0)) (b := 0) rfl rfl rfl (by omega) (by show _ < 18446744073709551616; omega)) ?_
   refine o_pure (i := 12) (fun j w => ⟨(fun j w => ⟨(fun _ _ => trivial) j w, fun _ h => h⟩) j w, fun _ h => h⟩) rfl rfl (by kernel_rfl) (goes0 rfl) (QOk.then (QOk.inBlock (QOk.then (QOk.then (QOk.inBlock (QOk.then QOk.body)))))) (fun w => q_assignI rfl) ?_
   refine o_done (by kernel_rfl) ?_
   generalize hs95 : ((((q0 + 4294967296) % 18446744073709551616) - p0) - 0) = s95
   refine hK93 _ _ ?_
   refine wp_seq_k (fun K96 hK96 => ?_)
   refine wp_region_lit ?_
   refine l_q rfl rfl (q_moveI rfl) ?_
   refine l_q rfl rfl (q_moveI rfl) ?_
   refine l_q rfl rfl (q_remN (a := s95) (b := 4294967296) rfl rfl (by first | decide | omega)) ?_
   refine l_q rfl rfl (q_fieldAddr (ft := 106) (o := 1) rfl (by kernel_rfl)) ?_
   refine l_q rfl rfl (q_indexAddrA (len := 6) (e := 105) (m := 1) rfl rfl (by kernel_rfl) (by kernel_rfl) (by decide) (by decide)) ?_
   refine l_e rfl (fun K hK => ?_)
   refine e_store1 hS94 rfl rfl (by kernel_rfl) (by first | rfl | assumption) (i := 1) rfl rfl (fun w97 (hS97 : St _ _ [_, .blk b6 (.cells #[.bool m2, .int .u64 (((s95 % 4294967296) : Nat) : Int), .int .u64 (0 : Int), .int .u64 (0 : Int), .int .u64 (0 : Int), .int .u64 (0 : Int), .int .u64 (0 : Int)] 108), _, _, _] _) => ?_)
   clear hS94
   refine hK _ _ ?_; clear hK K
   refine l_nil ?_
   refine hK96 _ _ ?_
   refine wp_region_lit ?_
   refine l_q rfl rfl (q_moveI rfl) ?_
   refine l_q rfl rfl (q_shrN (k := .u64) (a := s95) (b := 32) rfl rfl (by decide)) ?_
   refine l_q rfl rfl (u_subN (a := 1) (b := (s95 / 2 ^ 32)) rfl rfl rfl (by omega) (by show _ < 18446744073709551616; omega)) ?_
   refine l_q rfl rfl (q_assignI rfl) ?_
   refine l_nil ?_
   refine hK92 _ _ ?_
   refine wp_region_lit ?_
   refine l_q rfl rfl (q_moveI rfl) ?_
   refine l_q rfl rfl (q_addx rfl rfl (by first | decide | omega) (by first | decide | omega)) ?_
   refine l_q rfl rfl (q_assignI rfl) ?_
   refine l_nil ?_
   refine c_round ?_
   refine wp_seq_k (fun K98 hK98 => ?_)
   refine wp_seq_k (fun K99 hK99 => ?_)
   refine wp_region_lit ?_
   refine l_q rfl rfl (q_moveI rfl) ?_
   refine l_q rfl rfl (q_lss rfl rfl) ?_
   refine l_nil ?_
   refine hK99 _ _ ?_
   refine c_condT rfl (by decide) ?_
   refine wp_skip ?_
   refine hK98 _ _ ?_
   refine wp_seq_k (fun K101 hK101 => ?_)
   refine wp_block ?_
   refine wp_seq_k (fun K102 hK102 => ?_)
   refine r_any (by kernel_rfl) hS97 (fun w103 hS103 => ?_)
   clear hS97
   refine o_pure (i := 0) (fun _ _ => trivial) rfl rfl (by kernel_rfl) (goes0 rfl) (QOk.then (QOk.inBlock (QOk.then (QOk.then (QOk.inBlock (QOk.then QOk.body)))))) (fun w => q_moveI rfl) ?_
   refine o_pure (i := 1) (fun _ _ => trivial) rfl rfl (by kernel_rfl) (goes0 rfl) (QOk.then (QOk.inBlock (QOk.then (QOk.then (QOk.inBlock (QOk.then QOk.body)))))) (fun w => q_fieldAddr (ft := 106) (o := 1) rfl (by kernel_rfl)) ?_
   refine o_pure (i := 2) (fun _ _ => trivial) rfl rfl (by kernel_rfl) (goes0 rfl) (QOk.then (QOk.inBlock (QOk.then (QOk.then (QOk.inBlock (QOk.then QOk.body)))))) (fun w => q_indexAddrA (len := 6) (e := 105) (m := 1) rfl rfl (by kernel_rfl) (by kernel_rfl) (by decide) (by decide)) ?_
   refine o_held (i := 3) [4, 9, 11, 12] (fun _ _ => trivial) rfl rfl (by kernel_rfl) (goes0 rfl) (QOk.then (QOk.inBlock (QOk.then (QOk.then (QOk.inBlock (QOk.then QOk.body)))))) (q_load1 rfl (by kernel_rfl) (hS103.cell (i := 4) rfl rfl)) ?_
   refine o_pure (i := 4) (fun j w => ⟨(fun _ _ => trivial) j w, fun _ h => h⟩) rfl rfl (by kernel_rfl) (goes0 rfl) (QOk.then (QOk.inBlock (QOk.then (QOk.then (QOk.inBlock (QOk.then QOk.body)))))) (fun w => u_add (a := q1) (b := 4294967296) (M := 18446744073709551616) rfl rfl rfl (by decide)) ?_
   refine o_pure (i := 5) (fun j w => ⟨(fun _ _ => trivial) j w, fun _ h => h⟩) rfl rfl (by kernel_rfl) (goes0 rfl) (QOk.then (QOk.inBlock (QOk.then (QOk.then (QOk.inBlock (QOk.then QOk.body)))))) (fun w => q_moveI rfl) ?_
   refine o_pure (i := 6) (fun j w => ⟨(fun _ _ => trivial) j w, fun _ h => h⟩) rfl rfl (by kernel_rfl) (goes0 rfl) (QOk.then (QOk.inBlock (QOk.then (QOk.then (QOk.inBlock (QOk.then QOk.body)))))) (fun w => q_fieldAddr (ft := 106) (o := 1) rfl (by kernel_rfl)) ?_
   refine o_pure (i := 7) (fun j w => ⟨(fun _ _ => trivial) j w, fun _ h => h⟩) rfl rfl (by kernel_rfl) (goes0 rfl) (QOk.then (QOk.inBlock (QOk.then (QOk.then (QOk.inBlock (QOk.then QOk.body)))))) (fun w => q_indexAddrA (len := 6) (e := 105) (m := 1) rfl rfl (by kernel_rfl) (by kernel_rfl) (by decide) (by decide)) ?_
   refine o_held (i := 8) [9, 11, 12] (fun j w => ⟨(fun _ _ => trivial) j w, fun _ h => h⟩) rfl rfl (by kernel_rfl) (goes0 rfl) (QOk.then (QOk.inBlock (QOk.then (QOk.then (QOk.inBlock (QOk.then QOk.body)))))) (q_load1 rfl (by kernel_rfl) (hS103.cell (i := 3) rfl rfl)) ?_
   refine o_pure (i := 9) (fun j w => ⟨(fun j w => ⟨(fun _ _ => trivial) j w, fun _ h => h⟩) j w, fun _ h => h⟩) rfl rfl (by kernel_rfl) (goes0 rfl) (QOk.then (QOk.inBlock (QOk.then (QOk.then (QOk.inBlock (QOk.then QOk.body)))))) (fun w => u_subN (a := ((q1 + 4294967296) % 18446744073709551616)) (b := p1) rfl rfl rfl (by omega) (by show _ < 18446744073709551616; omega)) ?_
   refine o_pure (i := 10) (fun j w => ⟨(fun j w => ⟨(fun _ _ => trivial) j w, fun _ h => h⟩) j w, fun _ h => h⟩) rfl rfl (by kernel_rfl) (goes0 rfl) (QOk.then (QOk.inBlock (QOk.then (QOk.then (QOk.inBlock (QOk.then QOk.body)))))) (fun w => q_moveI rfl) ?_
   refine o_pure (i := 11) (fun j w => ⟨(fun j w => ⟨(fun _ _ => trivial) j w, fun _ h => h⟩) j w, fun _ h => h⟩) rfl rfl (by kernel_rfl) (goes0 rfl) (QOk.then (QOk.inBlock (QOk.then (QOk.then (QOk.inBlock (QOk.then QOk.body)))))) (fun w => u_subN (a := (((q1 + 4294967296) % 18446744073709551616) - p1)) (b := (1 - (s95 / 2 ^ 32))) rfl rfl rfl (by omega) (by show _ < 18446744073709551616; omega)) ?_
   refine o_pure (i := 12) (fun j w => ⟨(fun j w => ⟨(fun _ _ => trivial) j w, fun _ h => h⟩) j w, fun _ h => h⟩) rfl rfl (by kernel_rfl) (goes0 rfl) (QOk.then (QOk.inBlock (QOk.then (QOk.then (QOk.inBlock (QOk.then QOk.body)))))) (fun w => q_assignI rfl) ?_
   refine o_done (by kernel_rfl) ?_
   generalize hs104 : ((((q1 + 4294967296) % 18446744073709551616) - p1) - (1 - (s95 / 2 ^ 32))) = s104
   refine hK102 _ _ ?_
   refine wp_seq_k (fun K105 hK105 => ?_)
   refine wp_region_lit ?_
   refine l_q rfl rfl (q_moveI rfl) ?_
   refine l_q rfl rfl (q_moveI rfl) ?_
   refine l_q rfl rfl (q_remN (a := s104) (b := 4294967296) rfl rfl (by first | decide | omega)) ?_
   refine l_q rfl rfl (q_fieldAddr (ft := 106) (o := 1) rfl (by kernel_rfl)) ?_
   refine l_q rfl rfl (q_indexAddrA (len := 6) (e := 105) (m := 1) rfl rfl (by kernel_rfl) (by kernel_rfl) (by decide) (by decide)) ?_
   refine l_e rfl (fun K hK => ?_)
   refine e_store1 hS103 rfl rfl (by kernel_rfl) (by first | rfl | assumption) (i := 1) rfl rfl (fun w106 (hS106 : St _ _ [_, .blk b6 (.cells #[.bool m2, .int .u64 (((s95 % 4294967296) : Nat) : Int), .int .u64 (((s104 % 4294967296) : Nat) : Int), .int .u64 (0 : Int), .int .u64 (0 : Int), .int .u64 (0 : Int), .int .u64 (0 : Int)] 108), _, _, _] _) => ?_)
   clear hS103
   refine hK _ _ ?_; clear hK K
   refine l_nil ?_
   refine hK105 _ _ ?_
   refine wp_region_lit ?_
   refine l_q rfl rfl (q_moveI rfl) ?_
   refine l_q rfl rfl (q_shrN (k := .u64) (a := s104) (b := 32) rfl rfl (by decide)) ?_
   refine l_q rfl rfl (u_subN (a := 1) (b := (s104 / 2 ^ 32)) rfl rfl rfl (by omega) (by show _ < 18446744073709551616; omega)) ?_
   refine l_q rfl rfl (q_assignI rfl) ?_
   refine l_nil ?_
   refine hK101 _ _ ?_
   refine wp_region_lit ?_
   refine l_q rfl rfl (q_moveI rfl) ?_
   refine l_q rfl rfl (q_addx rfl rfl (by first | decide | omega) (by first | decide | omega)) ?_
   refine l_q rfl rfl (q_assignI rfl) ?_
   refine l_nil ?_
   refine c_round ?_
   refine wp_seq_k (fun K107 hK107 => ?_)
   refine wp_seq_k (fun K108 hK108 => ?_)
   refine wp_region_lit ?_
   refine l_q rfl rfl (q_moveI rfl) ?_
   refine l_q rfl rfl (q_lss rfl rfl) ?_
   refine l_nil ?_
   refine hK108 _ _ ?_
   refine c_condT rfl (by decide) ?_
   refine wp_skip ?_
   refine hK107 _ _ ?_
   refine wp_seq_k (fun K110 hK110 => ?_)
   refine wp_block ?_
   refine wp_seq_k (fun K111 hK111 => ?_)
   refine r_any (by kernel_rfl) hS106 (fun w112 hS112 => ?_)
   clear hS106
   refine o_pure (i := 0) (fun _ _ => trivial) rfl rfl (by kernel_rfl) (goes0 rfl) (QOk.then (QOk.inBlock (QOk.then (QOk.then (QOk.inBlock (QOk.then QOk.body)))))) (fun w => q_moveI rfl) ?_
   refine o_pure (i := 1) (fun _ _ => trivial) rfl rfl (by kernel_rfl) (goes0 rfl) (QOk.then (QOk.inBlock (QOk.then (QOk.then (QOk.inBlock (QOk.then QOk.body)))))) (fun w => q_fieldAddr (ft := 106) (o := 1) rfl (by kernel_rfl)) ?_
   refine o_pure (i := 2) (fun _ _ => trivial) rfl rfl (by kernel_rfl) (goes0 rfl) (QOk.then (QOk.inBlock (QOk.then (QOk.then (QOk.inBlock (QOk.then QOk.body)))))) (fun w => q_indexAddrA (len := 6) (e := 105) (m := 1) rfl rfl (by kernel_rfl) (by kernel_rfl) (by decide) (by decide)) ?_
   refine o_held (i := 3) [4, 9, 11, 12] (fun _ _ => trivial) rfl rfl (by kernel_rfl) (goes0 rfl) (QOk.then (QOk.inBlock (QOk.then (QOk.then (QOk.inBlock (QOk.then QOk.body)))))) (q_load1 rfl (by kernel_rfl) (hS112.cell (i := 4) rfl rfl)) ?_
   refine o_pure (i := 4) (fun j w => ⟨(fun _ _ => trivial) j w, fun _ h => h⟩) rfl rfl (by kernel_rfl) (goes0 rfl) (QOk.then (QOk.inBlock (QOk.then (QOk.then (QOk.inBlock (QOk.then QOk.body)))))) (fun w => u_add (a := q2) (b := 4294967296) (M := 18446744073709551616) rfl rfl rfl (by decide)) ?_
   refine o_pure (i := 5) (fun j w => ⟨(fun _ _ => trivial) j w, fun _ h => h⟩) rfl rfl (by kernel_rfl) (goes0 rfl) (QOk.then (QOk.inBlock (QOk.then (QOk.then (QOk.inBlock (QOk.then QOk.body)))))) (fun w => q_moveI rfl) ?_
   refine o_pure (i := 6) (fun j w => ⟨(fun _ _ => trivial) j w, fun _ h => h⟩) rfl rfl (by kernel_rfl) (goes0 rfl) (QOk.then (QOk.inBlock (QOk.then (QOk.then (QOk.inBlock (QOk.then QOk.body)))))) (fun w => q_fieldAddr (ft := 106) (o := 1) rfl (by kernel_rfl)) ?_
   refine o_pure (i := 7) (fun j w => ⟨(fun _ _ => trivial) j w, fun _ h => h⟩) rfl rfl (by kernel_rfl) (goes0 rfl) (QOk.then (QOk.inBlock (QOk.then (QOk.then (QOk.inBlock (QOk.then QOk.body)))))) (fun w => q_indexAddrA (len := 6) (e := 105) (m := 1) rfl rfl (by kernel_rfl) (by kernel_rfl) (by decide) (by decide)) ?_
   refine o_held (i := 8) [9, 11, 12] (fun j w => ⟨(fun _ _ => trivial) j w, fun _ h => h⟩) rfl rfl (by kernel_rfl) (goes0 rfl) (QOk.then (QOk.inBlock (QOk.then (QOk.then (QOk.inBlock (QOk.then QOk.body)))))) (q_load1 rfl (by kernel_rfl) (hS112.cell (i := 3) rfl rfl)) ?_
   refine o_pure (i := 9) (fun j w => ⟨(fun j w => ⟨(fun _ _ => trivial) j w, fun _ h => h⟩) j w, fun _ h => h⟩) rfl rfl (by kernel_rfl) (goes0 rfl) (QOk.then (QOk.inBlock (QOk.then (QOk.then (QOk.inBlock (QOk.then QOk.body)))))) (fun w => u_subN (a := ((q2 + 4294967296) % 18446744073709551616)) (b := p2) rfl rfl rfl (by omega) (by show _ < 18446744073709551616; omega)) ?_
   refine o_pure (i := 10) (fun j w => ⟨(fun j w => ⟨(fun _ _ => trivial) j w, fun _ h => h⟩) j w, fun _ h => h⟩) rfl rfl (by kernel_rfl) (goes0 rfl) (QOk.then (QOk.inBlock (QOk.then (QOk.then (QOk.inBlock (QOk.then QOk.body)))))) (fun w => q_moveI rfl) ?_
   refine o_pure (i := 11) (fun j w => ⟨(fun j w => ⟨(fun _ _ => trivial) j w, fun _ h => h⟩) j w, fun _ h => h⟩) rfl rfl (by kernel_rfl) (goes0 rfl) (QOk.then (QOk.inBlock (QOk.then (QOk.then (QOk.inBlock (QOk.then QOk.body)))))) (fun w => u_subN (a := (((q2 + 4294967296) % 18446744073709551616) - p2)) (b := (1 - (s104 / 2 ^ 32))) rfl rfl rfl (by omega) (by show _ < 18446744073709551616; omega)) ?_
   refine o_pure (i := 12) (fun j w => ⟨(fun j w => ⟨(fun _ _ => trivial) j w, fun _ h => h⟩) j w, fun _ h => h⟩) rfl rfl (by kernel_rfl) (goes0 rfl) (QOk.then (QOk.inBlock (QOk.then (QOk.then (QOk.inBlock (QOk.then QOk.body)))))) (fun w => q_assignI rfl) ?_
   refine o_done (by kernel_rfl) ?_
   generalize hs113 : ((((q2 + 4294967296) % 18446744073709551616) - p2) - (1 - (s104 / 2 ^ 32))) = s113
   refine hK111 _ _ ?_
   refine wp_seq_k (fun K114 hK114 => ?_)
   refine wp_region_lit ?_
   refine l_q rfl rfl (q_moveI rfl) ?_
   refine l_q rfl rfl (q_moveI rfl) ?_
   refine l_q rfl rfl (q_remN (a := s113) (b := 4294967296) rfl rfl (by first | decide | omega)) ?_
   refine l_q rfl rfl (q_fieldAddr (ft := 106) (o := 1) rfl (by kernel_rfl)) ?_
   refine l_q rfl rfl (q_indexAddrA (len := 6) (e := 105) (m := 1) rfl rfl (by kernel_rfl) (by kernel_rfl) (by decide) (by decide)) ?_
   refine l_e rfl (fun K hK => ?_)
   refine e_store1 hS112 rfl rfl (by kernel_rfl) (by first | rfl | assumption) (i := 1) rfl rfl (fun w115 (hS115 : St _ _ [_, .blk b6 (.cells #[.bool m2, .int .u64 (((s95 % 4294967296) : Nat) : Int), .int .u64 (((s104 % 4294967296) : Nat) : Int), .int .u64 (((s113 % 4294967296) : Nat) : Int), .int .u64 (0 : Int), .int .u64 (0 : Int), .int .u64 (0 : Int)] 108), _, _, _] _) => ?_)
   clear hS112
   refine hK _ _ ?_; clear hK K
   refine l_nil ?_
   refine hK114 _ _ ?_
   refine wp_region_lit ?_
   refine l_q rfl rfl (q_moveI rfl) ?_
   refine l_q rfl rfl (q_shrN (k := .u64) (a := s113) (b := 32) rfl rfl (by decide)) ?_
   refine l_q rfl rfl (u_subN (a := 1) (b := (s113 / 2 ^ 32)) rfl rfl rfl (by omega) (by show _ < 18446744073709551616; omega)) ?_
   refine l_q rfl rfl (q_assignI rfl) ?_
   refine l_nil ?_
   refine hK110 _ _ ?_
   refine wp_region_lit ?_
   refine l_q rfl rfl (q_moveI rfl) ?_
   refine l_q rfl rfl (q_addx rfl rfl (by first | decide | omega) (by first | decide | omega)) ?_
   refine l_q rfl rfl (q_assignI rfl) ?_
   refine l_nil ?_
   refine c_round ?_
   refine wp_seq_k (fun K116 hK116 => ?_)
   refine wp_seq_k (fun K117 hK117 => ?_)
   refine wp_region_lit ?_
   refine l_q rfl rfl (q_moveI rfl) ?_
   refine l_q rfl rfl (q_lss rfl rfl) ?_
   refine l_nil ?_
   refine hK117 _ _ ?_
   refine c_condT rfl (by decide) ?_
   refine wp_skip ?_
   refine hK116 _ _ ?_
   refine wp_seq_k (fun K119 hK119 => ?_)
   refine wp_block ?_
   refine wp_seq_k (fun K120 hK120 => ?_)
   refine r_any (by kernel_rfl) hS115 (fun w121 hS121 => ?_)
   clear hS115
   refine o_pure (i := 0) (fun _ _ => trivial) rfl rfl (by kernel_rfl) (goes0 rfl) (QOk.then (QOk.inBlock (QOk.then (QOk.then (QOk.inBlock (QOk.then QOk.body)))))) (fun w => q_moveI rfl) ?_
   refine o_pure (i := 1) (fun _ _ => trivial) rfl rfl (by kernel_rfl) (goes0 rfl) (QOk.then (QOk.inBlock (QOk.then (QOk.then (QOk.inBlock (QOk.then QOk.body)))))) (fun w => q_fieldAddr (ft := 106) (o := 1) rfl (by kernel_rfl)) ?_
   refine o_pure (i := 2) (fun _ _ => trivial) rfl rfl (by kernel_rfl) (goes0 rfl) (QOk.then (QOk.inBlock (QOk.then (QOk.then (QOk.inBlock (QOk.then QOk.body)))))) (fun w => q_indexAddrA (len := 6) (e := 105) (m := 1) rfl rfl (by kernel_rfl) (by kernel_rfl) (by decide) (by decide)) ?_
   refine o_held (i := 3) [4, 9, 11, 12] (fun _ _ => trivial) rfl rfl (by kernel_rfl) (goes0 rfl) (QOk.then (QOk.inBlock (QOk.then (QOk.then (QOk.inBlock (QOk.then QOk.body)))))) (q_load1 rfl (by kernel_rfl) (hS121.cell (i := 4) rfl rfl)) ?_
   refine o_pure (i := 4) (fun j w => ⟨(fun _ _ => trivial) j w, fun _ h => h⟩) rfl rfl (by kernel_rfl) (goes0 rfl) (QOk.then (QOk.inBlock (QOk.then (QOk.then (QOk.inBlock (QOk.then QOk.body)))))) (fun w => u_add (a := q3) (b := 4294967296) (M := 18446744073709551616) rfl rfl rfl (by decide)) ?_
   refine o_pure (i := 5) (fun j w => ⟨(fun _ _ => trivial) j w, fun _ h => h⟩) rfl rfl (by kernel_rfl) (goes0 rfl) (QOk.then (QOk.inBlock (QOk.then (QOk.then (QOk.inBlock (QOk.then QOk.body)))))) (fun w => q_moveI rfl) ?_
   refine o_pure (i := 6) (fun j w => ⟨(fun _ _ => trivial) j w, fun _ h => h⟩) rfl rfl (by kernel_rfl) (goes0 rfl) (QOk.then (QOk.inBlock (QOk.then (QOk.then (QOk.inBlock (QOk.then QOk.body)))))) (fun w => q_fieldAddr (ft := 106) (o := 1) rfl (by kernel_rfl)) ?_
   refine o_pure (i := 7) (fun j w => ⟨(fun _ _ => trivial) j w, fun _ h => h⟩) rfl rfl (by kernel_rfl) (goes0 rfl) (QOk.then (QOk.inBlock (QOk.then (QOk.then (QOk.inBlock (QOk.then QOk.body)))))) (fun w => q_indexAddrA (len := 6) (e := 105) (m := 1) rfl rfl (by kernel_rfl) (by kernel_rfl) (by decide) (by decide)) ?_
   refine o_held (i := 8) [9, 11, 12] (fun j w => ⟨(fun _ _ => trivial) j w, fun _ h => h⟩) rfl rfl (by kernel_rfl) (goes0 rfl) (QOk.then (QOk.inBlock (QOk.then (QOk.then (QOk.inBlock (QOk.then QOk.body)))))) (q_load1 rfl (by kernel_rfl) (hS121.cell (i := 3) rfl rfl)) ?_
   refine o_pure (i := 9) (fun j w => ⟨(fun j w => ⟨(fun _ _ => trivial) j w, fun _ h => h⟩) j w, fun _ h => h⟩) rfl rfl (by kernel_rfl) (goes0 rfl) (QOk.then (QOk.inBlock (QOk.then (QOk.then (QOk.inBlock (QOk.then QOk.body)))))) (fun w => u_subN (a := ((q3 + 4294967296) % 18446744073709551616)) (b := p3) rfl rfl rfl (by omega) (by show _ < 18446744073709551616; omega)) ?_
   refine o_pure (i := 10) (fun j w => ⟨(fun j w => ⟨(fun _ _ => trivial) j w, fun _ h => h⟩) j w, fun _ h => h⟩) rfl rfl (by kernel_rfl) (goes0 rfl) (QOk.then (QOk.inBlock (QOk.then (QOk.then (QOk.inBlock (QOk.then QOk.body)))))) (fun w => q_moveI rfl) ?_
   refine o_pure (i := 11) (fun j w => ⟨(fun j w => ⟨(fun _ _ => trivial) j w, fun _ h => h⟩) j w, fun _ h => h⟩) rfl rfl (by kernel_rfl) (goes0 rfl) (QOk.then (QOk.inBlock (QOk.then (QOk.then (QOk.inBlock (QOk.then QOk.body)))))) (fun w => u_subN (a := (((q3 + 4294967296) % 18446744073709551616) - p3)) (b := (1 - (s113 / 2 ^ 32))) rfl rfl rfl (by omega) (by show _ < 18446744073709551616; omega)) ?_
   refine o_pure (i := 12) (fun j w => ⟨(fun j w => ⟨(fun _ _ => trivial) j w, fun _ h => h⟩) j w, fun _ h => h⟩) rfl rfl (by kernel_rfl) (goes0 rfl) (QOk.then (QOk.inBlock (QOk.then (QOk.then (QOk.inBlock (QOk.then QOk.body)))))) (fun w => q_assignI rfl) ?_
   refine o_done (by kernel_rfl) ?_
   generalize hs122 : ((((q3 + 4294967296) % 18446744073709551616) - p3) - (1 - (s113 / 2 ^ 32))) = s122
   refine hK120 _ _ ?_
   refine wp_seq_k (fun K123 hK123 => ?_)
   refine wp_region_lit ?_
   refine l_q rfl rfl (q_moveI rfl) ?_
   refine l_q rfl rfl (q_moveI rfl) ?_
   refine l_q rfl rfl (q_remN (a := s122) (b := 4294967296) rfl rfl (by first | decide | omega)) ?_
   refine l_q rfl rfl (q_fieldAddr (ft := 106) (o := 1) rfl (by kernel_rfl)) ?_
   refine l_q rfl rfl (q_indexAddrA (len := 6) (e := 105) (m := 1) rfl rfl (by kernel_rfl) (by kernel_rfl) (by decide) (by decide)) ?_
   refine l_e rfl (fun K hK => ?_)
   refine e_store1 hS121 rfl rfl (by kernel_rfl) (by first | rfl | assumption) (i := 1) rfl rfl (fun w124 (hS124 : St _ _ [_, .blk b6 (.cells #[.bool m2, .int .u64 (((s95 % 4294967296) : Nat) : Int), .int .u64 (((s104 % 4294967296) : Nat) : Int), .int .u64 (((s113 % 4294967296) : Nat) : Int), .int .u64 (((s122 % 4294967296) : Nat) : Int), .int .u64 (0 : Int), .int .u64 (0 : Int)] 108), _, _, _] _) => ?_)
   clear hS121
   refine hK _ _ ?_; clear hK K
   refine l_nil ?_
   refine hK123 _ _ ?_
   refine wp_region_lit ?_
   refine l_q rfl rfl (q_moveI rfl) ?_
   refine l_q rfl rfl (q_shrN (k := .u64) (a := s122) (b := 32) rfl rfl (by decide)) ?_
   refine l_q rfl rfl (u_subN (a := 1) (b := (s122 / 2 ^ 32)) rfl rfl rfl (by omega) (by show _ < 18446744073709551616; omega)) ?_
   refine l_q rfl rfl (q_assignI rfl) ?_
   refine l_nil ?_
   refine hK119 _ _ ?_
   refine wp_region_lit ?_
   refine l_q rfl rfl (q_moveI rfl) ?_
   refine l_q rfl rfl (q_addx rfl rfl (by first | decide | omega) (by first | decide | omega)) ?_
   refine l_q rfl rfl (q_assignI rfl) ?_
   refine l_nil ?_
   refine c_round ?_
   refine wp_seq_k (fun K125 hK125 => ?_)
   refine wp_seq_k (fun K126 hK126 => ?_)
   refine wp_region_lit ?_
   refine l_q rfl rfl (q_moveI rfl) ?_
   refine l_q rfl rfl (q_lss rfl rfl) ?_
   refine l_nil ?_
   refine hK126 _ _ ?_
   refine c_condT rfl (by decide) ?_
   refine wp_skip ?_
   refine hK125 _ _ ?_
   refine wp_seq_k (fun K128 hK128 => ?_)
   refine wp_block ?_
   refine wp_seq_k (fun K129 hK129 => ?_)
   refine r_any (by kernel_rfl) hS124 (fun w130 hS130 => ?_)
   clear hS124
   refine o_pure (i := 0) (fun _ _ => trivial) rfl rfl (by kernel_rfl) (goes0 rfl) (QOk.then (QOk.inBlock (QOk.then (QOk.then (QOk.inBlock (QOk.then QOk.body)))))) (fun w => q_moveI rfl) ?_
   refine o_pure (i := 1) (fun _ _ => trivial) rfl rfl (by kernel_rfl) (goes0 rfl) (QOk.then (QOk.inBlock (QOk.then (QOk.then (QOk.inBlock (QOk.then QOk.body)))))) (fun w => q_fieldAddr (ft := 106) (o := 1) rfl (by kernel_rfl)) ?_
   refine o_pure (i := 2) (fun _ _ => trivial) rfl rfl (by kernel_rfl) (goes0 rfl) (QOk.then (QOk.inBlock (QOk.then (QOk.then (QOk.inBlock (QOk.then QOk.body)))))) (fun w => q_indexAddrA (len := 6) (e := 105) (m := 1) rfl rfl (by kernel_rfl) (by kernel_rfl) (by decide) (by decide)) ?_
   refine o_held (i := 3) [4, 9, 11, 12] (fun _ _ => trivial) rfl rfl (by kernel_rfl) (goes0 rfl) (QOk.then (QOk.inBlock (QOk.then (QOk.then (QOk.inBlock (QOk.then QOk.body)))))) (q_load1 rfl (by kernel_rfl) (hS130.cell (i := 4) rfl rfl)) ?_
   refine o_pure (i := 4) (fun j w => ⟨(fun _ _ => trivial) j w, fun _ h => h⟩) rfl rfl (by kernel_rfl) (goes0 rfl) (QOk.then (QOk.inBlock (QOk.then (QOk.then (QOk.inBlock (QOk.then QOk.body)))))) (fun w => u_add (a := q4) (b := 4294967296) (M := 18446744073709551616) rfl rfl rfl (by decide)) ?_
   refine o_pure (i := 5) (fun j w => ⟨(fun _ _ => trivial) j w, fun _ h => h⟩) rfl rfl (by kernel_rfl) (goes0 rfl) (QOk.then (QOk.inBlock (QOk.then (QOk.then (QOk.inBlock (QOk.then QOk.body)))))) (fun w => q_moveI rfl) ?_
   refine o_pure (i := 6) (fun j w => ⟨(fun _ _ => trivial) j w, fun _ h => h⟩) rfl rfl (by kernel_rfl) (goes0 rfl) (QOk.then (QOk.inBlock (QOk.then (QOk.then (QOk.inBlock (QOk.then QOk.body)))))) (fun w => q_fieldAddr (ft := 106) (o := 1) rfl (by kernel_rfl)) ?_
   refine o_pure (i := 7) (fun j w => ⟨(fun _ _ => trivial) j w, fun _ h => h⟩) rfl rfl (by kernel_rfl) (goes0 rfl) (QOk.then (QOk.inBlock (QOk.then (QOk.then (QOk.inBlock (QOk.then QOk.body)))))) (fun w => q_indexAddrA (len := 6) (e := 105) (m := 1) rfl rfl (by kernel_rfl) (by kernel_rfl) (by decide) (by decide)) ?_
   refine o_held (i := 8) [9, 11, 12] (fun j w => ⟨(fun _ _ => trivial) j w, fun _ h => h⟩) rfl rfl (by kernel_rfl) (goes0 rfl) (QOk.then (QOk.inBlock (QOk.then (QOk.then (QOk.inBlock (QOk.then QOk.body)))))) (q_load1 rfl (by kernel_rfl) (hS130.cell (i := 3) rfl rfl)) ?_
   refine o_pure (i := 9) (fun j w => ⟨(fun j w => ⟨(fun _ _ => trivial) j w, fun _ h => h⟩) j w, fun _ h => h⟩) rfl rfl (by kernel_rfl) (goes0 rfl) (QOk.then (QOk.inBlock (QOk.then (QOk.then (QOk.inBlock (QOk.then QOk.body)))))) (fun w => u_subN (a := ((q4 + 4294967296) % 18446744073709551616)) (b := p4) rfl rfl rfl (by omega) (by show _ < 18446744073709551616; omega)) ?_
   refine o_pure (i := 10) (fun j w => ⟨(fun j w => ⟨(fun _ _ => trivial) j w, fun _ h => h⟩) j w, fun _ h => h⟩) rfl rfl (by kernel_rfl) (goes0 rfl) (QOk.then (QOk.inBlock (QOk.then (QOk.then (QOk.inBlock (QOk.then QOk.body)))))) (fun w => q_moveI rfl) ?_
   refine o_pure (i := 11) (fun j w => ⟨(fun j w => ⟨(fun _ _ => trivial) j w, fun _ h => h⟩) j w, fun _ h => h⟩) rfl rfl (by kernel_rfl) (goes0 rfl) (QOk.then (QOk.inBlock (QOk.then (QOk.then (QOk.inBlock (QOk.then QOk.body)))))) (fun w => u_subN (a := (((q4 + 4294967296) % 18446744073709551616) - p4)) (b := (1 - (s122 / 2 ^ 32))) rfl rfl rfl (by omega) (by show _ < 18446744073709551616; omega)) ?_
   refine o_pure (i := 12) (fun j w => ⟨(fun j w => ⟨(fun _ _ => trivial) j w, fun _ h => h⟩) j w, fun _ h => h⟩) rfl rfl (by kernel_rfl) (goes0 rfl) (QOk.then (QOk.inBlock (QOk.then (QOk.then (QOk.inBlock (QOk.then QOk.body)))))) (fun w => q_assignI rfl) ?_
   refine o_done (by kernel_rfl) ?_
   generalize hs131 : ((((q4 + 4294967296) % 18446744073709551616) - p4) - (1 - (s122 / 2 ^ 32))) = s131
   refine hK129 _ _ ?_
   refine wp_seq_k (fun K132 hK132 => ?_)
   refine wp_region_lit ?_
   refine l_q rfl rfl (q_moveI rfl) ?_
   refine l_q rfl rfl (q_moveI rfl) ?_
   refine l_q rfl rfl (q_remN (a := s131) (b := 4294967296) rfl rfl (by first | decide | omega)) ?_
   refine l_q rfl rfl (q_fieldAddr (ft := 106) (o := 1) rfl (by kernel_rfl)) ?_
   refine l_q rfl rfl (q_indexAddrA (len := 6) (e := 105) (m := 1) rfl rfl (by kernel_rfl) (by kernel_rfl) (by decide) (by decide)) ?_
   refine l_e rfl (fun K hK => ?_)
   refine e_store1 hS130 rfl rfl (by kernel_rfl) (by first | rfl | assumption) (i := 1) rfl rfl (fun w133 (hS133 : St _ _ [_, .blk b6 (.cells #[.bool m2, .int .u64 (((s95 % 4294967296) : Nat) : Int), .int .u64 (((s104 % 4294967296) : Nat) : Int), .int .u64 (((s113 % 4294967296) : Nat) : Int), .int .u64 (((s122 % 4294967296) : Nat) : Int), .int .u64 (((s131 % 4294967296) : Nat) : Int), .int .u64 (0 : Int)] 108), _, _, _] _) => ?_)
   clear hS130
   refine hK _ _ ?_; clear hK K
   refine l_nil ?_
   refine hK132 _ _ ?_
   refine wp_region_lit ?_
   refine l_q rfl rfl (q_moveI rfl) ?_
   refine l_q rfl rfl (q_shrN (k := .u64) (a := s131) (b := 32) rfl rfl (by decide)) ?_
   refine l_q rfl rfl (u_subN (a := 1) (b := (s131 / 2 ^ 32)) rfl rfl rfl (by omega) (by show _ < 18446744073709551616; omega)) ?_
   refine l_q rfl rfl (q_assignI rfl) ?_
   refine l_nil ?_
   refine hK128 _ _ ?_
   refine wp_region_lit ?_
   refine l_q rfl rfl (q_moveI rfl) ?_
   refine l_q rfl rfl (q_addx rfl rfl (by first | decide | omega) (by first | decide | omega)) ?_
   refine l_q rfl rfl (q_assignI rfl) ?_
   refine l_nil ?_
   refine c_round ?_
   refine wp_seq_k (fun K134 hK134 => ?_)
   refine wp_seq_k (fun K135 hK135 => ?_)
   refine wp_region_lit ?_
   refine l_q rfl rfl (q_moveI rfl) ?_
   refine l_q rfl rfl (q_lss rfl rfl) ?_
   refine l_nil ?_
   refine hK135 _ _ ?_
   refine c_condT rfl (by decide) ?_
   refine wp_skip ?_
   refine hK134 _ _ ?_
   refine wp_seq_k (fun K137 hK137 => ?_)
   refine wp_block ?_
   refine wp_seq_k (fun K138 hK138 => ?_)
   refine r_any (by kernel_rfl) hS133 (fun w139 hS139 => ?_)
   clear hS133
   refine o_pure (i := 0) (fun _ _ => trivial) rfl rfl (by kernel_rfl) (goes0 rfl) (QOk.then (QOk.inBlock (QOk.then (QOk.then (QOk.inBlock (QOk.then QOk.body)))))) (fun w => q_moveI rfl) ?_
   refine o_pure (i := 1) (fun _ _ => trivial) rfl rfl (by kernel_rfl) (goes0 rfl) (QOk.then (QOk.inBlock (QOk.then (QOk.then (QOk.inBlock (QOk.then QOk.body)))))) (fun w => q_fieldAddr (ft := 106) (o := 1) rfl (by kernel_rfl)) ?_
   refine o_pure (i := 2) (fun _ _ => trivial) rfl rfl (by kernel_rfl) (goes0 rfl) (QOk.then (QOk.inBlock (QOk.then (QOk.then (QOk.inBlock (QOk.then QOk.body)))))) (fun w => q_indexAddrA (len := 6) (e := 105) (m := 1) rfl rfl (by kernel_rfl) (by kernel_rfl) (by decide) (by decide)) ?_
   refine o_held (i := 3) [4, 9, 11, 12] (fun _ _ => trivial) rfl rfl (by kernel_rfl) (goes0 rfl) (QOk.then (QOk.inBlock (QOk.then (QOk.then (QOk.inBlock (QOk.then QOk.body)))))) (q_load1 rfl (by kernel_rfl) (hS139.cell (i := 4) rfl rfl)) ?_
   refine o_pure (i := 4) (fun j w => ⟨(fun _ _ => trivial) j w, fun _ h => h⟩) rfl rfl (by kernel_rfl) (goes0 rfl) (QOk.then (QOk.inBlock (QOk.then (QOk.then (QOk.inBlock (QOk.then QOk.body)))))) (fun w => u_add (a := q5) (b := 4294967296) (M := 18446744073709551616) rfl rfl rfl (by decide)) ?_
   refine o_pure (i := 5) (fun j w => ⟨(fun _ _ => trivial) j w, fun _ h => h⟩) rfl rfl (by kernel_rfl) (goes0 rfl) (QOk.then (QOk.inBlock (QOk.then (QOk.then (QOk.inBlock (QOk.then QOk.body)))))) (fun w => q_moveI rfl) ?_
   refine o_pure (i := 6) (fun j w => ⟨(fun _ _ => trivial) j w, fun _ h => h⟩) rfl rfl (by kernel_rfl) (goes0 rfl) (QOk.then (QOk.inBlock (QOk.then (QOk.then (QOk.inBlock (QOk.then QOk.body)))))) (fun w => q_fieldAddr (ft := 106) (o := 1) rfl (by kernel_rfl)) ?_
   refine o_pure (i := 7) (fun j w => ⟨(fun _ _ => trivial) j w, fun _ h => h⟩) rfl rfl (by kernel_rfl) (goes0 rfl) (QOk.then (QOk.inBlock (QOk.then (QOk.then (QOk.inBlock (QOk.then QOk.body)))))) (fun w => q_indexAddrA (len := 6) (e := 105) (m := 1) rfl rfl (by kernel_rfl) (by kernel_rfl) (by decide) (by decide)) ?_
   refine o_held (i := 8) [9, 11, 12] (fun j w => ⟨(fun _ _ => trivial) j w, fun _ h => h⟩) rfl rfl (by kernel_rfl) (goes0 rfl) (QOk.then (QOk.inBlock (QOk.then (QOk.then (QOk.inBlock (QOk.then QOk.body)))))) (q_load1 rfl (by kernel_rfl) (hS139.cell (i := 3) rfl rfl)) ?_
   refine o_pure (i := 9) (fun j w => ⟨(fun j w => ⟨(fun _ _ => trivial) j w, fun _ h => h⟩) j w, fun _ h => h⟩) rfl rfl (by kernel_rfl) (goes0 rfl) (QOk.then (QOk.inBlock (QOk.then (QOk.then (QOk.inBlock (QOk.then QOk.body)))))) (fun w => u_subN (a := ((q5 + 4294967296) % 18446744073709551616)) (b := p5) rfl rfl rfl (by omega) (by show _ < 18446744073709551616; omega)) ?_
   refine o_pure (i := 10) (fun j w => ⟨(fun j w => ⟨(fun _ _ => trivial) j w, fun _ h => h⟩) j w, fun _ h => h⟩) rfl rfl (by kernel_rfl) (goes0 rfl) (QOk.then (QOk.inBlock (QOk.then (QOk.then (QOk.inBlock (QOk.then QOk.body)))))) (fun w => q_moveI rfl) ?_
   refine o_pure (i := 11) (fun j w => ⟨(fun j w => ⟨(fun _ _ => trivial) j w, fun _ h => h⟩) j w, fun _ h => h⟩) rfl rfl (by kernel_rfl) (goes0 rfl) (QOk.then (QOk.inBlock (QOk.then (QOk.then (QOk.inBlock (QOk.then QOk.body)))))) (fun w => u_subN (a := (((q5 + 4294967296) % 18446744073709551616) - p5)) (b := (1 - (s131 / 2 ^ 32))) rfl rfl rfl (by omega) (by show _ < 18446744073709551616; omega)) ?_
   refine o_pure (i := 12) (fun j w => ⟨(fun j w => ⟨(fun _ _ => trivial) j w, fun _ h => h⟩) j w, fun _ h => h⟩) rfl rfl (by kernel_rfl) (goes0 rfl) (QOk.then (QOk.inBlock (QOk.then (QOk.then (QOk.inBlock (QOk.then QOk.body)))))) (fun w => q_assignI rfl) ?_
   refine o_done (by kernel_rfl) ?_
   generalize hs140 : ((((q5 + 4294967296) % 18446744073709551616) - p5) - (1 - (s131 / 2 ^ 32))) = s140
   refine hK138 _ _ ?_
   refine wp_seq_k (fun K141 hK141 => ?_)
   refine wp_region_lit ?_
   refine l_q rfl rfl (q_moveI rfl) ?_
   refine l_q rfl rfl (q_moveI rfl) ?_
   refine l_q rfl rfl (q_remN (a := s140) (b := 4294967296) rfl rfl (by first | decide | omega)) ?_
   refine l_q rfl rfl (q_fieldAddr (ft := 106) (o := 1) rfl (by kernel_rfl)) ?_
   refine l_q rfl rfl (q_indexAddrA (len := 6) (e := 105) (m := 1) rfl rfl (by kernel_rfl) (by kernel_rfl) (by decide) (by decide)) ?_
   refine l_e rfl (fun K hK => ?_)
   refine e_store1 hS139 rfl rfl (by kernel_rfl) (by first | rfl | assumption) (i := 1) rfl rfl (fun w142 (hS142 : St _ _ [_, .blk b6 (.cells #[.bool m2, .int .u64 (((s95 % 4294967296) : Nat) : Int), .int .u64 (((s104 % 4294967296) : Nat) : Int), .int .u64 (((s113 % 4294967296) : Nat) : Int), .int .u64 (((s122 % 4294967296) : Nat) : Int), .int .u64 (((s131 % 4294967296) : Nat) : Int), .int .u64 (((s140 % 4294967296) : Nat) : Int)] 108), _, _, _] _) => ?_)
   clear hS139
   refine hK _ _ ?_; clear hK K
   refine l_nil ?_
   refine hK141 _ _ ?_
   refine wp_region_lit ?_
   refine l_q rfl rfl (q_moveI rfl) ?_
   refine l_q rfl rfl (q_shrN (k := .u64) (a := s140) (b := 32) rfl rfl (by decide)) ?_
   refine l_q rfl rfl (u_subN (a := 1) (b := (s140 / 2 ^ 32)) rfl rfl rfl (by omega) (by show _ < 18446744073709551616; omega)) ?_
   refine l_q rfl rfl (q_assignI rfl) ?_
   refine l_nil ?_
   refine hK137 _ _ ?_
   refine wp_region_lit ?_
   refine l_q rfl rfl (q_moveI rfl) ?_
   refine l_q rfl rfl (q_addx rfl rfl (by first | decide | omega) (by first | decide | omega)) ?_
   refine l_q rfl rfl (q_assignI rfl) ?_
   refine l_nil ?_
   refine c_round ?_
   refine wp_seq_k (fun K143 hK143 => ?_)
   refine wp_seq_k (fun K144 hK144 => ?_)
   refine wp_region_lit ?_
   refine l_q rfl rfl (q_moveI rfl) ?_
   refine l_q rfl rfl (q_lss rfl rfl) ?_
   refine l_nil ?_
   refine hK144 _ _ ?_
   refine c_condF rfl (by decide) ?_
   refine wp_exit ?_
   refine hK87 _ _ ?_
   refine wp_seq_k (fun K146 hK146 => ?_)
   refine wp_region_lit ?_
   refine l_q rfl rfl (q_loadA (m := 7) rfl (by kernel_rfl) (by kernel_rfl) (hS142.blk (i := 1) rfl) rfl rfl) ?_
   refine l_e rfl (fun K hK => ?_)
   refine e_storeA hS142 rfl rfl (by kernel_rfl) (by repeat' (first | exact trivial | refine ⟨by first | rfl | assumption | exact one_if (by assumption), ?_⟩)) (i := 2) rfl rfl (fun w147 (hS147 : St _ _ [_, _, .blk b4 (.cells #[.bool m2, .int .u64 (((s95 % 4294967296) : Nat) : Int), .int .u64 (((s104 % 4294967296) : Nat) : Int), .int .u64 (((s113 % 4294967296) : Nat) : Int), .int .u64 (((s122 % 4294967296) : Nat) : Int), .int .u64 (((s131 % 4294967296) : Nat) : Int), .int .u64 (((s140 % 4294967296) : Nat) : Int)] 108), _, _] _) => ?_)
   clear hS142
   refine hK _ _ ?_; clear hK K
   refine l_nil ?_
   refine hK146 _ _ ?_
   refine wp_ret ?_
   refine c_retC (m := 7) rfl (by kernel_rfl) (by kernel_rfl) rfl (by first | exact hS147.blk (i := 0) rfl | exact hS147.blk (i := 1) rfl | exact hS147.blk (i := 2) rfl | exact hS147.blk (i := 3) rfl | exact hS147.blk (i := 4) rfl) rfl ?_
   exact ⟨_, rfl, ⟨m2, (s95 % 4294967296), (s104 % 4294967296), (s113 % 4294967296), (s122 % 4294967296), (s131 % 4294967296), (s140 % 4294967296), rfl, by omega, by omega, by omega, by omega, by omega, by omega, by (try have hm := hc9; cases m1 <;> cases m2 <;> simp_all only [sv] <;> unfold dv at * <;> simp at * <;> omega)⟩, hS147.drop⟩
  ·
   have hc77b := hc77
   try simp only [decide_eq_true_eq, decide_eq_false_iff_not, Bool.not_eq_true', Bool.not_eq_false', Bool.and_eq_true, Bool.or_eq_true, Int.not_lt, Int.not_le, ne_eq, Decidable.not_not] at hc77
   refine wp_skip ?_
   refine hK74 _ _ ?_
   refine wp_seq_k (fun K148 hK148 => ?_)
   refine wp_region_lit ?_
   refine l_q rfl rfl (q_fieldAddr (ft := 4) (o := 0) rfl (by kernel_rfl)) ?_
   refine l_q rfl rfl (q_load1 rfl (by kernel_rfl) (hS76.cell (i := 3) rfl rfl)) ?_
   refine l_q rfl rfl (q_fieldAddr (ft := 4) (o := 0) rfl (by kernel_rfl)) ?_
   refine l_e rfl (fun K hK => ?_)
   refine e_store1 hS76 rfl rfl (by kernel_rfl) (by first | rfl | assumption) (i := 0) rfl rfl (fun w149 (hS149 : St _ _ [_, _, _, _] _) => ?_)
   clear hS76
   refine hK _ _ ?_; clear hK K
   refine l_nil ?_
   refine hK148 _ _ ?_
   refine wp_seq_k (fun K150 hK150 => ?_)
   refine wp_region_lit ?_
   refine l_q rfl rfl (q_assignI rfl) ?_
   refine l_nil ?_
   refine hK150 _ _ ?_
   refine wp_seq_k (fun K151 hK151 => ?_)
   refine wp_seq_k (fun K152 hK152 => ?_)
   refine wp_region_lit ?_
   refine l_q rfl rfl (q_assignI rfl) ?_
   refine l_nil ?_
   refine hK152 _ _ ?_
   refine wp_block ?_
   refine c_rounds 7 ?_
   refine c_round ?_
   refine wp_seq_k (fun K153 hK153 => ?_)
   refine wp_seq_k (fun K154 hK154 => ?_)
   refine wp_region_lit ?_
   refine l_q rfl rfl (q_moveI rfl) ?_
   refine l_q rfl rfl (q_lss rfl rfl) ?_
   refine l_nil ?_
   refine hK154 _ _ ?_
   refine c_condT rfl (by decide) ?_
   refine wp_skip ?_
   refine hK153 _ _ ?_
   refine wp_seq_k (fun K156 hK156 => ?_)
   refine wp_block ?_
   refine wp_seq_k (fun K157 hK157 => ?_)
   refine r_any (by kernel_rfl) hS149 (fun w158 hS158 => ?_)
   clear hS149
   refine o_pure (i := 0) (fun _ _ => trivial) rfl rfl (by kernel_rfl) (goes0 rfl) (QOk.then (QOk.inBlock (QOk.then (QOk.then (QOk.inBlock (QOk.then QOk.body)))))) (fun w => q_moveI rfl) ?_
   refine o_pure (i := 1) (fun _ _ => trivial) rfl rfl (by kernel_rfl) (goes0 rfl) (QOk.then (QOk.inBlock (QOk.then (QOk.then (QOk.inBlock (QOk.then QOk.body)))))) (fun w => q_fieldAddr (ft := 106) (o := 1) rfl (by kernel_rfl)) ?_
   refine o_pure (i := 2) (fun _ _ => trivial) rfl rfl (by kernel_rfl) (goes0 rfl) (QOk.then (QOk.inBlock (QOk.then (QOk.then (QOk.inBlock (QOk.then QOk.body)))))) (fun w => q_indexAddrA (len := 6) (e := 105) (m := 1) rfl rfl (by kernel_rfl) (by kernel_rfl) (by decide) (by decide)) ?_
   refine o_held (i := 3) [4, 9, 11, 12] (fun _ _ => trivial) rfl rfl (by kernel_rfl) (goes0 rfl) (QOk.then (QOk.inBlock (QOk.then (QOk.then (QOk.inBlock (QOk.then QOk.body)))))) (q_load1 rfl (by kernel_rfl) (hS158.cell (i := 3) rfl rfl)) ?_
   refine o_pure (i := 4) (fun j w => ⟨(fun _ _ => trivial) j w, fun _ h => h⟩) rfl rfl (by kernel_rfl) (goes0 rfl) (QOk.then (QOk.inBlock (QOk.then (QOk.then (QOk.inBlock (QOk.then QOk.body)))))) (fun w => u_add (a := p0) (b := 4294967296) (M := 18446744073709551616) rfl rfl rfl (by decide)) ?_
   refine o_pure (i := 5) (fun j w => ⟨(fun _ _ => trivial) j w, fun _ h => h⟩) rfl rfl (by kernel_rfl) (goes0 rfl) (QOk.then (QOk.inBlock (QOk.then (QOk.then (QOk.inBlock (QOk.then QOk.body)))))) (fun w => q_moveI rfl) ?_
   refine o_pure (i := 6) (fun j w => ⟨(fun _ _ => trivial) j w, fun _ h => h⟩) rfl rfl (by kernel_rfl) (goes0 rfl) (QOk.then (QOk.inBlock (QOk.then (QOk.then (QOk.inBlock (QOk.then QOk.body)))))) (fun w => q_fieldAddr (ft := 106) (o := 1) rfl (by kernel_rfl)) ?_
   refine o_pure (i := 7) (fun j w => ⟨(fun _ _ => trivial) j w, fun _ h => h⟩) rfl rfl (by kernel_rfl) (goes0 rfl) (QOk.then (QOk.inBlock (QOk.then (QOk.then (QOk.inBlock (QOk.then QOk.body)))))) (fun w => q_indexAddrA (len := 6) (e := 105) (m := 1) rfl rfl (by kernel_rfl) (by kernel_rfl) (by decide) (by decide)) ?_
   refine o_held (i := 8) [9, 11, 12] (fun j w => ⟨(fun _ _ => trivial) j w, fun _ h => h⟩) rfl rfl (by kernel_rfl) (goes0 rfl) (QOk.then (QOk.inBlock (QOk.then (QOk.then (QOk.inBlock (QOk.then QOk.body)))))) (q_load1 rfl (by kernel_rfl) (hS158.cell (i := 2) rfl rfl)) ?_
   refine o_pure (i := 9) (fun j w => ⟨(fun j w => ⟨(fun _ _ => trivial) j w, fun _ h => h⟩) j w, fun _ h => h⟩) rfl rfl (by kernel_rfl) (goes0 rfl) (QOk.then (QOk.inBlock (QOk.then (QOk.then (QOk.inBlock (QOk.then QOk.body)))))) (fun w => u_subN (a := ((p0 + 4294967296) % 18446744073709551616)) (b := q0) rfl rfl rfl (by omega) (by show _ < 18446744073709551616; omega)) ?_
   refine o_pure (i := 10) (fun j w => ⟨(fun j w => ⟨(fun _ _ => trivial) j w, fun _ h => h⟩) j w, fun _ h => h⟩) rfl rfl (by kernel_rfl) (goes0 rfl) (QOk.then (QOk.inBlock (QOk.then (QOk.then (QOk.inBlock (QOk.then QOk.body)))))) (fun w => q_moveI rfl) ?_
   refine o_pure (i := 11) (fun j w => ⟨(fun j w => ⟨(fun _ _ => trivial) j w, fun _ h => h⟩) j w, fun _ h => h⟩) rfl rfl (by kernel_rfl) (goes0 rfl) (QOk.then (QOk.inBlock (QOk.then (QOk.then (QOk.inBlock (QOk.then QOk.body)))))) (fun w => u_subN (a := (((p0 + 4294967296) % 18446744073709551616) - q0)) (b := 0) rfl rfl rfl (by omega) (by show _ < 18446744073709551616; omega)) ?_
   refine o_pure (i := 12) (fun j w => ⟨(fun j w => ⟨(fun _ _ => trivial) j w, fun _ h => h⟩) j w, fun _ h => h⟩) rfl rfl (by kernel_rfl) (goes0 rfl) (QOk.then (QOk.inBlock (QOk.then (QOk.then (QOk.inBlock (QOk.then QOk.body)))))) (fun w => q_assignI rfl) ?_
   refine o_done (by kernel_rfl) ?_
   generalize hs159 : ((((p0 + 4294967296) % 18446744073709551616) - q0) - 0) = s159
   refine hK157 _ _ ?_
   refine wp_seq_k (fun K160 hK160 => ?_)
   refine wp_region_lit ?_
   refine l_q rfl rfl (q_moveI rfl) ?_
   refine l_q rfl rfl (q_moveI rfl) ?_
   refine l_q rfl rfl (q_remN (a := s159) (b := 4294967296) rfl rfl (by first | decide | omega)) ?_
   refine l_q rfl rfl (q_fieldAddr (ft := 106) (o := 1) rfl (by kernel_rfl)) ?_
   refine l_q rfl rfl (q_indexAddrA (len := 6) (e := 105) (m := 1) rfl rfl (by kernel_rfl) (by kernel_rfl) (by decide) (by decide)) ?_
   refine l_e rfl (fun K hK => ?_)
   refine e_store1 hS158 rfl rfl (by kernel_rfl) (by first | rfl | assumption) (i := 0) rfl rfl (fun w161 (hS161 : St _ _ [.blk b6 (.cells #[.bool m1, .int .u64 (((s159 % 4294967296) : Nat) : Int), .int .u64 (0 : Int), .int .u64 (0 : Int), .int .u64 (0 : Int), .int .u64 (0 : Int), .int .u64 (0 : Int)] 108), _, _, _] _) => ?_)
   clear hS158
   refine hK _ _ ?_; clear hK K
   refine l_nil ?_
   refine hK160 _ _ ?_
   refine wp_region_lit ?_
   refine l_q rfl rfl (q_moveI rfl) ?_
   refine l_q rfl rfl (q_shrN (k := .u64) (a := s159) (b := 32) rfl rfl (by decide)) ?_
   refine l_q rfl rfl (u_subN (a := 1) (b := (s159 / 2 ^ 32)) rfl rfl rfl (by omega) (by show _ < 18446744073709551616; omega)) ?_
   refine l_q rfl rfl (q_assignI rfl) ?_
   refine l_nil ?_
   refine hK156 _ _ ?_
   refine wp_region_lit ?_
   refine l_q rfl rfl (q_moveI rfl) ?_
   refine l_q rfl rfl (q_addx rfl rfl (by first | decide | omega) (by first | decide | omega)) ?_
   refine l_q rfl rfl (q_assignI rfl) ?_
   refine l_nil ?_
   refine c_round ?_
   refine wp_seq_k (fun K162 hK162 => ?_)
   refine wp_seq_k (fun K163 hK163 => ?_)
   refine wp_region_lit ?_
   refine l_q rfl rfl (q_moveI rfl) ?_
   refine l_q rfl rfl (q_lss rfl rfl) ?_
   refine l_nil ?_
   refine hK163 _ _ ?_
   refine c_condT rfl (by decide) ?_
   refine wp_skip ?_
   refine hK162 _ _ ?_
   refine wp_seq_k (fun K165 hK165 => ?_)
   refine wp_block ?_
   refine wp_seq_k (fun K166 hK166 => ?_)
   refine r_any (by kernel_rfl) hS161 (fun w167 hS167 => ?_)
   clear hS161
   refine o_pure (i := 0) (fun _ _ => trivial) rfl rfl (by kernel_rfl) (goes0 rfl) (QOk.then (QOk.inBlock (QOk.then (QOk.then (QOk.inBlock (QOk.then QOk.body)))))) (fun w => q_moveI rfl) ?_
   refine o_pure (i := 1) (fun _ _ => trivial) rfl rfl (by kernel_rfl) (goes0 rfl) (QOk.then (QOk.inBlock (QOk.then (QOk.then (QOk.inBlock (QOk.then QOk.body)))))) (fun w => q_fieldAddr (ft := 106) (o := 1) rfl (by kernel_rfl)) ?_
   refine o_pure (i := 2) (fun _ _ => trivial) rfl rfl (by kernel_rfl) (goes0 rfl) (QOk.then (QOk.inBlock (QOk.then (QOk.then (QOk.inBlock (QOk.then QOk.body)))))) (fun w => q_indexAddrA (len := 6) (e := 105) (m := 1) rfl rfl (by kernel_rfl) (by kernel_rfl) (by decide) (by decide)) ?_
   refine o_held (i := 3) [4, 9, 11, 12] (fun _ _ => trivial) rfl rfl (by kernel_rfl) (goes0 rfl) (QOk.then (QOk.inBlock (QOk.then (QOk.then (QOk.inBlock (QOk.then QOk.body)))))) (q_load1 rfl (by kernel_rfl) (hS167.cell (i := 3) rfl rfl)) ?_
   refine o_pure (i := 4) (fun j w => ⟨(fun _ _ => trivial) j w, fun _ h => h⟩) rfl rfl (by kernel_rfl) (goes0 rfl) (QOk.then (QOk.inBlock (QOk.then (QOk.then (QOk.inBlock (QOk.then QOk.body)))))) (fun w => u_add (a := p1) (b := 4294967296) (M := 18446744073709551616) rfl rfl rfl (by decide)) ?_
   refine o_pure (i := 5) (fun j w => ⟨(fun _ _ => trivial) j w, fun _ h => h⟩) rfl rfl (by kernel_rfl) (goes0 rfl) (QOk.then (QOk.inBlock (QOk.then (QOk.then (QOk.inBlock (QOk.then QOk.body)))))) (fun w => q_moveI rfl) ?_
   refine o_pure (i := 6) (fun j w => ⟨(fun _ _ => trivial) j w, fun _ h => h⟩) rfl rfl (by kernel_rfl) (goes0 rfl) (QOk.then (QOk.inBlock (QOk.then (QOk.then (QOk.inBlock (QOk.then QOk.body)))))) (fun w => q_fieldAddr (ft := 106) (o := 1) rfl (by kernel_rfl)) ?_
   refine o_pure (i := 7) (fun j w => ⟨(fun _ _ => trivial) j w, fun _ h => h⟩) rfl rfl (by kernel_rfl) (goes0 rfl) (QOk.then (QOk.inBlock (QOk.then (QOk.then (QOk.inBlock (QOk.then QOk.body)))))) (fun w => q_indexAddrA (len := 6) (e := 105) (m := 1) rfl rfl (by kernel_rfl) (by kernel_rfl) (by decide) (by decide)) ?_
   refine o_held (i := 8) [9, 11, 12] (fun j w => ⟨(fun _ _ => trivial) j w, fun _ h => h⟩) rfl rfl (by kernel_rfl) (goes0 rfl) (QOk.then (QOk.inBlock (QOk.then (QOk.then (QOk.inBlock (QOk.then QOk.body)))))) (q_load1 rfl (by kernel_rfl) (hS167.cell (i := 2) rfl rfl)) ?_
   refine o_pure (i := 9) (fun j w => ⟨(fun j w => ⟨(fun _ _ => trivial) j w, fun _ h => h⟩) j w, fun _ h => h⟩) rfl rfl (by kernel_rfl) (goes0 rfl) (QOk.then (QOk.inBlock (QOk.then (QOk.then (QOk.inBlock (QOk.then QOk.body)))))) (fun w => u_subN (a := ((p1 + 4294967296) % 18446744073709551616)) (b := q1) rfl rfl rfl (by omega) (by show _ < 18446744073709551616; omega)) ?_
   refine o_pure (i := 10) (fun j w => ⟨(fun j w => ⟨(fun _ _ => trivial) j w, fun _ h => h⟩) j w, fun _ h => h⟩) rfl rfl (by kernel_rfl) (goes0 rfl) (QOk.then (QOk.inBlock (QOk.then (QOk.then (QOk.inBlock (QOk.then QOk.body)))))) (fun w => q_moveI rfl) ?_
   refine o_pure (i := 11) (fun j w => ⟨(fun j w => ⟨(fun _ _ => trivial) j w, fun _ h => h⟩) j w, fun _ h => h⟩) rfl rfl (by kernel_rfl) (goes0 rfl) (QOk.then (QOk.inBlock (QOk.then (QOk.then (QOk.inBlock (QOk.then QOk.body)))))) (fun w => u_subN (a := (((p1 + 4294967296) % 18446744073709551616) - q1)) (b := (1 - (s159 / 2 ^ 32))) rfl rfl rfl (by omega) (by show _ < 18446744073709551616; omega)) ?_
   refine o_pure (i := 12) (fun j w => ⟨(fun j w => ⟨(fun _ _ => trivial) j w, fun _ h => h⟩) j w, fun _ h => h⟩) rfl rfl (by kernel_rfl) (goes0 rfl) (QOk.then (QOk.inBlock (QOk.then (QOk.then (QOk.inBlock (QOk.then QOk.body)))))) (fun w => q_assignI rfl) ?_
   refine o_done (by kernel_rfl) ?_
   generalize hs168 : ((((p1 + 4294967296) % 18446744073709551616) - q1) - (1 - (s159 / 2 ^ 32))) = s168
   refine hK166 _ _ ?_
   refine wp_seq_k (fun K169 hK169 => ?_)
   refine wp_region_lit ?_
   refine l_q rfl rfl (q_moveI rfl) ?_
   refine l_q rfl rfl (q_moveI rfl) ?_
   refine l_q rfl rfl (q_remN (a := s168) (b := 4294967296) rfl rfl (by first | decide | omega)) ?_
   refine l_q rfl rfl (q_fieldAddr (ft := 106) (o := 1) rfl (by kernel_rfl)) ?_
   refine l_q rfl rfl (q_indexAddrA (len := 6) (e := 105) (m := 1) rfl rfl (by kernel_rfl) (by kernel_rfl) (by decide) (by decide)) ?_
   refine l_e rfl (fun K hK => ?_)
   refine e_store1 hS167 rfl rfl (by kernel_rfl) (by first | rfl | assumption) (i := 0) rfl rfl (fun w170 (hS170 : St _ _ [.blk b6 (.cells #[.bool m1, .int .u64 (((s159 % 4294967296) : Nat) : Int), .int .u64 (((s168 % 4294967296) : Nat) : Int), .int .u64 (0 : Int), .int .u64 (0 : Int), .int .u64 (0 : Int), .int .u64 (0 : Int)] 108), _, _, _] _) => ?_)
   clear hS167
   refine hK _ _ ?_; clear hK K
   refine l_nil ?_
   refine hK169 _ _ ?_
   refine wp_region_lit ?_
   refine l_q rfl rfl (q_moveI rfl) ?_
   refine l_q rfl rfl (q_shrN (k := .u64) (a := s168) (b := 32) rfl rfl (by decide)) ?_
   refine l_q rfl rfl (u_subN (a := 1) (b := (s168 / 2 ^ 32)) rfl rfl rfl (by omega) (by show _ < 18446744073709551616; omega)) ?_
   refine l_q rfl rfl (q_assignI rfl) ?_
   refine l_nil ?_
   refine hK165 _ _ ?_
   refine wp_region_lit ?_
   refine l_q rfl rfl (q_moveI rfl) ?_
   refine l_q rfl rfl (q_addx rfl rfl (by first | decide | omega) (by first | decide | omega)) ?_
   refine l_q rfl rfl (q_assignI rfl) ?_
   refine l_nil ?_
   refine c_round ?_
   refine wp_seq_k (fun K171 hK171 => ?_)
   refine wp_seq_k (fun K172 hK172 => ?_)
   refine wp_region_lit ?_
   refine l_q rfl rfl (q_moveI rfl) ?_
   refine l_q rfl rfl (q_lss rfl rfl) ?_
   refine l_nil ?_
   refine hK172 _ _ ?_
   refine c_condT rfl (by decide) ?_
   refine wp_skip ?_
   refine hK171 _ _ ?_
   refine wp_seq_k (fun K174 hK174 => ?_)
   refine wp_block ?_
   refine wp_seq_k (fun K175 hK175 => ?_)
   refine r_any (by kernel_rfl) hS170 (fun w176 hS176 => ?_)
   clear hS170
   refine o_pure (i := 0) (fun _ _ => trivial) rfl rfl (by kernel_rfl) (goes0 rfl) (QOk.then (QOk.inBlock (QOk.then (QOk.then (QOk.inBlock (QOk.then QOk.body)))))) (fun w => q_moveI rfl) ?_
   refine o_pure (i := 1) (fun _ _ => trivial) rfl rfl (by kernel_rfl) (goes0 rfl) (QOk.then (QOk.inBlock (QOk.then (QOk.then (QOk.inBlock (QOk.then QOk.body)))))) (fun w => q_fieldAddr (ft := 106) (o := 1) rfl (by kernel_rfl)) ?_
   refine o_pure (i := 2) (fun _ _ => trivial) rfl rfl (by kernel_rfl) (goes0 rfl) (QOk.then (QOk.inBlock (QOk.then (QOk.then (QOk.inBlock (QOk.then QOk.body)))))) (fun w => q_indexAddrA (len := 6) (e := 105) (m := 1) rfl rfl (by kernel_rfl) (by kernel_rfl) (by decide) (by decide)) ?_
   refine o_held (i := 3) [4, 9, 11, 12] (fun _ _ => trivial) rfl rfl (by kernel_rfl) (goes0 rfl) (QOk.then (QOk.inBlock (QOk.then (QOk.then (QOk.inBlock (QOk.then QOk.body)))))) (q_load1 rfl (by kernel_rfl) (hS176.cell (i := 3) rfl rfl)) ?_
   refine o_pure (i := 4) (fun j w => ⟨(fun _ _ => trivial) j w, fun _ h => h⟩) rfl rfl (by kernel_rfl) (goes0 rfl) (QOk.then (QOk.inBlock (QOk.then (QOk.then (QOk.inBlock (QOk.then QOk.body)))))) (fun w => u_add (a := p2) (b := 4294967296) (M := 18446744073709551616) rfl rfl rfl (by decide)) ?_
   refine o_pure (i := 5) (fun j w => ⟨(fun _ _ => trivial) j w, fun _ h => h⟩) rfl rfl (by kernel_rfl) (goes0 rfl) (QOk.then (QOk.inBlock (QOk.then (QOk.then (QOk.inBlock (QOk.then QOk.body)))))) (fun w => q_moveI rfl) ?_
   refine o_pure (i := 6) (fun j w => ⟨(fun _ _ => trivial) j w, fun _ h => h⟩) rfl rfl (by kernel_rfl) (goes0 rfl) (QOk.then (QOk.inBlock (QOk.then (QOk.then (QOk.inBlock (QOk.then QOk.body)))))) (fun w => q_fieldAddr (ft := 106) (o := 1) rfl (by kernel_rfl)) ?_
   refine o_pure (i := 7) (fun j w => ⟨(fun _ _ => trivial) j w, fun _ h => h⟩) rfl rfl (by kernel_rfl) (goes0 rfl) (QOk.then (QOk.inBlock (QOk.then (QOk.then (QOk.inBlock (QOk.then QOk.body)))))) (fun w => q_indexAddrA (len := 6) (e := 105) (m := 1) rfl rfl (by kernel_rfl) (by kernel_rfl) (by decide) (by decide)) ?_
   refine o_held (i := 8) [9, 11, 12] (fun j w => ⟨(fun _ _ => trivial) j w, fun _ h => h⟩) rfl rfl (by kernel_rfl) (goes0 rfl) (QOk.then (QOk.inBlock (QOk.then (QOk.then (QOk.inBlock (QOk.then QOk.body)))))) (q_load1 rfl (by kernel_rfl) (hS176.cell (i := 2) rfl rfl)) ?_
   refine o_pure (i := 9) (fun j w => ⟨(fun j w => ⟨(fun _ _ => trivial) j w, fun _ h => h⟩) j w, fun _ h => h⟩) rfl rfl (by kernel_rfl) (goes0 rfl) (QOk.then (QOk.inBlock (QOk.then (QOk.then (QOk.inBlock (QOk.then QOk.body)))))) (fun w => u_subN (a := ((p2 + 4294967296) % 18446744073709551616)) (b := q2) rfl rfl rfl (by omega) (by show _ < 18446744073709551616; omega)) ?_
   refine o_pure (i := 10) (fun j w => ⟨(fun j w => ⟨(fun _ _ => trivial) j w, fun _ h => h⟩) j w, fun _ h => h⟩) rfl rfl (by kernel_rfl) (goes0 rfl) (QOk.then (QOk.inBlock (QOk.then (QOk.then (QOk.inBlock (QOk.then QOk.body)))))) (fun w => q_moveI rfl) ?_
   refine o_pure (i := 11) (fun j w => ⟨(fun j w => ⟨(fun _ _ => trivial) j w, fun _ h => h⟩) j w, fun _ h => h⟩) rfl rfl (by kernel_rfl) (goes0 rfl) (QOk.then (QOk.inBlock (QOk.then (QOk.then (QOk.inBlock (QOk.then QOk.body)))))) (fun w => u_subN (a := (((p2 + 4294967296) % 18446744073709551616) - q2)) (b := (1 - (s168 / 2 ^ 32))) rfl rfl rfl (by omega) (by show _ < 18446744073709551616; omega)) ?_
   refine o_pure (i := 12) (fun j w => ⟨(fun j w => ⟨(fun _ _ => trivial) j w, fun _ h => h⟩) j w, fun _ h => h⟩) rfl rfl (by kernel_rfl) (goes0 rfl) (QOk.then (QOk.inBlock (QOk.then (QOk.then (QOk.inBlock (QOk.then QOk.body)))))) (fun w => q_assignI rfl) ?_
   refine o_done (by kernel_rfl) ?_
   generalize hs177 : ((((p2 + 4294967296) % 18446744073709551616) - q2) - (1 - (s168 / 2 ^ 32))) = s177
   refine hK175 _ _ ?_
   refine wp_seq_k (fun K178 hK178 => ?_)
   refine wp_region_lit ?_
   refine l_q rfl rfl (q_moveI rfl) ?_
   refine l_q rfl rfl (q_moveI rfl) ?_
   refine l_q rfl rfl (q_remN (a := s177) (b := 4294967296) rfl rfl (by first | decide | omega)) ?_
   refine l_q rfl rfl (q_fieldAddr (ft := 106) (o := 1) rfl (by kernel_rfl)) ?_
   refine l_q rfl rfl (q_indexAddrA (len := 6) (e := 105) (m := 1) rfl rfl (by kernel_rfl) (by kernel_rfl) (by decide) (by decide)) ?_
   refine l_e rfl (fun K hK => ?_)
   refine e_store1 hS176 rfl rfl (by kernel_rfl) (by first | rfl | assumption) (i := 0) rfl rfl (fun w179 (hS179 : St _ _ [.blk b6 (.cells #[.bool m1, .int .u64 (((s159 % 4294967296) : Nat) : Int), .int .u64 (((s168 % 4294967296) : Nat) : Int), .int .u64 (((s177 % 4294967296) : Nat) : Int), .int .u64 (0 : Int), .int .u64 (0 : Int), .int .u64 (0 : Int)] 108), _, _, _] _) => ?_)
   clear hS176
   refine hK _ _ ?_; clear hK K
   refine l_nil ?_
   refine hK178 _ _ ?_
   refine wp_region_lit ?_
   refine l_q rfl rfl (q_moveI rfl) ?_
   refine l_q rfl rfl (q_shrN (k := .u64) (a := s177) (b := 32) rfl rfl (by decide)) ?_
   refine l_q rfl rfl (u_subN (a := 1) (b := (s177 / 2 ^ 32)) rfl rfl rfl (by omega) (by show _ < 18446744073709551616; omega)) ?_
   refine l_q rfl rfl (q_assignI rfl) ?_
   refine l_nil ?_
   refine hK174 _ _ ?_
   refine wp_region_lit ?_
   refine l_q rfl rfl (q_moveI rfl) ?_
   refine l_q rfl rfl (q_addx rfl rfl (by first | decide | omega) (by first | decide | omega)) ?_
   refine l_q rfl rfl (q_assignI rfl) ?_
   refine l_nil ?_
   refine c_round ?_
   refine wp_seq_k (fun K180 hK180 => ?_)
   refine wp_seq_k (fun K181 hK181 => ?_)
   refine wp_region_lit ?_
   refine l_q rfl rfl (q_moveI rfl) ?_
   refine l_q rfl rfl (q_lss rfl rfl) ?_
   refine l_nil ?_
   refine hK181 _ _ ?_
   refine c_condT rfl (by decide) ?_
   refine wp_skip ?_
   refine hK180 _ _ ?_
   refine wp_seq_k (fun K183 hK183 => ?_)
   refine wp_block ?_
   refine wp_seq_k (fun K184 hK184 => ?_)
   refine r_any (by kernel_rfl) hS179 (fun w185 hS185 => ?_)
   clear hS179
   refine o_pure (i := 0) (fun _ _ => trivial) rfl rfl (by kernel_rfl) (goes0 rfl) (QOk.then (QOk.inBlock (QOk.then (QOk.then (QOk.inBlock (QOk.then QOk.body)))))) (fun w => q_moveI rfl) ?_
   refine o_pure (i := 1) (fun _ _ => trivial) rfl rfl (by kernel_rfl) (goes0 rfl) (QOk.then (QOk.inBlock (QOk.then (QOk.then (QOk.inBlock (QOk.then QOk.body)))))) (fun w => q_fieldAddr (ft := 106) (o := 1) rfl (by kernel_rfl)) ?_
   refine o_pure (i := 2) (fun _ _ => trivial) rfl rfl (by kernel_rfl) (goes0 rfl) (QOk.then (QOk.inBlock (QOk.then (QOk.then (QOk.inBlock (QOk.then QOk.body)))))) (fun w => q_indexAddrA (len := 6) (e := 105) (m := 1) rfl rfl (by kernel_rfl) (by kernel_rfl) (by decide) (by decide)) ?_
   refine o_held (i := 3) [4, 9, 11, 12] (fun _ _ => trivial) rfl rfl (by kernel_rfl) (goes0 rfl) (QOk.then (QOk.inBlock (QOk.then (QOk.then (QOk.inBlock (QOk.then QOk.body)))))) (q_load1 rfl (by kernel_rfl) (hS185.cell (i := 3) rfl rfl)) ?_
   refine o_pure (i := 4) (fun j w => ⟨(fun _ _ => trivial) j w, fun _ h => h⟩) rfl rfl (by kernel_rfl) (goes0 rfl) (QOk.then (QOk.inBlock (QOk.then (QOk.then (QOk.inBlock (QOk.then QOk.body)))))) (fun w => u_add (a := p3) (b := 4294967296) (M := 18446744073709551616) rfl rfl rfl (by decide)) ?_
   refine o_pure (i := 5) (fun j w => ⟨(fun _ _ => trivial) j w, fun _ h => h⟩) rfl rfl (by kernel_rfl) (goes0 rfl) (QOk.then (QOk.inBlock (QOk.then (QOk.then (QOk.inBlock (QOk.then QOk.body)))))) (fun w => q_moveI rfl) ?_
   refine o_pure (i := 6) (fun j w => ⟨(fun _ _ => trivial) j w, fun _ h => h⟩) rfl rfl (by kernel_rfl) (goes0 rfl) (QOk.then (QOk.inBlock (QOk.then (QOk.then (QOk.inBlock (QOk.then QOk.body)))))) (fun w => q_fieldAddr (ft := 106) (o := 1) rfl (by kernel_rfl)) ?_
   refine o_pure (i := 7) (fun j w => ⟨(fun _ _ => trivial) j w, fun _ h => h⟩) rfl rfl (by kernel_rfl) (goes0 rfl) (QOk.then (QOk.inBlock (QOk.then (QOk.then (QOk.inBlock (QOk.then QOk.body)))))) (fun w => q_indexAddrA (len := 6) (e := 105) (m := 1) rfl rfl (by kernel_rfl) (by kernel_rfl) (by decide) (by decide)) ?_
   refine o_held (i := 8) [9, 11, 12] (fun j w => ⟨(fun _ _ => trivial) j w, fun _ h => h⟩) rfl rfl (by kernel_rfl) (goes0 rfl) (QOk.then (QOk.inBlock (QOk.then (QOk.then (QOk.inBlock (QOk.then QOk.body)))))) (q_load1 rfl (by kernel_rfl) (hS185.cell (i := 2) rfl rfl)) ?_
   refine o_pure (i := 9) (fun j w => ⟨(fun j w => ⟨(fun _ _ => trivial) j w, fun _ h => h⟩) j w, fun _ h => h⟩) rfl rfl (by kernel_rfl) (goes0 rfl) (QOk.then (QOk.inBlock (QOk.then (QOk.then (QOk.inBlock (QOk.then QOk.body)))))) (fun w => u_subN (a := ((p3 + 4294967296) % 18446744073709551616)) (b := q3) rfl rfl rfl (by omega) (by show _ < 18446744073709551616; omega)) ?_
   refine o_pure (i := 10) (fun j w => ⟨(fun j w => ⟨(fun _ _ => trivial) j w, fun _ h => h⟩) j w, fun _ h => h⟩) rfl rfl (by kernel_rfl) (goes0 rfl) (QOk.then (QOk.inBlock (QOk.then (QOk.then (QOk.inBlock (QOk.then QOk.body)))))) (fun w => q_moveI rfl) ?_
   refine o_pure (i := 11) (fun j w => ⟨(fun j w => ⟨(fun _ _ => trivial) j w, fun _ h => h⟩) j w, fun _ h => h⟩) rfl rfl (by kernel_rfl) (goes0 rfl) (QOk.then (QOk.inBlock (QOk.then (QOk.then (QOk.inBlock (QOk.then QOk.body)))))) (fun w => u_subN (a := (((p3 + 4294967296) % 18446744073709551616) - q3)) (b := (1 - (s177 / 2 ^ 32))) rfl rfl rfl (by omega) (by show _ < 18446744073709551616; omega)) ?_
   refine o_pure (i := 12) (fun j w => ⟨(fun j w => ⟨(fun _ _ => trivial) j w, fun _ h => h⟩) j w, fun _ h => h⟩) rfl rfl (by kernel_rfl) (goes0 rfl) (QOk.then (QOk.inBlock (QOk.then (QOk.then (QOk.inBlock (QOk.then QOk.body)))))) (fun w => q_assignI rfl) ?_
   refine o_done (by kernel_rfl) ?_
   generalize hs186 : ((((p3 + 4294967296) % 18446744073709551616) - q3) - (1 - (s177 / 2 ^ 32))) = s186
   refine hK184 _ _ ?_
   refine wp_seq_k (fun K187 hK187 => ?_)
   refine wp_region_lit ?_
   refine l_q rfl rfl (q_moveI rfl) ?_
   refine l_q rfl rfl (q_moveI rfl) ?_
   refine l_q rfl rfl (q_remN (a := s186) (b := 4294967296) rfl rfl (by first | decide | omega)) ?_
   refine l_q rfl rfl (q_fieldAddr (ft := 106) (o := 1) rfl (by kernel_rfl)) ?_
   refine l_q rfl rfl (q_indexAddrA (len := 6) (e := 105) (m := 1) rfl rfl (by kernel_rfl) (by kernel_rfl) (by decide) (by decide)) ?_
   refine l_e rfl (fun K hK => ?_)
   refine e_store1 hS185 rfl rfl (by kernel_rfl) (by first | rfl | assumption) (i := 0) rfl rfl (fun w188 (hS188 : St _ _ [.blk b6 (.cells #[.bool m1, .int .u64 (((s159 % 4294967296) : Nat) : Int), .int .u64 (((s168 % 4294967296) : Nat) : Int), .int .u64 (((s177 % 4294967296) : Nat) : Int), .int .u64 (((s186 % 4294967296) : Nat) : Int), .int .u64 (0 : Int), .int .u64 (0 : Int)] 108), _, _, _] _) => ?_)
   clear hS185
   refine hK _ _ ?_; clear hK K
   refine l_nil ?_
   refine hK187 _ _ ?_
   refine wp_region_lit ?_
   refine l_q rfl rfl (q_moveI rfl) ?_
   refine l_q rfl rfl (q_shrN (k := .u64) (a := s186) (b := 32) rfl rfl (by decide)) ?_
   refine l_q rfl rfl (u_subN (a := 1) (b := (s186 / 2 ^ 32)) rfl rfl rfl (by omega) (by show _ < 18446744073709551616; omega)) ?_
   refine l_q rfl rfl (q_assignI rfl) ?_
   refine l_nil ?_
   refine hK183 _ _ ?_
   refine wp_region_lit ?_
   refine l_q rfl rfl (q_moveI rfl) ?_
   refine l_q rfl rfl (q_addx rfl rfl (by first | decide | omega) (by first | decide | omega)) ?_
   refine l_q rfl rfl (q_assignI rfl) ?_
   refine l_nil ?_
   refine c_round ?_
   refine wp_seq_k (fun K189 hK189 => ?_)
   refine wp_seq_k (fun K190 hK190 => ?_)
   refine wp_region_lit ?_
   refine l_q rfl rfl (q_moveI rfl) ?_
   refine l_q rfl rfl (q_lss rfl rfl) ?_
   refine l_nil ?_
   refine hK190 _ _ ?_
   refine c_condT rfl (by decide) ?_
   refine wp_skip ?_
   refine hK189 _ _ ?_
   refine wp_seq_k (fun K192 hK192 => ?_)
   refine wp_block ?_
   refine wp_seq_k (fun K193 hK193 => ?_)
   refine r_any (by kernel_rfl) hS188 (fun w194 hS194 => ?_)
   clear hS188
   refine o_pure (i := 0) (fun _ _ => trivial) rfl rfl (by kernel_rfl) (goes0 rfl) (QOk.then (QOk.inBlock (QOk.then (QOk.then (QOk.inBlock (QOk.then QOk.body)))))) (fun w => q_moveI rfl) ?_
   refine o_pure (i := 1) (fun _ _ => trivial) rfl rfl (by kernel_rfl) (goes0 rfl) (QOk.then (QOk.inBlock (QOk.then (QOk.then (QOk.inBlock (QOk.then QOk.body)))))) (fun w => q_fieldAddr (ft := 106) (o := 1) rfl (by kernel_rfl)) ?_
   refine o_pure (i := 2) (fun _ _ => trivial) rfl rfl (by kernel_rfl) (goes0 rfl) (QOk.then (QOk.inBlock (QOk.then (QOk.then (QOk.inBlock (QOk.then QOk.body)))))) (fun w => q_indexAddrA (len := 6) (e := 105) (m := 1) rfl rfl (by kernel_rfl) (by kernel_rfl) (by decide) (by decide)) ?_
   refine o_held (i := 3) [4, 9, 11, 12] (fun _ _ => trivial) rfl rfl (by kernel_rfl) (goes0 rfl) (QOk.then (QOk.inBlock (QOk.then (QOk.then (QOk.inBlock (QOk.then QOk.body)))))) (q_load1 rfl (by kernel_rfl) (hS194.cell (i := 3) rfl rfl)) ?_
   refine o_pure (i := 4) (fun j w => ⟨(fun _ _ => trivial) j w, fun _ h => h⟩) rfl rfl (by kernel_rfl) (goes0 rfl) (QOk.then (QOk.inBlock (QOk.then (QOk.then (QOk.inBlock (QOk.then QOk.body)))))) (fun w => u_add (a := p4) (b := 4294967296) (M := 18446744073709551616) rfl rfl rfl (by decide)) ?_
   refine o_pure (i := 5) (fun j w => ⟨(fun _ _ => trivial) j w, fun _ h => h⟩) rfl rfl (by kernel_rfl) (goes0 rfl) (QOk.then (QOk.inBlock (QOk.then (QOk.then (QOk.inBlock (QOk.then QOk.body)))))) (fun w => q_moveI rfl) ?_
   refine o_pure (i := 6) (fun j w => ⟨(fun _ _ => trivial) j w, fun _ h => h⟩) rfl rfl (by kernel_rfl) (goes0 rfl) (QOk.then (QOk.inBlock (QOk.then (QOk.then (QOk.inBlock (QOk.then QOk.body)))))) (fun w => q_fieldAddr (ft := 106) (o := 1) rfl (by kernel_rfl)) ?_
   refine o_pure (i := 7) (fun j w => ⟨(fun _ _ => trivial) j w, fun _ h => h⟩) rfl rfl (by kernel_rfl) (goes0 rfl) (QOk.then (QOk.inBlock (QOk.then (QOk.then (QOk.inBlock (QOk.then QOk.body)))))) (fun w => q_indexAddrA (len := 6) (e := 105) (m := 1) rfl rfl (by kernel_rfl) (by kernel_rfl) (by decide) (by decide)) ?_
   refine o_held (i := 8) [9, 11, 12] (fun j w => ⟨(fun _ _ => trivial) j w, fun _ h => h⟩) rfl rfl (by kernel_rfl) (goes0 rfl) (QOk.then (QOk.inBlock (QOk.then (QOk.then (QOk.inBlock (QOk.then QOk.body)))))) (q_load1 rfl (by kernel_rfl) (hS194.cell (i := 2) rfl rfl)) ?_
   refine o_pure (i := 9) (fun j w => ⟨(fun j w => ⟨(fun _ _ => trivial) j w, fun _ h => h⟩) j w, fun _ h => h⟩) rfl rfl (by kernel_rfl) (goes0 rfl) (QOk.then (QOk.inBlock (QOk.then (QOk.then (QOk.inBlock (QOk.then QOk.body)))))) (fun w => u_subN (a := ((p4 + 4294967296) % 18446744073709551616)) (b := q4) rfl rfl rfl (by omega) (by show _ < 18446744073709551616; omega)) ?_
   refine o_pure (i := 10) (fun j w => ⟨(fun j w => ⟨(fun _ _ => trivial) j w, fun _ h => h⟩) j w, fun _ h => h⟩) rfl rfl (by kernel_rfl) (goes0 rfl) (QOk.then (QOk.inBlock (QOk.then (QOk.then (QOk.inBlock (QOk.then QOk.body)))))) (fun w => q_moveI rfl) ?_
   refine o_pure (i := 11) (fun j w => ⟨(fun j w => ⟨(fun _ _ => trivial) j w, fun _ h => h⟩) j w, fun _ h => h⟩) rfl rfl (by kernel_rfl) (goes0 rfl) (QOk.then (QOk.inBlock (QOk.then (QOk.then (QOk.inBlock (QOk.then QOk.body)))))) (fun w => u_subN (a := (((p4 + 4294967296) % 18446744073709551616) - q4)) (b := (1 - (s186 / 2 ^ 32))) rfl rfl rfl (by omega) (by show _ < 18446744073709551616; omega)) ?_
   refine o_pure (i := 12) (fun j w => ⟨(fun j w => ⟨(fun _ _ => trivial) j w, fun _ h => h⟩) j w, fun _ h => h⟩) rfl rfl (by kernel_rfl) (goes0 rfl) (QOk.then (QOk.inBlock (QOk.then (QOk.then (QOk.inBlock (QOk.then QOk.body)))))) (fun w => q_assignI rfl) ?_
   refine o_done (by kernel_rfl) ?_
   generalize hs195 : ((((p4 + 4294967296) % 18446744073709551616) - q4) - (1 - (s186 / 2 ^ 32))) = s195
   refine hK193 _ _ ?_
   refine wp_seq_k (fun K196 hK196 => ?_)
   refine wp_region_lit ?_
   refine l_q rfl rfl (q_moveI rfl) ?_
   refine l_q rfl rfl (q_moveI rfl) ?_
   refine l_q rfl rfl (q_remN (a := s195) (b := 4294967296) rfl rfl (by first | decide | omega)) ?_
   refine l_q rfl rfl (q_fieldAddr (ft := 106) (o := 1) rfl (by kernel_rfl)) ?_
   refine l_q rfl rfl (q_indexAddrA (len := 6) (e := 105) (m := 1) rfl rfl (by kernel_rfl) (by kernel_rfl) (by decide) (by decide)) ?_
   refine l_e rfl (fun K hK => ?_)
   refine e_store1 hS194 rfl rfl (by kernel_rfl) (by first | rfl | assumption) (i := 0) rfl rfl (fun w197 (hS197 : St _ _ [.blk b6 (.cells #[.bool m1, .int .u64 (((s159 % 4294967296) : Nat) : Int), .int .u64 (((s168 % 4294967296) : Nat) : Int), .int .u64 (((s177 % 4294967296) : Nat) : Int), .int .u64 (((s186 % 4294967296) : Nat) : Int), .int .u64 (((s195 % 4294967296) : Nat) : Int), .int .u64 (0 : Int)] 108), _, _, _] _) => ?_)
   clear hS194
   refine hK _ _ ?_; clear hK K
   refine l_nil ?_
   refine hK196 _ _ ?_
   refine wp_region_lit ?_
   refine l_q rfl rfl (q_moveI rfl) ?_
   refine l_q rfl rfl (q_shrN (k := .u64) (a := s195) (b := 32) rfl rfl (by decide)) ?_
   refine l_q rfl rfl (u_subN (a := 1) (b := (s195 / 2 ^ 32)) rfl rfl rfl (by omega) (by show _ < 18446744073709551616; omega)) ?_
   refine l_q rfl rfl (q_assignI rfl) ?_
   refine l_nil ?_
   refine hK192 _ _ ?_
   refine wp_region_lit ?_
   refine l_q rfl rfl (q_moveI rfl) ?_
   refine l_q rfl rfl (q_addx rfl rfl (by first | decide | omega) (by first | decide | omega)) ?_
   refine l_q rfl rfl (q_assignI rfl) ?_
   refine l_nil ?_
   refine c_round ?_
   refine wp_seq_k (fun K198 hK198 => ?_)
   refine wp_seq_k (fun K199 hK199 => ?_)
   refine wp_region_lit ?_
   refine l_q rfl rfl (q_moveI rfl) ?_
   refine l_q rfl rfl (q_lss rfl rfl) ?_
   refine l_nil ?_
   refine hK199 _ _ ?_
   refine c_condT rfl (by decide) ?_
   refine wp_skip ?_
   refine hK198 _ _ ?_
   refine wp_seq_k (fun K201 hK201 => ?_)
   refine wp_block ?_
   refine wp_seq_k (fun K202 hK202 => ?_)
   refine r_any (by kernel_rfl) hS197 (fun w203 hS203 => ?_)
   clear hS197
   refine o_pure (i := 0) (fun _ _ => trivial) rfl rfl (by kernel_rfl) (goes0 rfl) (QOk.then (QOk.inBlock (QOk.then (QOk.then (QOk.inBlock (QOk.then QOk.body)))))) (fun w => q_moveI rfl) ?_
   refine o_pure (i := 1) (fun _ _ => trivial) rfl rfl (by kernel_rfl) (goes0 rfl) (QOk.then (QOk.inBlock (QOk.then (QOk.then (QOk.inBlock (QOk.then QOk.body)))))) (fun w => q_fieldAddr (ft := 106) (o := 1) rfl (by kernel_rfl)) ?_
   refine o_pure (i := 2) (fun _ _ => trivial) rfl rfl (by kernel_rfl) (goes0 rfl) (QOk.then (QOk.inBlock (QOk.then (QOk.then (QOk.inBlock (QOk.then QOk.body)))))) (fun w => q_indexAddrA (len := 6) (e := 105) (m := 1) rfl rfl (by kernel_rfl) (by kernel_rfl) (by decide) (by decide)) ?_
   refine o_held (i := 3) [4, 9, 11, 12] (fun _ _ => trivial) rfl rfl (by kernel_rfl) (goes0 rfl) (QOk.then (QOk.inBlock (QOk.then (QOk.then (QOk.inBlock (QOk.then QOk.body)))))) (q_load1 rfl (by kernel_rfl) (hS203.cell (i := 3) rfl rfl)) ?_
   refine o_pure (i := 4) (fun j w => ⟨(fun _ _ => trivial) j w, fun _ h => h⟩) rfl rfl (by kernel_rfl) (goes0 rfl) (QOk.then (QOk.inBlock (QOk.then (QOk.then (QOk.inBlock (QOk.then QOk.body)))))) (fun w => u_add (a := p5) (b := 4294967296) (M := 18446744073709551616) rfl rfl rfl (by decide)) ?_
   refine o_pure (i := 5) (fun j w => ⟨(fun _ _ => trivial) j w, fun _ h => h⟩) rfl rfl (by kernel_rfl) (goes0 rfl) (QOk.then (QOk.inBlock (QOk.then (QOk.then (QOk.inBlock (QOk.then QOk.body)))))) (fun w => q_moveI rfl) ?_
   refine o_pure (i := 6) (fun j w => ⟨(fun _ _ => trivial) j w, fun _ h => h⟩) rfl rfl (by kernel_rfl) (goes0 rfl) (QOk.then (QOk.inBlock (QOk.then (QOk.then (QOk.inBlock (QOk.then QOk.body)))))) (fun w => q_fieldAddr (ft := 106) (o := 1) rfl (by kernel_rfl)) ?_
   refine o_pure (i := 7) (fun j w => ⟨(fun _ _ => trivial) j w, fun _ h => h⟩) rfl rfl (by kernel_rfl) (goes0 rfl) (QOk.then (QOk.inBlock (QOk.then (QOk.then (QOk.inBlock (QOk.then QOk.body)))))) (fun w => q_indexAddrA (len := 6) (e := 105) (m := 1) rfl rfl (by kernel_rfl) (by kernel_rfl) (by decide) (by decide)) ?_
   refine o_held (i := 8) [9, 11, 12] (fun j w => ⟨(fun _ _ => trivial) j w, fun _ h => h⟩) rfl rfl (by kernel_rfl) (goes0 rfl) (QOk.then (QOk.inBlock (QOk.then (QOk.then (QOk.inBlock (QOk.then QOk.body)))))) (q_load1 rfl (by kernel_rfl) (hS203.cell (i := 2) rfl rfl)) ?_
   refine o_pure (i := 9) (fun j w => ⟨(fun j w => ⟨(fun _ _ => trivial) j w, fun _ h => h⟩) j w, fun _ h => h⟩) rfl rfl (by kernel_rfl) (goes0 rfl) (QOk.then (QOk.inBlock (QOk.then (QOk.then (QOk.inBlock (QOk.then QOk.body)))))) (fun w => u_subN (a := ((p5 + 4294967296) % 18446744073709551616)) (b := q5) rfl rfl rfl (by omega) (by show _ < 18446744073709551616; omega)) ?_
   refine o_pure (i := 10) (fun j w => ⟨(fun j w => ⟨(fun _ _ => trivial) j w, fun _ h => h⟩) j w, fun _ h => h⟩) rfl rfl (by kernel_rfl) (goes0 rfl) (QOk.then (QOk.inBlock (QOk.then (QOk.then (QOk.inBlock (QOk.then QOk.body)))))) (fun w => q_moveI rfl) ?_
   refine o_pure (i := 11) (fun j w => ⟨(fun j w => ⟨(fun _ _ => trivial) j w, fun _ h => h⟩) j w, fun _ h => h⟩) rfl rfl (by kernel_rfl) (goes0 rfl) (QOk.then (QOk.inBlock (QOk.then (QOk.then (QOk.inBlock (QOk.then QOk.body)))))) (fun w => u_subN (a := (((p5 + 4294967296) % 18446744073709551616) - q5)) (b := (1 - (s195 / 2 ^ 32))) rfl rfl rfl (by omega) (by show _ < 18446744073709551616; omega)) ?_
   refine o_pure (i := 12) (fun j w => ⟨(fun j w => ⟨(fun _ _ => trivial) j w, fun _ h => h⟩) j w, fun _ h => h⟩) rfl rfl (by kernel_rfl) (goes0 rfl) (QOk.then (QOk.inBlock (QOk.then (QOk.then (QOk.inBlock (QOk.then QOk.body)))))) (fun w => q_assignI rfl) ?_
   refine o_done (by kernel_rfl) ?_
   generalize hs204 : ((((p5 + 4294967296) % 18446744073709551616) - q5) - (1 - (s195 / 2 ^ 32))) = s204
   refine hK202 _ _ ?_
   refine wp_seq_k (fun K205 hK205 => ?_)
   refine wp_region_lit ?_
   refine l_q rfl rfl (q_moveI rfl) ?_
   refine l_q rfl rfl (q_moveI rfl) ?_
   refine l_q rfl rfl (q_remN (a := s204) (b := 4294967296) rfl rfl (by first | decide | omega)) ?_
   refine l_q rfl rfl (q_fieldAddr (ft := 106) (o := 1) rfl (by kernel_rfl)) ?_
   refine l_q rfl rfl (q_indexAddrA (len := 6) (e := 105) (m := 1) rfl rfl (by kernel_rfl) (by kernel_rfl) (by decide) (by decide)) ?_
   refine l_e rfl (fun K hK => ?_)
   refine e_store1 hS203 rfl rfl (by kernel_rfl) (by first | rfl | assumption) (i := 0) rfl rfl (fun w206 (hS206 : St _ _ [.blk b6 (.cells #[.bool m1, .int .u64 (((s159 % 4294967296) : Nat) : Int), .int .u64 (((s168 % 4294967296) : Nat) : Int), .int .u64 (((s177 % 4294967296) : Nat) : Int), .int .u64 (((s186 % 4294967296) : Nat) : Int), .int .u64 (((s195 % 4294967296) : Nat) : Int), .int .u64 (((s204 % 4294967296) : Nat) : Int)] 108), _, _, _] _) => ?_)
   clear hS203
   refine hK _ _ ?_; clear hK K
   refine l_nil ?_
   refine hK205 _ _ ?_
   refine wp_region_lit ?_
   refine l_q rfl rfl (q_moveI rfl) ?_
   refine l_q rfl rfl (q_shrN (k := .u64) (a := s204) (b := 32) rfl rfl (by decide)) ?_
   refine l_q rfl rfl (u_subN (a := 1) (b := (s204 / 2 ^ 32)) rfl rfl rfl (by omega) (by show _ < 18446744073709551616; omega)) ?_
   refine l_q rfl rfl (q_assignI rfl) ?_
   refine l_nil ?_
   refine hK201 _ _ ?_
   refine wp_region_lit ?_
   refine l_q rfl rfl (q_moveI rfl) ?_
   refine l_q rfl rfl (q_addx rfl rfl (by first | decide | omega) (by first | decide | omega)) ?_
   refine l_q rfl rfl (q_assignI rfl) ?_
   refine l_nil ?_
   refine c_round ?_
   refine wp_seq_k (fun K207 hK207 => ?_)
   refine wp_seq_k (fun K208 hK208 => ?_)
   refine wp_region_lit ?_
   refine l_q rfl rfl (q_moveI rfl) ?_
   refine l_q rfl rfl (q_lss rfl rfl) ?_
   refine l_nil ?_
   refine hK208 _ _ ?_
   refine c_condF rfl (by decide) ?_
   refine wp_exit ?_
   refine hK151 _ _ ?_
   refine wp_seq_k (fun K210 hK210 => ?_)
   refine wp_region_lit ?_
   refine l_q rfl rfl (q_loadA (m := 7) rfl (by kernel_rfl) (by kernel_rfl) (hS206.blk (i := 0) rfl) rfl rfl) ?_
   refine l_e rfl (fun K hK => ?_)
   refine e_storeA hS206 rfl rfl (by kernel_rfl) (by repeat' (first | exact trivial | refine ⟨by first | rfl | assumption | exact one_if (by assumption), ?_⟩)) (i := 1) rfl rfl (fun w211 (hS211 : St _ _ [_, .blk b4 (.cells #[.bool m1, .int .u64 (((s159 % 4294967296) : Nat) : Int), .int .u64 (((s168 % 4294967296) : Nat) : Int), .int .u64 (((s177 % 4294967296) : Nat) : Int), .int .u64 (((s186 % 4294967296) : Nat) : Int), .int .u64 (((s195 % 4294967296) : Nat) : Int), .int .u64 (((s204 % 4294967296) : Nat) : Int)] 108), _, _] _) => ?_)
   clear hS206
   refine hK _ _ ?_; clear hK K
   refine l_nil ?_
   refine hK210 _ _ ?_
   refine wp_ret ?_
   refine c_retC (m := 7) rfl (by kernel_rfl) (by kernel_rfl) rfl (by first | exact hS211.blk (i := 0) rfl | exact hS211.blk (i := 1) rfl | exact hS211.blk (i := 2) rfl | exact hS211.blk (i := 3) rfl | exact hS211.blk (i := 4) rfl) rfl ?_
   exact ⟨_, rfl, ⟨m1, (s159 % 4294967296), (s168 % 4294967296), (s177 % 4294967296), (s186 % 4294967296), (s195 % 4294967296), (s204 % 4294967296), rfl, by omega, by omega, by omega, by omega, by omega, by omega, by (try have hm := hc9; cases m1 <;> cases m2 <;> simp_all only [sv] <;> unfold dv at * <;> simp at * <;> omega)⟩, hS211.drop⟩

end Go.Proofs.YtdlmcgflgdmjgaaDoor
