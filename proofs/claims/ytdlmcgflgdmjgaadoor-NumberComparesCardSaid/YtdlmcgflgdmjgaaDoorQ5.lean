/- Great numbers: times 10000, Sign, scaled. -/
import Derived.Test.YtdlmcgflgdmjgaaDoorQ4
import Derived.Test.YtdlmcgflgdmjgaaDoorSd
import Derived.ChangeKeysEq
set_option linter.unusedVariables false
set_option linter.unusedSimpArgs false
namespace Go.Proofs.YtdlmcgflgdmjgaaDoor
open Go.RowKit
/-- A great number whose highest digit is 0. -/
def MulP (z : Int) (v : Value) : Prop := ∃ m a b c d e, v = bigV m a b c d e 0 ∧ a < 4294967296 ∧ b < 4294967296 ∧ c < 4294967296 ∧ d < 4294967296 ∧ e < 4294967296 ∧ sv m (dv a b c d e 0) = z
theorem sv_mul (m : Bool) (k : Nat) : sv m (k * 10000) = sv m k * 10000 := by cases m <;> simp [sv] <;> omega
def sgn (z : Int) : Int := if z < 0 then -1 else if z = 0 then 0 else 1
theorem dv_zero {a b c d e f : Nat} (h : dv a b c d e f = 0) : a = 0 ∧ b = 0 ∧ c = 0 ∧ d = 0 ∧ e = 0 ∧ f = 0 := by unfold dv at h; omega
section
variable {P : Program} {n : Nat} {f : Nat → Value} {w : World}
variable {d : Option Tmp} {x y : Operand} {ty T T' : TypeId} {pos : String} {aft : Array Edge} {g : Option (Nat × Bool)} {k : IntKind} {a0 a1 a2 a3 a4 a5 b0 b1 b2 b3 b4 b5 : Int}
def arr6B (P : Program) (T : TypeId) : Bool := match P.underlying T with
  | some (.array 6 e) => intB P e && sglB P e && (P.cellsOf e == 1) && (P.info? e).isSome && !P.eqGuardType P.depth T
  | _ => false
theorem run_arr6 (h : arr6B P T = true) : (Op.equalIn 10000 T (.agg #[.int k a0, .int k a1, .int k a2, .int k a3, .int k a4, .int k a5]) (.agg #[.int k b0, .int k b1, .int k b2, .int k b3, .int k b4, .int k b5])).run P w = .ok (decide (a0 = b0 ∧ a1 = b1 ∧ a2 = b2 ∧ a3 = b3 ∧ a4 = b4 ∧ a5 = b5)) w ∧ P.eqGuardType P.depth T = false := by
  unfold arr6B at h
  split at h
  · rename_i e hu
    simp only [Bool.and_eq_true, Bool.not_eq_true', beq_iff_eq, Option.isSome_iff_exists] at h
    obtain ⟨⟨⟨⟨h1, h2⟩, h3⟩, i, hi⟩, h5⟩ := h
    refine ⟨?_, h5⟩
    rw [show (10000 : Nat) = 9999 + 1 from rfl, run_equalIn_array w 9999 _ _ hu hi, h3]
    have pp : ∀ (xs : Array Value) (v : Value) (j : Nat), xs[j]? = some v → (part e xs (j * 1)).run P w = .ok v w := fun xs v j hv => by
      simp only [part, Sem.run_bind, run_isAgg h2, Result.andThen_ok, Nat.mul_one]
      simp [hv]
    obtain ⟨k0, u0⟩ := intB_und h1
    have s0 : ∀ a b, (Op.equalIn 9999 e (.int k a) (.int k b)).run P w = .ok (a == b) w := fun a b => run_equalIn_int w 9998 _ _ k0 a b u0
    rw [show List.range 6 = [0, 1, 2, 3, 4, 5] from rfl]
    simp only [Op.eqItems, Sem.run_bind]
    rw [pp _ (.int k a0) 0 rfl, Result.andThen_ok, pp _ (.int k b0) 0 rfl, Result.andThen_ok, s0, Result.andThen_ok]
    by_cases e0 : a0 = b0
    · subst e0
      simp only [beq_self_eq_true, Bool.not_true, Bool.false_eq_true, if_false, Sem.run_bind]
      rw [pp _ (.int k a1) 1 rfl, Result.andThen_ok, pp _ (.int k b1) 1 rfl, Result.andThen_ok, s0, Result.andThen_ok]
      by_cases e1 : a1 = b1
      · subst e1
        simp only [beq_self_eq_true, Bool.not_true, Bool.false_eq_true, if_false, Sem.run_bind]
        rw [pp _ (.int k a2) 2 rfl, Result.andThen_ok, pp _ (.int k b2) 2 rfl, Result.andThen_ok, s0, Result.andThen_ok]
        by_cases e2 : a2 = b2
        · subst e2
          simp only [beq_self_eq_true, Bool.not_true, Bool.false_eq_true, if_false, Sem.run_bind]
          rw [pp _ (.int k a3) 3 rfl, Result.andThen_ok, pp _ (.int k b3) 3 rfl, Result.andThen_ok, s0, Result.andThen_ok]
          by_cases e3 : a3 = b3
          · subst e3
            simp only [beq_self_eq_true, Bool.not_true, Bool.false_eq_true, if_false, Sem.run_bind]
            rw [pp _ (.int k a4) 4 rfl, Result.andThen_ok, pp _ (.int k b4) 4 rfl, Result.andThen_ok, s0, Result.andThen_ok]
            by_cases e4 : a4 = b4
            · subst e4
              simp only [beq_self_eq_true, Bool.not_true, Bool.false_eq_true, if_false, Sem.run_bind]
              rw [pp _ (.int k a5) 5 rfl, Result.andThen_ok, pp _ (.int k b5) 5 rfl, Result.andThen_ok, s0, Result.andThen_ok]
              by_cases e5 : a5 = b5 <;> simp [e5, Sem.run]
            · simp [e4, Sem.run]
          · simp [e3, Sem.run]
        · simp [e2, Sem.run]
      · simp [e1, Sem.run]
    · simp [e0, Sem.run]
  · cases h
theorem q_arr6 (hx : ev n f x = .agg #[.int k a0, .int k a1, .int k a2, .int k a3, .int k a4, .int k a5]) (hy : ev n f y = .agg #[.int k b0, .int k b1, .int k b2, .int k b3, .int k b4, .int k b5]) (h : arr6B P T = true) :
    Run P n f ⟨d, .binOp .eql T x y T', ty, pos, aft, g⟩ w (.bool (decide (a0 = b0 ∧ a1 = b1 ∧ a2 = b2 ∧ a3 = b3 ∧ a4 = b4 ∧ a5 = b5))) := by
  obtain ⟨h1, h2⟩ := run_arr6 (w := w) (k := k) (a0 := a0) (a1 := a1) (a2 := a2) (a3 := a3) (a4 := a4) (a5 := a5) (b0 := b0) (b1 := b1) (b2 := b2) (b3 := b3) (b4 := b4) (b5 := b5) h
  simp only [Run, execOp, hx, hy, Sem.run_bind, run_eqGuard_agg _ _ _ _ _ _ _ h2, Result.andThen_ok, run_eql_struct, h1]
  rfl
def arrB (P : Program) (T : TypeId) : Bool := match P.underlying T with | some (.array _ e) => (szB P e).isSome | _ => false
theorem q_buildA {zv : Value} (ha : arrB P T = true) (hz : zeroB P T = some zv) : Run P n f ⟨d, .build T #[], ty, pos, aft, g⟩ w (.agg zv.cells) := by
  unfold arrB at ha
  split at ha
  · rename_i e hu
    obtain ⟨i, hi⟩ := Option.isSome_iff_exists.1 ha
    simp only [Run, execOp, Sem.run_bind, Instr.build, run_zero hz, Result.andThen_ok, run_und hu, Go.Proofs.YtdlmcgflgdmjgaaDoor.run_sizeOf hi]
    simp [Instr.fill, Sem.run]
  · cases ha
end
theorem sgn_dv (m : Bool) (a b c d e f : Nat) (h : dv a b c d e f ≠ 0) : sgn (sv m (dv a b c d e f)) = if m = true then -1 else 1 := by
  generalize dv a b c d e f = z at h
  unfold sgn sv
  cases m <;> simp <;> omega
attribute [local irreducible] Oper.wp Sem.run Code.wp wpList wpAnyO callFunc execOp Calls
attribute [local irreducible] rightQ cmpZ cmB orL vcmp
attribute [local irreducible] toU

set_option maxRecDepth 100000 in
theorem bsign_ok (m : Bool) (p0 p1 p2 p3 p4 p5 : Nat) (w : World) : Calls Tryd.prog 60 #[bigV m p0 p1 p2 p3 p4 p5] w (PostR w fun v => v = .int .i64 (sgn (sv m (dv p0 p1 p2 p3 p4 p5)))) := by
 have hS := St.start w
 refine c_enter Tryd.func60 rfl rfl rfl ?_
 refine wp_seq_k (fun K1 hK1 => ?_)
 refine wp_region_lit ?_
 refine l_e rfl (fun K hK => ?_)
 refine e_boxA hS rfl (fun b2 w2 (hS2 : St _ _ [.blk b2 (.cells #[.bool m, .int .u64 (p0 : Int), .int .u64 (p1 : Int), .int .u64 (p2 : Int), .int .u64 (p3 : Int), .int .u64 (p4 : Int), .int .u64 (p5 : Int)] 108)] _) => ?_)
 clear hS
 refine hK _ _ ?_; clear hK K
 refine l_q rfl rfl (q_assignI rfl) ?_
 refine l_nil ?_
 refine hK1 _ _ ?_
 refine wp_seq_k (fun K3 hK3 => ?_)
 refine wp_seq_k (fun K4 hK4 => ?_)
 refine wp_region_lit ?_
 refine l_q rfl rfl (q_fieldAddr (ft := 106) (o := 1) rfl (by kernel_rfl)) ?_
 refine l_q rfl rfl (q_loadA (m := 6) rfl (by kernel_rfl) (by kernel_rfl) (hS2.blk (i := 0) rfl) rfl rfl) ?_
 refine l_q rfl rfl (q_buildA (zv := .agg #[.int .u64 0, .int .u64 0, .int .u64 0, .int .u64 0, .int .u64 0, .int .u64 0]) (by kernel_rfl) (by kernel_rfl)) ?_
 refine l_q rfl rfl (q_arr6 rfl rfl (by kernel_rfl)) ?_
 refine l_nil ?_
 refine hK4 _ _ ?_
 refine c_cond rfl (fun hc5 => ?_) (fun hc5 => ?_)
 ·
  have hc5b := hc5
  try simp only [decide_eq_true_eq, decide_eq_false_iff_not, Bool.not_eq_true', Bool.not_eq_false', Bool.and_eq_true, Bool.or_eq_true, Int.not_lt, Int.not_le, ne_eq, Decidable.not_not] at hc5
  refine wp_seq_k (fun K6 hK6 => ?_)
  refine wp_region_lit ?_
  refine l_q rfl rfl (q_assignI rfl) ?_
  refine l_nil ?_
  refine hK6 _ _ ?_
  refine wp_ret ?_
  refine c_ret1 rfl rfl ?_
  have hz : dv p0 p1 p2 p3 p4 p5 = 0 := by unfold dv; omega
  exact ⟨_, rfl, congrArg (Value.int .i64) (by rw [hz]; cases m <;> rfl), hS2.drop⟩
 ·
  have hc5b := hc5
  try simp only [decide_eq_true_eq, decide_eq_false_iff_not, Bool.not_eq_true', Bool.not_eq_false', Bool.and_eq_true, Bool.or_eq_true, Int.not_lt, Int.not_le, ne_eq, Decidable.not_not] at hc5
  refine wp_skip ?_
  refine hK3 _ _ ?_
  refine wp_seq_k (fun K7 hK7 => ?_)
  refine wp_seq_k (fun K8 hK8 => ?_)
  refine wp_region_lit ?_
  refine l_q rfl rfl (q_fieldAddr (ft := 4) (o := 0) rfl (by kernel_rfl)) ?_
  refine l_q rfl rfl (q_load1 rfl (by kernel_rfl) (hS2.cell (i := 0) rfl rfl)) ?_
  refine l_nil ?_
  refine hK8 _ _ ?_
  refine c_cond rfl (fun hc9 => ?_) (fun hc9 => ?_)
  ·
   have hc9b := hc9
   try simp only [decide_eq_true_eq, decide_eq_false_iff_not, Bool.not_eq_true', Bool.not_eq_false', Bool.and_eq_true, Bool.or_eq_true, Int.not_lt, Int.not_le, ne_eq, Decidable.not_not] at hc9
   refine wp_seq_k (fun K10 hK10 => ?_)
   refine wp_region_lit ?_
   refine l_q rfl rfl (q_assignI rfl) ?_
   refine l_nil ?_
   refine hK10 _ _ ?_
   refine wp_ret ?_
   refine c_ret1 rfl rfl ?_
   have hz : dv p0 p1 p2 p3 p4 p5 ≠ 0 := by unfold dv; omega
   have hm : m = true := hc9
   exact ⟨_, rfl, congrArg (Value.int .i64) (by rw [sgn_dv _ _ _ _ _ _ _ hz, hm]; rfl), hS2.drop⟩
  ·
   have hc9b := hc9
   try simp only [decide_eq_true_eq, decide_eq_false_iff_not, Bool.not_eq_true', Bool.not_eq_false', Bool.and_eq_true, Bool.or_eq_true, Int.not_lt, Int.not_le, ne_eq, Decidable.not_not] at hc9
   refine wp_skip ?_
   refine hK7 _ _ ?_
   refine wp_seq_k (fun K11 hK11 => ?_)
   refine wp_region_lit ?_
   refine l_q rfl rfl (q_assignI rfl) ?_
   refine l_nil ?_
   refine hK11 _ _ ?_
   refine wp_ret ?_
   refine c_ret1 rfl rfl ?_
   have hz : dv p0 p1 p2 p3 p4 p5 ≠ 0 := by unfold dv; omega
   have hm : m = false := hc9
   exact ⟨_, rfl, congrArg (Value.int .i64) (by rw [sgn_dv _ _ _ _ _ _ _ hz, hm]; rfl), hS2.drop⟩

set_option maxHeartbeats 8000000 in
set_option maxRecDepth 100000 in
theorem mulQ_ok (m : Bool) (a0 a1 : Nat) (h0 : a0 < 4294967296) (h1 : a1 < 4294967296) (w : World) : Calls Tryd.prog 73 #[bigV m a0 a1 0 0 0 0, bigV false 10000 0 0 0 0 0] w (PostR w fun v => MulP (sv m (dv a0 a1 0 0 0 0) * 10000) v) := by
 have hS := St.start w
 refine c_enter Tryd.func73 rfl rfl rfl ?_
 refine wp_seq_k (fun K1 hK1 => ?_)
 refine wp_region_lit ?_
 refine l_e rfl (fun K hK => ?_)
 refine e_boxA hS rfl (fun b2 w2 (hS2 : St _ _ [.blk b2 (.cells #[.bool m, .int .u64 (a0 : Int), .int .u64 (a1 : Int), .int .u64 (0 : Int), .int .u64 (0 : Int), .int .u64 (0 : Int), .int .u64 (0 : Int)] 108)] _) => ?_)
 clear hS
 refine hK _ _ ?_; clear hK K
 refine l_e rfl (fun K hK => ?_)
 refine e_boxA hS2 rfl (fun b3 w3 (hS3 : St _ _ [.blk b3 (.cells #[.bool false, .int .u64 (10000 : Int), .int .u64 (0 : Int), .int .u64 (0 : Int), .int .u64 (0 : Int), .int .u64 (0 : Int), .int .u64 (0 : Int)] 108), _] _) => ?_)
 clear hS2
 refine hK _ _ ?_; clear hK K
 refine l_e rfl (fun K hK => ?_)
 refine e_alloc (zv := .agg #[.bool false, .int .u64 0, .int .u64 0, .int .u64 0, .int .u64 0, .int .u64 0, .int .u64 0]) hS3 (by kernel_rfl) (fun b4 w4 (hS4 : St _ _ [.blk b4 (.cells #[.bool false, .int .u64 (0 : Int), .int .u64 (0 : Int), .int .u64 (0 : Int), .int .u64 (0 : Int), .int .u64 (0 : Int), .int .u64 (0 : Int)] 108), _, _] _) => ?_)
 clear hS3
 refine hK _ _ ?_; clear hK K
 refine l_nil ?_
 refine hK1 _ _ ?_
 refine wp_seq_k (fun K5 hK5 => ?_)
 refine wp_region_lit ?_
 refine l_e rfl (fun K hK => ?_)
 refine e_alloc (zv := .agg #[.bool false, .int .u64 0, .int .u64 0, .int .u64 0, .int .u64 0, .int .u64 0, .int .u64 0]) hS4 (by kernel_rfl) (fun b6 w6 (hS6 : St _ _ [.blk b6 (.cells #[.bool false, .int .u64 (0 : Int), .int .u64 (0 : Int), .int .u64 (0 : Int), .int .u64 (0 : Int), .int .u64 (0 : Int), .int .u64 (0 : Int)] 108), _, _, _] _) => ?_)
 clear hS4
 refine hK _ _ ?_; clear hK K
 refine l_nil ?_
 refine hK5 _ _ ?_
 refine wp_seq_k (fun K7 hK7 => ?_)
 refine wp_seq_k (fun K8 hK8 => ?_)
 refine wp_region_lit ?_
 refine l_q rfl rfl (q_assignI rfl) ?_
 refine l_nil ?_
 refine hK8 _ _ ?_
 refine wp_block ?_
 refine c_rounds 4 ?_
 refine c_round ?_
 refine wp_seq_k (fun K9 hK9 => ?_)
 refine wp_seq_k (fun K10 hK10 => ?_)
 refine wp_region_lit ?_
 refine l_q rfl rfl (q_moveI rfl) ?_
 refine l_q rfl rfl (q_lss rfl rfl) ?_
 refine l_nil ?_
 refine hK10 _ _ ?_
 refine c_condT rfl (by decide) ?_
 refine wp_skip ?_
 refine hK9 _ _ ?_
 refine wp_seq_k (fun K12 hK12 => ?_)
 refine wp_block ?_
 refine wp_seq_k (fun K13 hK13 => ?_)
 refine wp_region_lit ?_
 refine l_q rfl rfl (q_assignI rfl) ?_
 refine l_nil ?_
 refine hK13 _ _ ?_
 refine wp_seq_k (fun K14 hK14 => ?_)
 refine wp_seq_k (fun K15 hK15 => ?_)
 refine wp_region_lit ?_
 refine l_q rfl rfl (q_assignI rfl) ?_
 refine l_nil ?_
 refine hK15 _ _ ?_
 refine wp_block ?_
 refine c_rounds 4 ?_
 refine c_round ?_
 refine wp_seq_k (fun K16 hK16 => ?_)
 refine wp_seq_k (fun K17 hK17 => ?_)
 refine wp_region_lit ?_
 refine l_q rfl rfl (q_moveI rfl) ?_
 refine l_q rfl rfl (q_lss rfl rfl) ?_
 refine l_nil ?_
 refine hK17 _ _ ?_
 refine c_condT rfl (by decide) ?_
 refine wp_skip ?_
 refine hK16 _ _ ?_
 refine wp_seq_k (fun K19 hK19 => ?_)
 refine wp_block ?_
 refine wp_seq_k (fun K20 hK20 => ?_)
 refine r_any (by kernel_rfl) hS6 (fun w21 hS21 => ?_)
 clear hS6
 refine o_pure (i := 0) (fun _ _ => trivial) rfl rfl (by kernel_rfl) (goes0 rfl) (QOk.then (QOk.inBlock (QOk.then (QOk.then (QOk.inBlock (QOk.then (QOk.inBlock (QOk.then (QOk.then (QOk.inBlock (QOk.then QOk.body))))))))))) (fun w => q_moveI rfl) ?_
 refine o_pure (i := 1) (fun _ _ => trivial) rfl rfl (by kernel_rfl) (goes0 rfl) (QOk.then (QOk.inBlock (QOk.then (QOk.then (QOk.inBlock (QOk.then (QOk.inBlock (QOk.then (QOk.then (QOk.inBlock (QOk.then QOk.body))))))))))) (fun w => q_moveI rfl) ?_
 refine o_pure (i := 2) (fun _ _ => trivial) rfl rfl (by kernel_rfl) (goes0 rfl) (QOk.then (QOk.inBlock (QOk.then (QOk.then (QOk.inBlock (QOk.then (QOk.inBlock (QOk.then (QOk.then (QOk.inBlock (QOk.then QOk.body))))))))))) (fun w => q_addx rfl rfl (by first | decide | omega) (by first | decide | omega)) ?_
 refine o_pure (i := 3) (fun _ _ => trivial) rfl rfl (by kernel_rfl) (goes0 rfl) (QOk.then (QOk.inBlock (QOk.then (QOk.then (QOk.inBlock (QOk.then (QOk.inBlock (QOk.then (QOk.then (QOk.inBlock (QOk.then QOk.body))))))))))) (fun w => q_fieldAddr (ft := 106) (o := 1) rfl (by kernel_rfl)) ?_
 refine o_pure (i := 4) (fun _ _ => trivial) rfl rfl (by kernel_rfl) (goes0 rfl) (QOk.then (QOk.inBlock (QOk.then (QOk.then (QOk.inBlock (QOk.then (QOk.inBlock (QOk.then (QOk.then (QOk.inBlock (QOk.then QOk.body))))))))))) (fun w => q_indexAddrA (len := 6) (e := 105) (m := 1) rfl rfl (by kernel_rfl) (by kernel_rfl) (by decide) (by decide)) ?_
 refine o_held (i := 5) [15, 17, 18] (fun _ _ => trivial) rfl rfl (by kernel_rfl) (goes0 rfl) (QOk.then (QOk.inBlock (QOk.then (QOk.then (QOk.inBlock (QOk.then (QOk.inBlock (QOk.then (QOk.then (QOk.inBlock (QOk.then QOk.body))))))))))) (q_load1 rfl (by kernel_rfl) (hS21.cell (i := 0) rfl rfl)) ?_
 refine o_pure (i := 6) (fun j w => ⟨(fun _ _ => trivial) j w, fun _ h => h⟩) rfl rfl (by kernel_rfl) (goes0 rfl) (QOk.then (QOk.inBlock (QOk.then (QOk.then (QOk.inBlock (QOk.then (QOk.inBlock (QOk.then (QOk.then (QOk.inBlock (QOk.then QOk.body))))))))))) (fun w => q_moveI rfl) ?_
 refine o_pure (i := 7) (fun j w => ⟨(fun _ _ => trivial) j w, fun _ h => h⟩) rfl rfl (by kernel_rfl) (goes0 rfl) (QOk.then (QOk.inBlock (QOk.then (QOk.then (QOk.inBlock (QOk.then (QOk.inBlock (QOk.then (QOk.then (QOk.inBlock (QOk.then QOk.body))))))))))) (fun w => q_fieldAddr (ft := 106) (o := 1) rfl (by kernel_rfl)) ?_
 refine o_pure (i := 8) (fun j w => ⟨(fun _ _ => trivial) j w, fun _ h => h⟩) rfl rfl (by kernel_rfl) (goes0 rfl) (QOk.then (QOk.inBlock (QOk.then (QOk.then (QOk.inBlock (QOk.then (QOk.inBlock (QOk.then (QOk.then (QOk.inBlock (QOk.then QOk.body))))))))))) (fun w => q_indexAddrA (len := 6) (e := 105) (m := 1) rfl rfl (by kernel_rfl) (by kernel_rfl) (by decide) (by decide)) ?_
 refine o_held (i := 9) [14, 15, 17, 18] (fun j w => ⟨(fun _ _ => trivial) j w, fun _ h => h⟩) rfl rfl (by kernel_rfl) (goes0 rfl) (QOk.then (QOk.inBlock (QOk.then (QOk.then (QOk.inBlock (QOk.then (QOk.inBlock (QOk.then (QOk.then (QOk.inBlock (QOk.then QOk.body))))))))))) (q_load1 rfl (by kernel_rfl) (hS21.cell (i := 3) rfl rfl)) ?_
 refine o_pure (i := 10) (fun j w => ⟨(fun j w => ⟨(fun _ _ => trivial) j w, fun _ h => h⟩) j w, fun _ h => h⟩) rfl rfl (by kernel_rfl) (goes0 rfl) (QOk.then (QOk.inBlock (QOk.then (QOk.then (QOk.inBlock (QOk.then (QOk.inBlock (QOk.then (QOk.then (QOk.inBlock (QOk.then QOk.body))))))))))) (fun w => q_moveI rfl) ?_
 refine o_pure (i := 11) (fun j w => ⟨(fun j w => ⟨(fun _ _ => trivial) j w, fun _ h => h⟩) j w, fun _ h => h⟩) rfl rfl (by kernel_rfl) (goes0 rfl) (QOk.then (QOk.inBlock (QOk.then (QOk.then (QOk.inBlock (QOk.then (QOk.inBlock (QOk.then (QOk.then (QOk.inBlock (QOk.then QOk.body))))))))))) (fun w => q_fieldAddr (ft := 106) (o := 1) rfl (by kernel_rfl)) ?_
 refine o_pure (i := 12) (fun j w => ⟨(fun j w => ⟨(fun _ _ => trivial) j w, fun _ h => h⟩) j w, fun _ h => h⟩) rfl rfl (by kernel_rfl) (goes0 rfl) (QOk.then (QOk.inBlock (QOk.then (QOk.then (QOk.inBlock (QOk.then (QOk.inBlock (QOk.then (QOk.then (QOk.inBlock (QOk.then QOk.body))))))))))) (fun w => q_indexAddrA (len := 6) (e := 105) (m := 1) rfl rfl (by kernel_rfl) (by kernel_rfl) (by decide) (by decide)) ?_
 refine o_held (i := 13) [14, 15, 17, 18] (fun j w => ⟨(fun j w => ⟨(fun _ _ => trivial) j w, fun _ h => h⟩) j w, fun _ h => h⟩) rfl rfl (by kernel_rfl) (goes0 rfl) (QOk.then (QOk.inBlock (QOk.then (QOk.then (QOk.inBlock (QOk.then (QOk.inBlock (QOk.then (QOk.then (QOk.inBlock (QOk.then QOk.body))))))))))) (q_load1 rfl (by kernel_rfl) (hS21.cell (i := 2) rfl rfl)) ?_
 refine o_pure (i := 14) (fun j w => ⟨(fun j w => ⟨(fun j w => ⟨(fun _ _ => trivial) j w, fun _ h => h⟩) j w, fun _ h => h⟩) j w, fun _ h => h⟩) rfl rfl (by kernel_rfl) (goes0 rfl) (QOk.then (QOk.inBlock (QOk.then (QOk.then (QOk.inBlock (QOk.then (QOk.inBlock (QOk.then (QOk.then (QOk.inBlock (QOk.then QOk.body))))))))))) (fun w => u_mul (a := a0) (b := 10000) (M := 18446744073709551616) rfl rfl rfl (by decide)) ?_
 refine o_pure (i := 15) (fun j w => ⟨(fun j w => ⟨(fun j w => ⟨(fun _ _ => trivial) j w, fun _ h => h⟩) j w, fun _ h => h⟩) j w, fun _ h => h⟩) rfl rfl (by kernel_rfl) (goes0 rfl) (QOk.then (QOk.inBlock (QOk.then (QOk.then (QOk.inBlock (QOk.then (QOk.inBlock (QOk.then (QOk.then (QOk.inBlock (QOk.then QOk.body))))))))))) (fun w => u_add (a := 0) (b := (a0 * 10000 % 18446744073709551616)) (M := 18446744073709551616) rfl rfl rfl (by decide)) ?_
 refine o_pure (i := 16) (fun j w => ⟨(fun j w => ⟨(fun j w => ⟨(fun _ _ => trivial) j w, fun _ h => h⟩) j w, fun _ h => h⟩) j w, fun _ h => h⟩) rfl rfl (by kernel_rfl) (goes0 rfl) (QOk.then (QOk.inBlock (QOk.then (QOk.then (QOk.inBlock (QOk.then (QOk.inBlock (QOk.then (QOk.then (QOk.inBlock (QOk.then QOk.body))))))))))) (fun w => q_moveI rfl) ?_
 refine o_pure (i := 17) (fun j w => ⟨(fun j w => ⟨(fun j w => ⟨(fun _ _ => trivial) j w, fun _ h => h⟩) j w, fun _ h => h⟩) j w, fun _ h => h⟩) rfl rfl (by kernel_rfl) (goes0 rfl) (QOk.then (QOk.inBlock (QOk.then (QOk.then (QOk.inBlock (QOk.then (QOk.inBlock (QOk.then (QOk.then (QOk.inBlock (QOk.then QOk.body))))))))))) (fun w => u_add (a := ((0 + (a0 * 10000 % 18446744073709551616)) % 18446744073709551616)) (b := 0) (M := 18446744073709551616) rfl rfl rfl (by decide)) ?_
 refine o_pure (i := 18) (fun j w => ⟨(fun j w => ⟨(fun j w => ⟨(fun _ _ => trivial) j w, fun _ h => h⟩) j w, fun _ h => h⟩) j w, fun _ h => h⟩) rfl rfl (by kernel_rfl) (goes0 rfl) (QOk.then (QOk.inBlock (QOk.then (QOk.then (QOk.inBlock (QOk.then (QOk.inBlock (QOk.then (QOk.then (QOk.inBlock (QOk.then QOk.body))))))))))) (fun w => q_assignI rfl) ?_
 refine o_done (by kernel_rfl) ?_
 have hq22 : ((((0 + (a0 * 10000 % 18446744073709551616)) % 18446744073709551616) + 0) % 18446744073709551616) = 0 + a0 * 10000 + 0 := by omega
 generalize ((((0 + (a0 * 10000 % 18446744073709551616)) % 18446744073709551616) + 0) % 18446744073709551616) = s22 at hq22 ⊢
 refine hK20 _ _ ?_
 refine wp_seq_k (fun K23 hK23 => ?_)
 refine wp_region_lit ?_
 refine l_q rfl rfl (q_moveI rfl) ?_
 refine l_q rfl rfl (q_moveI rfl) ?_
 refine l_q rfl rfl (q_addx rfl rfl (by first | decide | omega) (by first | decide | omega)) ?_
 refine l_q rfl rfl (q_moveI rfl) ?_
 refine l_q rfl rfl (q_remN (a := s22) (b := 4294967296) rfl rfl (by first | decide | omega)) ?_
 generalize hd22 : s22 % 4294967296 = d22
 refine l_q rfl rfl (q_fieldAddr (ft := 106) (o := 1) rfl (by kernel_rfl)) ?_
 refine l_q rfl rfl (q_indexAddrA (len := 6) (e := 105) (m := 1) rfl rfl (by kernel_rfl) (by kernel_rfl) (by decide) (by decide)) ?_
 refine l_e rfl (fun K hK => ?_)
 refine e_store1 hS21 rfl rfl (by kernel_rfl) (by first | rfl | assumption) (i := 0) rfl rfl (fun w24 (hS24 : St _ _ [.blk b6 (.cells #[.bool false, .int .u64 (d22 : Int), .int .u64 (0 : Int), .int .u64 (0 : Int), .int .u64 (0 : Int), .int .u64 (0 : Int), .int .u64 (0 : Int)] 108), _, _, _] _) => ?_)
 clear hS21
 refine hK _ _ ?_; clear hK K
 refine l_nil ?_
 refine hK23 _ _ ?_
 refine wp_region_lit ?_
 refine l_q rfl rfl (q_moveI rfl) ?_
 refine l_q rfl rfl (q_shrN (k := .u64) (a := s22) (b := 32) rfl rfl (by decide)) ?_
 refine l_q rfl rfl (q_assignI rfl) ?_
 refine l_nil ?_
 generalize hc22 : (s22 / 2 ^ 32) = c22
 have hx22 : s22 = d22 + 4294967296 * c22 ∧ d22 < 4294967296 := by rw [← hd22, ← hc22]; omega
 rw [hq22] at hx22; clear hd22 hc22 hq22
 have hy22 : c22 ≤ 10000 := by omega
 refine hK19 _ _ ?_
 refine wp_region_lit ?_
 refine l_q rfl rfl (q_moveI rfl) ?_
 refine l_q rfl rfl (q_addx rfl rfl (by first | decide | omega) (by first | decide | omega)) ?_
 refine l_q rfl rfl (q_assignI rfl) ?_
 refine l_nil ?_
 refine c_round ?_
 refine wp_seq_k (fun K25 hK25 => ?_)
 refine wp_seq_k (fun K26 hK26 => ?_)
 refine wp_region_lit ?_
 refine l_q rfl rfl (q_moveI rfl) ?_
 refine l_q rfl rfl (q_lss rfl rfl) ?_
 refine l_nil ?_
 refine hK26 _ _ ?_
 refine c_condT rfl (by decide) ?_
 refine wp_skip ?_
 refine hK25 _ _ ?_
 refine wp_seq_k (fun K28 hK28 => ?_)
 refine wp_block ?_
 refine wp_seq_k (fun K29 hK29 => ?_)
 refine r_any (by kernel_rfl) hS24 (fun w30 hS30 => ?_)
 clear hS24
 refine o_pure (i := 0) (fun _ _ => trivial) rfl rfl (by kernel_rfl) (goes0 rfl) (QOk.then (QOk.inBlock (QOk.then (QOk.then (QOk.inBlock (QOk.then (QOk.inBlock (QOk.then (QOk.then (QOk.inBlock (QOk.then QOk.body))))))))))) (fun w => q_moveI rfl) ?_
 refine o_pure (i := 1) (fun _ _ => trivial) rfl rfl (by kernel_rfl) (goes0 rfl) (QOk.then (QOk.inBlock (QOk.then (QOk.then (QOk.inBlock (QOk.then (QOk.inBlock (QOk.then (QOk.then (QOk.inBlock (QOk.then QOk.body))))))))))) (fun w => q_moveI rfl) ?_
 refine o_pure (i := 2) (fun _ _ => trivial) rfl rfl (by kernel_rfl) (goes0 rfl) (QOk.then (QOk.inBlock (QOk.then (QOk.then (QOk.inBlock (QOk.then (QOk.inBlock (QOk.then (QOk.then (QOk.inBlock (QOk.then QOk.body))))))))))) (fun w => q_addx rfl rfl (by first | decide | omega) (by first | decide | omega)) ?_
 refine o_pure (i := 3) (fun _ _ => trivial) rfl rfl (by kernel_rfl) (goes0 rfl) (QOk.then (QOk.inBlock (QOk.then (QOk.then (QOk.inBlock (QOk.then (QOk.inBlock (QOk.then (QOk.then (QOk.inBlock (QOk.then QOk.body))))))))))) (fun w => q_fieldAddr (ft := 106) (o := 1) rfl (by kernel_rfl)) ?_
 refine o_pure (i := 4) (fun _ _ => trivial) rfl rfl (by kernel_rfl) (goes0 rfl) (QOk.then (QOk.inBlock (QOk.then (QOk.then (QOk.inBlock (QOk.then (QOk.inBlock (QOk.then (QOk.then (QOk.inBlock (QOk.then QOk.body))))))))))) (fun w => q_indexAddrA (len := 6) (e := 105) (m := 1) rfl rfl (by kernel_rfl) (by kernel_rfl) (by decide) (by decide)) ?_
 refine o_held (i := 5) [15, 17, 18] (fun _ _ => trivial) rfl rfl (by kernel_rfl) (goes0 rfl) (QOk.then (QOk.inBlock (QOk.then (QOk.then (QOk.inBlock (QOk.then (QOk.inBlock (QOk.then (QOk.then (QOk.inBlock (QOk.then QOk.body))))))))))) (q_load1 rfl (by kernel_rfl) (hS30.cell (i := 0) rfl rfl)) ?_
 refine o_pure (i := 6) (fun j w => ⟨(fun _ _ => trivial) j w, fun _ h => h⟩) rfl rfl (by kernel_rfl) (goes0 rfl) (QOk.then (QOk.inBlock (QOk.then (QOk.then (QOk.inBlock (QOk.then (QOk.inBlock (QOk.then (QOk.then (QOk.inBlock (QOk.then QOk.body))))))))))) (fun w => q_moveI rfl) ?_
 refine o_pure (i := 7) (fun j w => ⟨(fun _ _ => trivial) j w, fun _ h => h⟩) rfl rfl (by kernel_rfl) (goes0 rfl) (QOk.then (QOk.inBlock (QOk.then (QOk.then (QOk.inBlock (QOk.then (QOk.inBlock (QOk.then (QOk.then (QOk.inBlock (QOk.then QOk.body))))))))))) (fun w => q_fieldAddr (ft := 106) (o := 1) rfl (by kernel_rfl)) ?_
 refine o_pure (i := 8) (fun j w => ⟨(fun _ _ => trivial) j w, fun _ h => h⟩) rfl rfl (by kernel_rfl) (goes0 rfl) (QOk.then (QOk.inBlock (QOk.then (QOk.then (QOk.inBlock (QOk.then (QOk.inBlock (QOk.then (QOk.then (QOk.inBlock (QOk.then QOk.body))))))))))) (fun w => q_indexAddrA (len := 6) (e := 105) (m := 1) rfl rfl (by kernel_rfl) (by kernel_rfl) (by decide) (by decide)) ?_
 refine o_held (i := 9) [14, 15, 17, 18] (fun j w => ⟨(fun _ _ => trivial) j w, fun _ h => h⟩) rfl rfl (by kernel_rfl) (goes0 rfl) (QOk.then (QOk.inBlock (QOk.then (QOk.then (QOk.inBlock (QOk.then (QOk.inBlock (QOk.then (QOk.then (QOk.inBlock (QOk.then QOk.body))))))))))) (q_load1 rfl (by kernel_rfl) (hS30.cell (i := 3) rfl rfl)) ?_
 refine o_pure (i := 10) (fun j w => ⟨(fun j w => ⟨(fun _ _ => trivial) j w, fun _ h => h⟩) j w, fun _ h => h⟩) rfl rfl (by kernel_rfl) (goes0 rfl) (QOk.then (QOk.inBlock (QOk.then (QOk.then (QOk.inBlock (QOk.then (QOk.inBlock (QOk.then (QOk.then (QOk.inBlock (QOk.then QOk.body))))))))))) (fun w => q_moveI rfl) ?_
 refine o_pure (i := 11) (fun j w => ⟨(fun j w => ⟨(fun _ _ => trivial) j w, fun _ h => h⟩) j w, fun _ h => h⟩) rfl rfl (by kernel_rfl) (goes0 rfl) (QOk.then (QOk.inBlock (QOk.then (QOk.then (QOk.inBlock (QOk.then (QOk.inBlock (QOk.then (QOk.then (QOk.inBlock (QOk.then QOk.body))))))))))) (fun w => q_fieldAddr (ft := 106) (o := 1) rfl (by kernel_rfl)) ?_
 refine o_pure (i := 12) (fun j w => ⟨(fun j w => ⟨(fun _ _ => trivial) j w, fun _ h => h⟩) j w, fun _ h => h⟩) rfl rfl (by kernel_rfl) (goes0 rfl) (QOk.then (QOk.inBlock (QOk.then (QOk.then (QOk.inBlock (QOk.then (QOk.inBlock (QOk.then (QOk.then (QOk.inBlock (QOk.then QOk.body))))))))))) (fun w => q_indexAddrA (len := 6) (e := 105) (m := 1) rfl rfl (by kernel_rfl) (by kernel_rfl) (by decide) (by decide)) ?_
 refine o_held (i := 13) [14, 15, 17, 18] (fun j w => ⟨(fun j w => ⟨(fun _ _ => trivial) j w, fun _ h => h⟩) j w, fun _ h => h⟩) rfl rfl (by kernel_rfl) (goes0 rfl) (QOk.then (QOk.inBlock (QOk.then (QOk.then (QOk.inBlock (QOk.then (QOk.inBlock (QOk.then (QOk.then (QOk.inBlock (QOk.then QOk.body))))))))))) (q_load1 rfl (by kernel_rfl) (hS30.cell (i := 2) rfl rfl)) ?_
 refine o_pure (i := 14) (fun j w => ⟨(fun j w => ⟨(fun j w => ⟨(fun _ _ => trivial) j w, fun _ h => h⟩) j w, fun _ h => h⟩) j w, fun _ h => h⟩) rfl rfl (by kernel_rfl) (goes0 rfl) (QOk.then (QOk.inBlock (QOk.then (QOk.then (QOk.inBlock (QOk.then (QOk.inBlock (QOk.then (QOk.then (QOk.inBlock (QOk.then QOk.body))))))))))) (fun w => u_mul (a := a0) (b := 0) (M := 18446744073709551616) rfl rfl rfl (by decide)) ?_
 refine o_pure (i := 15) (fun j w => ⟨(fun j w => ⟨(fun j w => ⟨(fun _ _ => trivial) j w, fun _ h => h⟩) j w, fun _ h => h⟩) j w, fun _ h => h⟩) rfl rfl (by kernel_rfl) (goes0 rfl) (QOk.then (QOk.inBlock (QOk.then (QOk.then (QOk.inBlock (QOk.then (QOk.inBlock (QOk.then (QOk.then (QOk.inBlock (QOk.then QOk.body))))))))))) (fun w => u_add (a := 0) (b := (a0 * 0 % 18446744073709551616)) (M := 18446744073709551616) rfl rfl rfl (by decide)) ?_
 refine o_pure (i := 16) (fun j w => ⟨(fun j w => ⟨(fun j w => ⟨(fun _ _ => trivial) j w, fun _ h => h⟩) j w, fun _ h => h⟩) j w, fun _ h => h⟩) rfl rfl (by kernel_rfl) (goes0 rfl) (QOk.then (QOk.inBlock (QOk.then (QOk.then (QOk.inBlock (QOk.then (QOk.inBlock (QOk.then (QOk.then (QOk.inBlock (QOk.then QOk.body))))))))))) (fun w => q_moveI rfl) ?_
 refine o_pure (i := 17) (fun j w => ⟨(fun j w => ⟨(fun j w => ⟨(fun _ _ => trivial) j w, fun _ h => h⟩) j w, fun _ h => h⟩) j w, fun _ h => h⟩) rfl rfl (by kernel_rfl) (goes0 rfl) (QOk.then (QOk.inBlock (QOk.then (QOk.then (QOk.inBlock (QOk.then (QOk.inBlock (QOk.then (QOk.then (QOk.inBlock (QOk.then QOk.body))))))))))) (fun w => u_add (a := ((0 + (a0 * 0 % 18446744073709551616)) % 18446744073709551616)) (b := c22) (M := 18446744073709551616) rfl rfl rfl (by decide)) ?_
 refine o_pure (i := 18) (fun j w => ⟨(fun j w => ⟨(fun j w => ⟨(fun _ _ => trivial) j w, fun _ h => h⟩) j w, fun _ h => h⟩) j w, fun _ h => h⟩) rfl rfl (by kernel_rfl) (goes0 rfl) (QOk.then (QOk.inBlock (QOk.then (QOk.then (QOk.inBlock (QOk.then (QOk.inBlock (QOk.then (QOk.then (QOk.inBlock (QOk.then QOk.body))))))))))) (fun w => q_assignI rfl) ?_
 refine o_done (by kernel_rfl) ?_
 have hq31 : ((((0 + (a0 * 0 % 18446744073709551616)) % 18446744073709551616) + c22) % 18446744073709551616) = 0 + a0 * 0 + c22 := by omega
 generalize ((((0 + (a0 * 0 % 18446744073709551616)) % 18446744073709551616) + c22) % 18446744073709551616) = s31 at hq31 ⊢
 refine hK29 _ _ ?_
 refine wp_seq_k (fun K32 hK32 => ?_)
 refine wp_region_lit ?_
 refine l_q rfl rfl (q_moveI rfl) ?_
 refine l_q rfl rfl (q_moveI rfl) ?_
 refine l_q rfl rfl (q_addx rfl rfl (by first | decide | omega) (by first | decide | omega)) ?_
 refine l_q rfl rfl (q_moveI rfl) ?_
 refine l_q rfl rfl (q_remN (a := s31) (b := 4294967296) rfl rfl (by first | decide | omega)) ?_
 generalize hd31 : s31 % 4294967296 = d31
 refine l_q rfl rfl (q_fieldAddr (ft := 106) (o := 1) rfl (by kernel_rfl)) ?_
 refine l_q rfl rfl (q_indexAddrA (len := 6) (e := 105) (m := 1) rfl rfl (by kernel_rfl) (by kernel_rfl) (by decide) (by decide)) ?_
 refine l_e rfl (fun K hK => ?_)
 refine e_store1 hS30 rfl rfl (by kernel_rfl) (by first | rfl | assumption) (i := 0) rfl rfl (fun w33 (hS33 : St _ _ [.blk b6 (.cells #[.bool false, .int .u64 (d22 : Int), .int .u64 (d31 : Int), .int .u64 (0 : Int), .int .u64 (0 : Int), .int .u64 (0 : Int), .int .u64 (0 : Int)] 108), _, _, _] _) => ?_)
 clear hS30
 refine hK _ _ ?_; clear hK K
 refine l_nil ?_
 refine hK32 _ _ ?_
 refine wp_region_lit ?_
 refine l_q rfl rfl (q_moveI rfl) ?_
 refine l_q rfl rfl (q_shrN (k := .u64) (a := s31) (b := 32) rfl rfl (by decide)) ?_
 refine l_q rfl rfl (q_assignI rfl) ?_
 refine l_nil ?_
 generalize hc31 : (s31 / 2 ^ 32) = c31
 have hx31 : s31 = d31 + 4294967296 * c31 ∧ d31 < 4294967296 := by rw [← hd31, ← hc31]; omega
 rw [hq31] at hx31; clear hd31 hc31 hq31
 have hy31 : c31 ≤ 10000 := by omega
 have hz31 : c31 = 0 := by omega
 refine hK28 _ _ ?_
 refine wp_region_lit ?_
 refine l_q rfl rfl (q_moveI rfl) ?_
 refine l_q rfl rfl (q_addx rfl rfl (by first | decide | omega) (by first | decide | omega)) ?_
 refine l_q rfl rfl (q_assignI rfl) ?_
 refine l_nil ?_
 refine c_round ?_
 refine wp_seq_k (fun K34 hK34 => ?_)
 refine wp_seq_k (fun K35 hK35 => ?_)
 refine wp_region_lit ?_
 refine l_q rfl rfl (q_moveI rfl) ?_
 refine l_q rfl rfl (q_lss rfl rfl) ?_
 refine l_nil ?_
 refine hK35 _ _ ?_
 refine c_condT rfl (by decide) ?_
 refine wp_skip ?_
 refine hK34 _ _ ?_
 refine wp_seq_k (fun K37 hK37 => ?_)
 refine wp_block ?_
 refine wp_seq_k (fun K38 hK38 => ?_)
 refine r_any (by kernel_rfl) hS33 (fun w39 hS39 => ?_)
 clear hS33
 refine o_pure (i := 0) (fun _ _ => trivial) rfl rfl (by kernel_rfl) (goes0 rfl) (QOk.then (QOk.inBlock (QOk.then (QOk.then (QOk.inBlock (QOk.then (QOk.inBlock (QOk.then (QOk.then (QOk.inBlock (QOk.then QOk.body))))))))))) (fun w => q_moveI rfl) ?_
 refine o_pure (i := 1) (fun _ _ => trivial) rfl rfl (by kernel_rfl) (goes0 rfl) (QOk.then (QOk.inBlock (QOk.then (QOk.then (QOk.inBlock (QOk.then (QOk.inBlock (QOk.then (QOk.then (QOk.inBlock (QOk.then QOk.body))))))))))) (fun w => q_moveI rfl) ?_
 refine o_pure (i := 2) (fun _ _ => trivial) rfl rfl (by kernel_rfl) (goes0 rfl) (QOk.then (QOk.inBlock (QOk.then (QOk.then (QOk.inBlock (QOk.then (QOk.inBlock (QOk.then (QOk.then (QOk.inBlock (QOk.then QOk.body))))))))))) (fun w => q_addx rfl rfl (by first | decide | omega) (by first | decide | omega)) ?_
 refine o_pure (i := 3) (fun _ _ => trivial) rfl rfl (by kernel_rfl) (goes0 rfl) (QOk.then (QOk.inBlock (QOk.then (QOk.then (QOk.inBlock (QOk.then (QOk.inBlock (QOk.then (QOk.then (QOk.inBlock (QOk.then QOk.body))))))))))) (fun w => q_fieldAddr (ft := 106) (o := 1) rfl (by kernel_rfl)) ?_
 refine o_pure (i := 4) (fun _ _ => trivial) rfl rfl (by kernel_rfl) (goes0 rfl) (QOk.then (QOk.inBlock (QOk.then (QOk.then (QOk.inBlock (QOk.then (QOk.inBlock (QOk.then (QOk.then (QOk.inBlock (QOk.then QOk.body))))))))))) (fun w => q_indexAddrA (len := 6) (e := 105) (m := 1) rfl rfl (by kernel_rfl) (by kernel_rfl) (by decide) (by decide)) ?_
 refine o_held (i := 5) [15, 17, 18] (fun _ _ => trivial) rfl rfl (by kernel_rfl) (goes0 rfl) (QOk.then (QOk.inBlock (QOk.then (QOk.then (QOk.inBlock (QOk.then (QOk.inBlock (QOk.then (QOk.then (QOk.inBlock (QOk.then QOk.body))))))))))) (q_load1 rfl (by kernel_rfl) (hS39.cell (i := 0) rfl rfl)) ?_
 refine o_pure (i := 6) (fun j w => ⟨(fun _ _ => trivial) j w, fun _ h => h⟩) rfl rfl (by kernel_rfl) (goes0 rfl) (QOk.then (QOk.inBlock (QOk.then (QOk.then (QOk.inBlock (QOk.then (QOk.inBlock (QOk.then (QOk.then (QOk.inBlock (QOk.then QOk.body))))))))))) (fun w => q_moveI rfl) ?_
 refine o_pure (i := 7) (fun j w => ⟨(fun _ _ => trivial) j w, fun _ h => h⟩) rfl rfl (by kernel_rfl) (goes0 rfl) (QOk.then (QOk.inBlock (QOk.then (QOk.then (QOk.inBlock (QOk.then (QOk.inBlock (QOk.then (QOk.then (QOk.inBlock (QOk.then QOk.body))))))))))) (fun w => q_fieldAddr (ft := 106) (o := 1) rfl (by kernel_rfl)) ?_
 refine o_pure (i := 8) (fun j w => ⟨(fun _ _ => trivial) j w, fun _ h => h⟩) rfl rfl (by kernel_rfl) (goes0 rfl) (QOk.then (QOk.inBlock (QOk.then (QOk.then (QOk.inBlock (QOk.then (QOk.inBlock (QOk.then (QOk.then (QOk.inBlock (QOk.then QOk.body))))))))))) (fun w => q_indexAddrA (len := 6) (e := 105) (m := 1) rfl rfl (by kernel_rfl) (by kernel_rfl) (by decide) (by decide)) ?_
 refine o_held (i := 9) [14, 15, 17, 18] (fun j w => ⟨(fun _ _ => trivial) j w, fun _ h => h⟩) rfl rfl (by kernel_rfl) (goes0 rfl) (QOk.then (QOk.inBlock (QOk.then (QOk.then (QOk.inBlock (QOk.then (QOk.inBlock (QOk.then (QOk.then (QOk.inBlock (QOk.then QOk.body))))))))))) (q_load1 rfl (by kernel_rfl) (hS39.cell (i := 3) rfl rfl)) ?_
 refine o_pure (i := 10) (fun j w => ⟨(fun j w => ⟨(fun _ _ => trivial) j w, fun _ h => h⟩) j w, fun _ h => h⟩) rfl rfl (by kernel_rfl) (goes0 rfl) (QOk.then (QOk.inBlock (QOk.then (QOk.then (QOk.inBlock (QOk.then (QOk.inBlock (QOk.then (QOk.then (QOk.inBlock (QOk.then QOk.body))))))))))) (fun w => q_moveI rfl) ?_
 refine o_pure (i := 11) (fun j w => ⟨(fun j w => ⟨(fun _ _ => trivial) j w, fun _ h => h⟩) j w, fun _ h => h⟩) rfl rfl (by kernel_rfl) (goes0 rfl) (QOk.then (QOk.inBlock (QOk.then (QOk.then (QOk.inBlock (QOk.then (QOk.inBlock (QOk.then (QOk.then (QOk.inBlock (QOk.then QOk.body))))))))))) (fun w => q_fieldAddr (ft := 106) (o := 1) rfl (by kernel_rfl)) ?_
 refine o_pure (i := 12) (fun j w => ⟨(fun j w => ⟨(fun _ _ => trivial) j w, fun _ h => h⟩) j w, fun _ h => h⟩) rfl rfl (by kernel_rfl) (goes0 rfl) (QOk.then (QOk.inBlock (QOk.then (QOk.then (QOk.inBlock (QOk.then (QOk.inBlock (QOk.then (QOk.then (QOk.inBlock (QOk.then QOk.body))))))))))) (fun w => q_indexAddrA (len := 6) (e := 105) (m := 1) rfl rfl (by kernel_rfl) (by kernel_rfl) (by decide) (by decide)) ?_
 refine o_held (i := 13) [14, 15, 17, 18] (fun j w => ⟨(fun j w => ⟨(fun _ _ => trivial) j w, fun _ h => h⟩) j w, fun _ h => h⟩) rfl rfl (by kernel_rfl) (goes0 rfl) (QOk.then (QOk.inBlock (QOk.then (QOk.then (QOk.inBlock (QOk.then (QOk.inBlock (QOk.then (QOk.then (QOk.inBlock (QOk.then QOk.body))))))))))) (q_load1 rfl (by kernel_rfl) (hS39.cell (i := 2) rfl rfl)) ?_
 refine o_pure (i := 14) (fun j w => ⟨(fun j w => ⟨(fun j w => ⟨(fun _ _ => trivial) j w, fun _ h => h⟩) j w, fun _ h => h⟩) j w, fun _ h => h⟩) rfl rfl (by kernel_rfl) (goes0 rfl) (QOk.then (QOk.inBlock (QOk.then (QOk.then (QOk.inBlock (QOk.then (QOk.inBlock (QOk.then (QOk.then (QOk.inBlock (QOk.then QOk.body))))))))))) (fun w => u_mul (a := a0) (b := 0) (M := 18446744073709551616) rfl rfl rfl (by decide)) ?_
 refine o_pure (i := 15) (fun j w => ⟨(fun j w => ⟨(fun j w => ⟨(fun _ _ => trivial) j w, fun _ h => h⟩) j w, fun _ h => h⟩) j w, fun _ h => h⟩) rfl rfl (by kernel_rfl) (goes0 rfl) (QOk.then (QOk.inBlock (QOk.then (QOk.then (QOk.inBlock (QOk.then (QOk.inBlock (QOk.then (QOk.then (QOk.inBlock (QOk.then QOk.body))))))))))) (fun w => u_add (a := 0) (b := (a0 * 0 % 18446744073709551616)) (M := 18446744073709551616) rfl rfl rfl (by decide)) ?_
 refine o_pure (i := 16) (fun j w => ⟨(fun j w => ⟨(fun j w => ⟨(fun _ _ => trivial) j w, fun _ h => h⟩) j w, fun _ h => h⟩) j w, fun _ h => h⟩) rfl rfl (by kernel_rfl) (goes0 rfl) (QOk.then (QOk.inBlock (QOk.then (QOk.then (QOk.inBlock (QOk.then (QOk.inBlock (QOk.then (QOk.then (QOk.inBlock (QOk.then QOk.body))))))))))) (fun w => q_moveI rfl) ?_
 refine o_pure (i := 17) (fun j w => ⟨(fun j w => ⟨(fun j w => ⟨(fun _ _ => trivial) j w, fun _ h => h⟩) j w, fun _ h => h⟩) j w, fun _ h => h⟩) rfl rfl (by kernel_rfl) (goes0 rfl) (QOk.then (QOk.inBlock (QOk.then (QOk.then (QOk.inBlock (QOk.then (QOk.inBlock (QOk.then (QOk.then (QOk.inBlock (QOk.then QOk.body))))))))))) (fun w => u_add (a := ((0 + (a0 * 0 % 18446744073709551616)) % 18446744073709551616)) (b := c31) (M := 18446744073709551616) rfl rfl rfl (by decide)) ?_
 refine o_pure (i := 18) (fun j w => ⟨(fun j w => ⟨(fun j w => ⟨(fun _ _ => trivial) j w, fun _ h => h⟩) j w, fun _ h => h⟩) j w, fun _ h => h⟩) rfl rfl (by kernel_rfl) (goes0 rfl) (QOk.then (QOk.inBlock (QOk.then (QOk.then (QOk.inBlock (QOk.then (QOk.inBlock (QOk.then (QOk.then (QOk.inBlock (QOk.then QOk.body))))))))))) (fun w => q_assignI rfl) ?_
 refine o_done (by kernel_rfl) ?_
 have hq40 : ((((0 + (a0 * 0 % 18446744073709551616)) % 18446744073709551616) + c31) % 18446744073709551616) = 0 + a0 * 0 + c31 := by omega
 generalize ((((0 + (a0 * 0 % 18446744073709551616)) % 18446744073709551616) + c31) % 18446744073709551616) = s40 at hq40 ⊢
 refine hK38 _ _ ?_
 refine wp_seq_k (fun K41 hK41 => ?_)
 refine wp_region_lit ?_
 refine l_q rfl rfl (q_moveI rfl) ?_
 refine l_q rfl rfl (q_moveI rfl) ?_
 refine l_q rfl rfl (q_addx rfl rfl (by first | decide | omega) (by first | decide | omega)) ?_
 refine l_q rfl rfl (q_moveI rfl) ?_
 refine l_q rfl rfl (q_remN (a := s40) (b := 4294967296) rfl rfl (by first | decide | omega)) ?_
 generalize hd40 : s40 % 4294967296 = d40
 refine l_q rfl rfl (q_fieldAddr (ft := 106) (o := 1) rfl (by kernel_rfl)) ?_
 refine l_q rfl rfl (q_indexAddrA (len := 6) (e := 105) (m := 1) rfl rfl (by kernel_rfl) (by kernel_rfl) (by decide) (by decide)) ?_
 refine l_e rfl (fun K hK => ?_)
 refine e_store1 hS39 rfl rfl (by kernel_rfl) (by first | rfl | assumption) (i := 0) rfl rfl (fun w42 (hS42 : St _ _ [.blk b6 (.cells #[.bool false, .int .u64 (d22 : Int), .int .u64 (d31 : Int), .int .u64 (d40 : Int), .int .u64 (0 : Int), .int .u64 (0 : Int), .int .u64 (0 : Int)] 108), _, _, _] _) => ?_)
 clear hS39
 refine hK _ _ ?_; clear hK K
 refine l_nil ?_
 refine hK41 _ _ ?_
 refine wp_region_lit ?_
 refine l_q rfl rfl (q_moveI rfl) ?_
 refine l_q rfl rfl (q_shrN (k := .u64) (a := s40) (b := 32) rfl rfl (by decide)) ?_
 refine l_q rfl rfl (q_assignI rfl) ?_
 refine l_nil ?_
 generalize hc40 : (s40 / 2 ^ 32) = c40
 have hx40 : s40 = d40 + 4294967296 * c40 ∧ d40 < 4294967296 := by rw [← hd40, ← hc40]; omega
 rw [hq40] at hx40; clear hd40 hc40 hq40
 have hy40 : c40 ≤ 10000 := by omega
 have hz40 : c40 = 0 := by omega
 refine hK37 _ _ ?_
 refine wp_region_lit ?_
 refine l_q rfl rfl (q_moveI rfl) ?_
 refine l_q rfl rfl (q_addx rfl rfl (by first | decide | omega) (by first | decide | omega)) ?_
 refine l_q rfl rfl (q_assignI rfl) ?_
 refine l_nil ?_
 refine c_round ?_
 refine wp_seq_k (fun K43 hK43 => ?_)
 refine wp_seq_k (fun K44 hK44 => ?_)
 refine wp_region_lit ?_
 refine l_q rfl rfl (q_moveI rfl) ?_
 refine l_q rfl rfl (q_lss rfl rfl) ?_
 refine l_nil ?_
 refine hK44 _ _ ?_
 refine c_condF rfl (by decide) ?_
 refine wp_exit ?_
 refine hK14 _ _ ?_
 refine wp_seq_k (fun K46 hK46 => ?_)
 refine wp_region_lit ?_
 refine l_q rfl rfl (q_moveI rfl) ?_
 refine l_q rfl rfl (q_addx rfl rfl (by first | decide | omega) (by first | decide | omega)) ?_
 refine l_q rfl rfl (q_assignI rfl) ?_
 refine l_nil ?_
 refine hK46 _ _ ?_
 refine wp_block ?_
 refine c_rounds 1 ?_
 refine c_round ?_
 refine wp_seq_k (fun K47 hK47 => ?_)
 refine wp_seq_k (fun K48 hK48 => ?_)
 refine wp_region_lit ?_
 refine l_q rfl rfl (q_moveI rfl) ?_
 refine l_q rfl rfl (q_lss rfl rfl) ?_
 refine l_q rfl rfl (q_moveB rfl) ?_
 refine l_on rfl rfl (by decide) ?_
 refine l_q rfl rfl (q_moveI rfl) ?_
 refine l_on rfl rfl (by decide) ?_
 refine l_q rfl rfl (q_gtr rfl rfl) ?_
 refine l_q rfl rfl (q_pickT rfl (by decide) rfl) ?_
 refine l_nil ?_
 refine hK48 _ _ ?_
 refine c_cond rfl (fun hc49 => ?_) (fun hc49 => ?_)
 ·
  have hc49b := hc49
  try simp only [decide_eq_true_eq, decide_eq_false_iff_not, Bool.not_eq_true', Bool.not_eq_false', Bool.and_eq_true, Bool.or_eq_true, Int.not_lt, Int.not_le, ne_eq, Decidable.not_not] at hc49
  exfalso; first | omega | exact hc49 trivial
 ·
  have hc49b := hc49
  try simp only [decide_eq_true_eq, decide_eq_false_iff_not, Bool.not_eq_true', Bool.not_eq_false', Bool.and_eq_true, Bool.or_eq_true, Int.not_lt, Int.not_le, ne_eq, Decidable.not_not] at hc49
  refine wp_exit ?_
  refine hK12 _ _ ?_
  refine wp_region_lit ?_
  refine l_q rfl rfl (q_moveI rfl) ?_
  refine l_q rfl rfl (q_addx rfl rfl (by first | decide | omega) (by first | decide | omega)) ?_
  refine l_q rfl rfl (q_assignI rfl) ?_
  refine l_nil ?_
  refine c_round ?_
  refine wp_seq_k (fun K50 hK50 => ?_)
  refine wp_seq_k (fun K51 hK51 => ?_)
  refine wp_region_lit ?_
  refine l_q rfl rfl (q_moveI rfl) ?_
  refine l_q rfl rfl (q_lss rfl rfl) ?_
  refine l_nil ?_
  refine hK51 _ _ ?_
  refine c_condT rfl (by decide) ?_
  refine wp_skip ?_
  refine hK50 _ _ ?_
  refine wp_seq_k (fun K53 hK53 => ?_)
  refine wp_block ?_
  refine wp_seq_k (fun K54 hK54 => ?_)
  refine wp_region_lit ?_
  refine l_q rfl rfl (q_assignI rfl) ?_
  refine l_nil ?_
  refine hK54 _ _ ?_
  refine wp_seq_k (fun K55 hK55 => ?_)
  refine wp_seq_k (fun K56 hK56 => ?_)
  refine wp_region_lit ?_
  refine l_q rfl rfl (q_assignI rfl) ?_
  refine l_nil ?_
  refine hK56 _ _ ?_
  refine wp_block ?_
  refine c_rounds 4 ?_
  refine c_round ?_
  refine wp_seq_k (fun K57 hK57 => ?_)
  refine wp_seq_k (fun K58 hK58 => ?_)
  refine wp_region_lit ?_
  refine l_q rfl rfl (q_moveI rfl) ?_
  refine l_q rfl rfl (q_lss rfl rfl) ?_
  refine l_nil ?_
  refine hK58 _ _ ?_
  refine c_condT rfl (by decide) ?_
  refine wp_skip ?_
  refine hK57 _ _ ?_
  refine wp_seq_k (fun K60 hK60 => ?_)
  refine wp_block ?_
  refine wp_seq_k (fun K61 hK61 => ?_)
  refine r_any (by kernel_rfl) hS42 (fun w62 hS62 => ?_)
  clear hS42
  refine o_pure (i := 0) (fun _ _ => trivial) rfl rfl (by kernel_rfl) (goes0 rfl) (QOk.then (QOk.inBlock (QOk.then (QOk.then (QOk.inBlock (QOk.then (QOk.inBlock (QOk.then (QOk.then (QOk.inBlock (QOk.then QOk.body))))))))))) (fun w => q_moveI rfl) ?_
  refine o_pure (i := 1) (fun _ _ => trivial) rfl rfl (by kernel_rfl) (goes0 rfl) (QOk.then (QOk.inBlock (QOk.then (QOk.then (QOk.inBlock (QOk.then (QOk.inBlock (QOk.then (QOk.then (QOk.inBlock (QOk.then QOk.body))))))))))) (fun w => q_moveI rfl) ?_
  refine o_pure (i := 2) (fun _ _ => trivial) rfl rfl (by kernel_rfl) (goes0 rfl) (QOk.then (QOk.inBlock (QOk.then (QOk.then (QOk.inBlock (QOk.then (QOk.inBlock (QOk.then (QOk.then (QOk.inBlock (QOk.then QOk.body))))))))))) (fun w => q_addx rfl rfl (by first | decide | omega) (by first | decide | omega)) ?_
  refine o_pure (i := 3) (fun _ _ => trivial) rfl rfl (by kernel_rfl) (goes0 rfl) (QOk.then (QOk.inBlock (QOk.then (QOk.then (QOk.inBlock (QOk.then (QOk.inBlock (QOk.then (QOk.then (QOk.inBlock (QOk.then QOk.body))))))))))) (fun w => q_fieldAddr (ft := 106) (o := 1) rfl (by kernel_rfl)) ?_
  refine o_pure (i := 4) (fun _ _ => trivial) rfl rfl (by kernel_rfl) (goes0 rfl) (QOk.then (QOk.inBlock (QOk.then (QOk.then (QOk.inBlock (QOk.then (QOk.inBlock (QOk.then (QOk.then (QOk.inBlock (QOk.then QOk.body))))))))))) (fun w => q_indexAddrA (len := 6) (e := 105) (m := 1) rfl rfl (by kernel_rfl) (by kernel_rfl) (by decide) (by decide)) ?_
  refine o_held (i := 5) [15, 17, 18] (fun _ _ => trivial) rfl rfl (by kernel_rfl) (goes0 rfl) (QOk.then (QOk.inBlock (QOk.then (QOk.then (QOk.inBlock (QOk.then (QOk.inBlock (QOk.then (QOk.then (QOk.inBlock (QOk.then QOk.body))))))))))) (q_load1 rfl (by kernel_rfl) (hS62.cell (i := 0) rfl rfl)) ?_
  refine o_pure (i := 6) (fun j w => ⟨(fun _ _ => trivial) j w, fun _ h => h⟩) rfl rfl (by kernel_rfl) (goes0 rfl) (QOk.then (QOk.inBlock (QOk.then (QOk.then (QOk.inBlock (QOk.then (QOk.inBlock (QOk.then (QOk.then (QOk.inBlock (QOk.then QOk.body))))))))))) (fun w => q_moveI rfl) ?_
  refine o_pure (i := 7) (fun j w => ⟨(fun _ _ => trivial) j w, fun _ h => h⟩) rfl rfl (by kernel_rfl) (goes0 rfl) (QOk.then (QOk.inBlock (QOk.then (QOk.then (QOk.inBlock (QOk.then (QOk.inBlock (QOk.then (QOk.then (QOk.inBlock (QOk.then QOk.body))))))))))) (fun w => q_fieldAddr (ft := 106) (o := 1) rfl (by kernel_rfl)) ?_
  refine o_pure (i := 8) (fun j w => ⟨(fun _ _ => trivial) j w, fun _ h => h⟩) rfl rfl (by kernel_rfl) (goes0 rfl) (QOk.then (QOk.inBlock (QOk.then (QOk.then (QOk.inBlock (QOk.then (QOk.inBlock (QOk.then (QOk.then (QOk.inBlock (QOk.then QOk.body))))))))))) (fun w => q_indexAddrA (len := 6) (e := 105) (m := 1) rfl rfl (by kernel_rfl) (by kernel_rfl) (by decide) (by decide)) ?_
  refine o_held (i := 9) [14, 15, 17, 18] (fun j w => ⟨(fun _ _ => trivial) j w, fun _ h => h⟩) rfl rfl (by kernel_rfl) (goes0 rfl) (QOk.then (QOk.inBlock (QOk.then (QOk.then (QOk.inBlock (QOk.then (QOk.inBlock (QOk.then (QOk.then (QOk.inBlock (QOk.then QOk.body))))))))))) (q_load1 rfl (by kernel_rfl) (hS62.cell (i := 3) rfl rfl)) ?_
  refine o_pure (i := 10) (fun j w => ⟨(fun j w => ⟨(fun _ _ => trivial) j w, fun _ h => h⟩) j w, fun _ h => h⟩) rfl rfl (by kernel_rfl) (goes0 rfl) (QOk.then (QOk.inBlock (QOk.then (QOk.then (QOk.inBlock (QOk.then (QOk.inBlock (QOk.then (QOk.then (QOk.inBlock (QOk.then QOk.body))))))))))) (fun w => q_moveI rfl) ?_
  refine o_pure (i := 11) (fun j w => ⟨(fun j w => ⟨(fun _ _ => trivial) j w, fun _ h => h⟩) j w, fun _ h => h⟩) rfl rfl (by kernel_rfl) (goes0 rfl) (QOk.then (QOk.inBlock (QOk.then (QOk.then (QOk.inBlock (QOk.then (QOk.inBlock (QOk.then (QOk.then (QOk.inBlock (QOk.then QOk.body))))))))))) (fun w => q_fieldAddr (ft := 106) (o := 1) rfl (by kernel_rfl)) ?_
  refine o_pure (i := 12) (fun j w => ⟨(fun j w => ⟨(fun _ _ => trivial) j w, fun _ h => h⟩) j w, fun _ h => h⟩) rfl rfl (by kernel_rfl) (goes0 rfl) (QOk.then (QOk.inBlock (QOk.then (QOk.then (QOk.inBlock (QOk.then (QOk.inBlock (QOk.then (QOk.then (QOk.inBlock (QOk.then QOk.body))))))))))) (fun w => q_indexAddrA (len := 6) (e := 105) (m := 1) rfl rfl (by kernel_rfl) (by kernel_rfl) (by decide) (by decide)) ?_
  refine o_held (i := 13) [14, 15, 17, 18] (fun j w => ⟨(fun j w => ⟨(fun _ _ => trivial) j w, fun _ h => h⟩) j w, fun _ h => h⟩) rfl rfl (by kernel_rfl) (goes0 rfl) (QOk.then (QOk.inBlock (QOk.then (QOk.then (QOk.inBlock (QOk.then (QOk.inBlock (QOk.then (QOk.then (QOk.inBlock (QOk.then QOk.body))))))))))) (q_load1 rfl (by kernel_rfl) (hS62.cell (i := 2) rfl rfl)) ?_
  refine o_pure (i := 14) (fun j w => ⟨(fun j w => ⟨(fun j w => ⟨(fun _ _ => trivial) j w, fun _ h => h⟩) j w, fun _ h => h⟩) j w, fun _ h => h⟩) rfl rfl (by kernel_rfl) (goes0 rfl) (QOk.then (QOk.inBlock (QOk.then (QOk.then (QOk.inBlock (QOk.then (QOk.inBlock (QOk.then (QOk.then (QOk.inBlock (QOk.then QOk.body))))))))))) (fun w => u_mul (a := a1) (b := 10000) (M := 18446744073709551616) rfl rfl rfl (by decide)) ?_
  refine o_pure (i := 15) (fun j w => ⟨(fun j w => ⟨(fun j w => ⟨(fun _ _ => trivial) j w, fun _ h => h⟩) j w, fun _ h => h⟩) j w, fun _ h => h⟩) rfl rfl (by kernel_rfl) (goes0 rfl) (QOk.then (QOk.inBlock (QOk.then (QOk.then (QOk.inBlock (QOk.then (QOk.inBlock (QOk.then (QOk.then (QOk.inBlock (QOk.then QOk.body))))))))))) (fun w => u_add (a := d31) (b := (a1 * 10000 % 18446744073709551616)) (M := 18446744073709551616) rfl rfl rfl (by decide)) ?_
  refine o_pure (i := 16) (fun j w => ⟨(fun j w => ⟨(fun j w => ⟨(fun _ _ => trivial) j w, fun _ h => h⟩) j w, fun _ h => h⟩) j w, fun _ h => h⟩) rfl rfl (by kernel_rfl) (goes0 rfl) (QOk.then (QOk.inBlock (QOk.then (QOk.then (QOk.inBlock (QOk.then (QOk.inBlock (QOk.then (QOk.then (QOk.inBlock (QOk.then QOk.body))))))))))) (fun w => q_moveI rfl) ?_
  refine o_pure (i := 17) (fun j w => ⟨(fun j w => ⟨(fun j w => ⟨(fun _ _ => trivial) j w, fun _ h => h⟩) j w, fun _ h => h⟩) j w, fun _ h => h⟩) rfl rfl (by kernel_rfl) (goes0 rfl) (QOk.then (QOk.inBlock (QOk.then (QOk.then (QOk.inBlock (QOk.then (QOk.inBlock (QOk.then (QOk.then (QOk.inBlock (QOk.then QOk.body))))))))))) (fun w => u_add (a := ((d31 + (a1 * 10000 % 18446744073709551616)) % 18446744073709551616)) (b := 0) (M := 18446744073709551616) rfl rfl rfl (by decide)) ?_
  refine o_pure (i := 18) (fun j w => ⟨(fun j w => ⟨(fun j w => ⟨(fun _ _ => trivial) j w, fun _ h => h⟩) j w, fun _ h => h⟩) j w, fun _ h => h⟩) rfl rfl (by kernel_rfl) (goes0 rfl) (QOk.then (QOk.inBlock (QOk.then (QOk.then (QOk.inBlock (QOk.then (QOk.inBlock (QOk.then (QOk.then (QOk.inBlock (QOk.then QOk.body))))))))))) (fun w => q_assignI rfl) ?_
  refine o_done (by kernel_rfl) ?_
  have hq63 : ((((d31 + (a1 * 10000 % 18446744073709551616)) % 18446744073709551616) + 0) % 18446744073709551616) = d31 + a1 * 10000 + 0 := by omega
  generalize ((((d31 + (a1 * 10000 % 18446744073709551616)) % 18446744073709551616) + 0) % 18446744073709551616) = s63 at hq63 ⊢
  refine hK61 _ _ ?_
  refine wp_seq_k (fun K64 hK64 => ?_)
  refine wp_region_lit ?_
  refine l_q rfl rfl (q_moveI rfl) ?_
  refine l_q rfl rfl (q_moveI rfl) ?_
  refine l_q rfl rfl (q_addx rfl rfl (by first | decide | omega) (by first | decide | omega)) ?_
  refine l_q rfl rfl (q_moveI rfl) ?_
  refine l_q rfl rfl (q_remN (a := s63) (b := 4294967296) rfl rfl (by first | decide | omega)) ?_
  generalize hd63 : s63 % 4294967296 = d63
  refine l_q rfl rfl (q_fieldAddr (ft := 106) (o := 1) rfl (by kernel_rfl)) ?_
  refine l_q rfl rfl (q_indexAddrA (len := 6) (e := 105) (m := 1) rfl rfl (by kernel_rfl) (by kernel_rfl) (by decide) (by decide)) ?_
  refine l_e rfl (fun K hK => ?_)
  refine e_store1 hS62 rfl rfl (by kernel_rfl) (by first | rfl | assumption) (i := 0) rfl rfl (fun w65 (hS65 : St _ _ [.blk b6 (.cells #[.bool false, .int .u64 (d22 : Int), .int .u64 (d63 : Int), .int .u64 (d40 : Int), .int .u64 (0 : Int), .int .u64 (0 : Int), .int .u64 (0 : Int)] 108), _, _, _] _) => ?_)
  clear hS62
  refine hK _ _ ?_; clear hK K
  refine l_nil ?_
  refine hK64 _ _ ?_
  refine wp_region_lit ?_
  refine l_q rfl rfl (q_moveI rfl) ?_
  refine l_q rfl rfl (q_shrN (k := .u64) (a := s63) (b := 32) rfl rfl (by decide)) ?_
  refine l_q rfl rfl (q_assignI rfl) ?_
  refine l_nil ?_
  generalize hc63 : (s63 / 2 ^ 32) = c63
  have hx63 : s63 = d63 + 4294967296 * c63 ∧ d63 < 4294967296 := by rw [← hd63, ← hc63]; omega
  rw [hq63] at hx63; clear hd63 hc63 hq63
  have hy63 : c63 ≤ 10000 := by omega
  refine hK60 _ _ ?_
  refine wp_region_lit ?_
  refine l_q rfl rfl (q_moveI rfl) ?_
  refine l_q rfl rfl (q_addx rfl rfl (by first | decide | omega) (by first | decide | omega)) ?_
  refine l_q rfl rfl (q_assignI rfl) ?_
  refine l_nil ?_
  refine c_round ?_
  refine wp_seq_k (fun K66 hK66 => ?_)
  refine wp_seq_k (fun K67 hK67 => ?_)
  refine wp_region_lit ?_
  refine l_q rfl rfl (q_moveI rfl) ?_
  refine l_q rfl rfl (q_lss rfl rfl) ?_
  refine l_nil ?_
  refine hK67 _ _ ?_
  refine c_condT rfl (by decide) ?_
  refine wp_skip ?_
  refine hK66 _ _ ?_
  refine wp_seq_k (fun K69 hK69 => ?_)
  refine wp_block ?_
  refine wp_seq_k (fun K70 hK70 => ?_)
  refine r_any (by kernel_rfl) hS65 (fun w71 hS71 => ?_)
  clear hS65
  refine o_pure (i := 0) (fun _ _ => trivial) rfl rfl (by kernel_rfl) (goes0 rfl) (QOk.then (QOk.inBlock (QOk.then (QOk.then (QOk.inBlock (QOk.then (QOk.inBlock (QOk.then (QOk.then (QOk.inBlock (QOk.then QOk.body))))))))))) (fun w => q_moveI rfl) ?_
  refine o_pure (i := 1) (fun _ _ => trivial) rfl rfl (by kernel_rfl) (goes0 rfl) (QOk.then (QOk.inBlock (QOk.then (QOk.then (QOk.inBlock (QOk.then (QOk.inBlock (QOk.then (QOk.then (QOk.inBlock (QOk.then QOk.body))))))))))) (fun w => q_moveI rfl) ?_
  refine o_pure (i := 2) (fun _ _ => trivial) rfl rfl (by kernel_rfl) (goes0 rfl) (QOk.then (QOk.inBlock (QOk.then (QOk.then (QOk.inBlock (QOk.then (QOk.inBlock (QOk.then (QOk.then (QOk.inBlock (QOk.then QOk.body))))))))))) (fun w => q_addx rfl rfl (by first | decide | omega) (by first | decide | omega)) ?_
  refine o_pure (i := 3) (fun _ _ => trivial) rfl rfl (by kernel_rfl) (goes0 rfl) (QOk.then (QOk.inBlock (QOk.then (QOk.then (QOk.inBlock (QOk.then (QOk.inBlock (QOk.then (QOk.then (QOk.inBlock (QOk.then QOk.body))))))))))) (fun w => q_fieldAddr (ft := 106) (o := 1) rfl (by kernel_rfl)) ?_
  refine o_pure (i := 4) (fun _ _ => trivial) rfl rfl (by kernel_rfl) (goes0 rfl) (QOk.then (QOk.inBlock (QOk.then (QOk.then (QOk.inBlock (QOk.then (QOk.inBlock (QOk.then (QOk.then (QOk.inBlock (QOk.then QOk.body))))))))))) (fun w => q_indexAddrA (len := 6) (e := 105) (m := 1) rfl rfl (by kernel_rfl) (by kernel_rfl) (by decide) (by decide)) ?_
  refine o_held (i := 5) [15, 17, 18] (fun _ _ => trivial) rfl rfl (by kernel_rfl) (goes0 rfl) (QOk.then (QOk.inBlock (QOk.then (QOk.then (QOk.inBlock (QOk.then (QOk.inBlock (QOk.then (QOk.then (QOk.inBlock (QOk.then QOk.body))))))))))) (q_load1 rfl (by kernel_rfl) (hS71.cell (i := 0) rfl rfl)) ?_
  refine o_pure (i := 6) (fun j w => ⟨(fun _ _ => trivial) j w, fun _ h => h⟩) rfl rfl (by kernel_rfl) (goes0 rfl) (QOk.then (QOk.inBlock (QOk.then (QOk.then (QOk.inBlock (QOk.then (QOk.inBlock (QOk.then (QOk.then (QOk.inBlock (QOk.then QOk.body))))))))))) (fun w => q_moveI rfl) ?_
  refine o_pure (i := 7) (fun j w => ⟨(fun _ _ => trivial) j w, fun _ h => h⟩) rfl rfl (by kernel_rfl) (goes0 rfl) (QOk.then (QOk.inBlock (QOk.then (QOk.then (QOk.inBlock (QOk.then (QOk.inBlock (QOk.then (QOk.then (QOk.inBlock (QOk.then QOk.body))))))))))) (fun w => q_fieldAddr (ft := 106) (o := 1) rfl (by kernel_rfl)) ?_
  refine o_pure (i := 8) (fun j w => ⟨(fun _ _ => trivial) j w, fun _ h => h⟩) rfl rfl (by kernel_rfl) (goes0 rfl) (QOk.then (QOk.inBlock (QOk.then (QOk.then (QOk.inBlock (QOk.then (QOk.inBlock (QOk.then (QOk.then (QOk.inBlock (QOk.then QOk.body))))))))))) (fun w => q_indexAddrA (len := 6) (e := 105) (m := 1) rfl rfl (by kernel_rfl) (by kernel_rfl) (by decide) (by decide)) ?_
  refine o_held (i := 9) [14, 15, 17, 18] (fun j w => ⟨(fun _ _ => trivial) j w, fun _ h => h⟩) rfl rfl (by kernel_rfl) (goes0 rfl) (QOk.then (QOk.inBlock (QOk.then (QOk.then (QOk.inBlock (QOk.then (QOk.inBlock (QOk.then (QOk.then (QOk.inBlock (QOk.then QOk.body))))))))))) (q_load1 rfl (by kernel_rfl) (hS71.cell (i := 3) rfl rfl)) ?_
  refine o_pure (i := 10) (fun j w => ⟨(fun j w => ⟨(fun _ _ => trivial) j w, fun _ h => h⟩) j w, fun _ h => h⟩) rfl rfl (by kernel_rfl) (goes0 rfl) (QOk.then (QOk.inBlock (QOk.then (QOk.then (QOk.inBlock (QOk.then (QOk.inBlock (QOk.then (QOk.then (QOk.inBlock (QOk.then QOk.body))))))))))) (fun w => q_moveI rfl) ?_
  refine o_pure (i := 11) (fun j w => ⟨(fun j w => ⟨(fun _ _ => trivial) j w, fun _ h => h⟩) j w, fun _ h => h⟩) rfl rfl (by kernel_rfl) (goes0 rfl) (QOk.then (QOk.inBlock (QOk.then (QOk.then (QOk.inBlock (QOk.then (QOk.inBlock (QOk.then (QOk.then (QOk.inBlock (QOk.then QOk.body))))))))))) (fun w => q_fieldAddr (ft := 106) (o := 1) rfl (by kernel_rfl)) ?_
  refine o_pure (i := 12) (fun j w => ⟨(fun j w => ⟨(fun _ _ => trivial) j w, fun _ h => h⟩) j w, fun _ h => h⟩) rfl rfl (by kernel_rfl) (goes0 rfl) (QOk.then (QOk.inBlock (QOk.then (QOk.then (QOk.inBlock (QOk.then (QOk.inBlock (QOk.then (QOk.then (QOk.inBlock (QOk.then QOk.body))))))))))) (fun w => q_indexAddrA (len := 6) (e := 105) (m := 1) rfl rfl (by kernel_rfl) (by kernel_rfl) (by decide) (by decide)) ?_
  refine o_held (i := 13) [14, 15, 17, 18] (fun j w => ⟨(fun j w => ⟨(fun _ _ => trivial) j w, fun _ h => h⟩) j w, fun _ h => h⟩) rfl rfl (by kernel_rfl) (goes0 rfl) (QOk.then (QOk.inBlock (QOk.then (QOk.then (QOk.inBlock (QOk.then (QOk.inBlock (QOk.then (QOk.then (QOk.inBlock (QOk.then QOk.body))))))))))) (q_load1 rfl (by kernel_rfl) (hS71.cell (i := 2) rfl rfl)) ?_
  refine o_pure (i := 14) (fun j w => ⟨(fun j w => ⟨(fun j w => ⟨(fun _ _ => trivial) j w, fun _ h => h⟩) j w, fun _ h => h⟩) j w, fun _ h => h⟩) rfl rfl (by kernel_rfl) (goes0 rfl) (QOk.then (QOk.inBlock (QOk.then (QOk.then (QOk.inBlock (QOk.then (QOk.inBlock (QOk.then (QOk.then (QOk.inBlock (QOk.then QOk.body))))))))))) (fun w => u_mul (a := a1) (b := 0) (M := 18446744073709551616) rfl rfl rfl (by decide)) ?_
  refine o_pure (i := 15) (fun j w => ⟨(fun j w => ⟨(fun j w => ⟨(fun _ _ => trivial) j w, fun _ h => h⟩) j w, fun _ h => h⟩) j w, fun _ h => h⟩) rfl rfl (by kernel_rfl) (goes0 rfl) (QOk.then (QOk.inBlock (QOk.then (QOk.then (QOk.inBlock (QOk.then (QOk.inBlock (QOk.then (QOk.then (QOk.inBlock (QOk.then QOk.body))))))))))) (fun w => u_add (a := d40) (b := (a1 * 0 % 18446744073709551616)) (M := 18446744073709551616) rfl rfl rfl (by decide)) ?_
  refine o_pure (i := 16) (fun j w => ⟨(fun j w => ⟨(fun j w => ⟨(fun _ _ => trivial) j w, fun _ h => h⟩) j w, fun _ h => h⟩) j w, fun _ h => h⟩) rfl rfl (by kernel_rfl) (goes0 rfl) (QOk.then (QOk.inBlock (QOk.then (QOk.then (QOk.inBlock (QOk.then (QOk.inBlock (QOk.then (QOk.then (QOk.inBlock (QOk.then QOk.body))))))))))) (fun w => q_moveI rfl) ?_
  refine o_pure (i := 17) (fun j w => ⟨(fun j w => ⟨(fun j w => ⟨(fun _ _ => trivial) j w, fun _ h => h⟩) j w, fun _ h => h⟩) j w, fun _ h => h⟩) rfl rfl (by kernel_rfl) (goes0 rfl) (QOk.then (QOk.inBlock (QOk.then (QOk.then (QOk.inBlock (QOk.then (QOk.inBlock (QOk.then (QOk.then (QOk.inBlock (QOk.then QOk.body))))))))))) (fun w => u_add (a := ((d40 + (a1 * 0 % 18446744073709551616)) % 18446744073709551616)) (b := c63) (M := 18446744073709551616) rfl rfl rfl (by decide)) ?_
  refine o_pure (i := 18) (fun j w => ⟨(fun j w => ⟨(fun j w => ⟨(fun _ _ => trivial) j w, fun _ h => h⟩) j w, fun _ h => h⟩) j w, fun _ h => h⟩) rfl rfl (by kernel_rfl) (goes0 rfl) (QOk.then (QOk.inBlock (QOk.then (QOk.then (QOk.inBlock (QOk.then (QOk.inBlock (QOk.then (QOk.then (QOk.inBlock (QOk.then QOk.body))))))))))) (fun w => q_assignI rfl) ?_
  refine o_done (by kernel_rfl) ?_
  have hq72 : ((((d40 + (a1 * 0 % 18446744073709551616)) % 18446744073709551616) + c63) % 18446744073709551616) = d40 + a1 * 0 + c63 := by omega
  generalize ((((d40 + (a1 * 0 % 18446744073709551616)) % 18446744073709551616) + c63) % 18446744073709551616) = s72 at hq72 ⊢
  refine hK70 _ _ ?_
  refine wp_seq_k (fun K73 hK73 => ?_)
  refine wp_region_lit ?_
  refine l_q rfl rfl (q_moveI rfl) ?_
  refine l_q rfl rfl (q_moveI rfl) ?_
  refine l_q rfl rfl (q_addx rfl rfl (by first | decide | omega) (by first | decide | omega)) ?_
  refine l_q rfl rfl (q_moveI rfl) ?_
  refine l_q rfl rfl (q_remN (a := s72) (b := 4294967296) rfl rfl (by first | decide | omega)) ?_
  generalize hd72 : s72 % 4294967296 = d72
  refine l_q rfl rfl (q_fieldAddr (ft := 106) (o := 1) rfl (by kernel_rfl)) ?_
  refine l_q rfl rfl (q_indexAddrA (len := 6) (e := 105) (m := 1) rfl rfl (by kernel_rfl) (by kernel_rfl) (by decide) (by decide)) ?_
  refine l_e rfl (fun K hK => ?_)
  refine e_store1 hS71 rfl rfl (by kernel_rfl) (by first | rfl | assumption) (i := 0) rfl rfl (fun w74 (hS74 : St _ _ [.blk b6 (.cells #[.bool false, .int .u64 (d22 : Int), .int .u64 (d63 : Int), .int .u64 (d72 : Int), .int .u64 (0 : Int), .int .u64 (0 : Int), .int .u64 (0 : Int)] 108), _, _, _] _) => ?_)
  clear hS71
  refine hK _ _ ?_; clear hK K
  refine l_nil ?_
  refine hK73 _ _ ?_
  refine wp_region_lit ?_
  refine l_q rfl rfl (q_moveI rfl) ?_
  refine l_q rfl rfl (q_shrN (k := .u64) (a := s72) (b := 32) rfl rfl (by decide)) ?_
  refine l_q rfl rfl (q_assignI rfl) ?_
  refine l_nil ?_
  generalize hc72 : (s72 / 2 ^ 32) = c72
  have hx72 : s72 = d72 + 4294967296 * c72 ∧ d72 < 4294967296 := by rw [← hd72, ← hc72]; omega
  rw [hq72] at hx72; clear hd72 hc72 hq72
  have hy72 : c72 ≤ 10000 := by omega
  have hz72 : c72 = 0 := by omega
  refine hK69 _ _ ?_
  refine wp_region_lit ?_
  refine l_q rfl rfl (q_moveI rfl) ?_
  refine l_q rfl rfl (q_addx rfl rfl (by first | decide | omega) (by first | decide | omega)) ?_
  refine l_q rfl rfl (q_assignI rfl) ?_
  refine l_nil ?_
  refine c_round ?_
  refine wp_seq_k (fun K75 hK75 => ?_)
  refine wp_seq_k (fun K76 hK76 => ?_)
  refine wp_region_lit ?_
  refine l_q rfl rfl (q_moveI rfl) ?_
  refine l_q rfl rfl (q_lss rfl rfl) ?_
  refine l_nil ?_
  refine hK76 _ _ ?_
  refine c_condT rfl (by decide) ?_
  refine wp_skip ?_
  refine hK75 _ _ ?_
  refine wp_seq_k (fun K78 hK78 => ?_)
  refine wp_block ?_
  refine wp_seq_k (fun K79 hK79 => ?_)
  refine r_any (by kernel_rfl) hS74 (fun w80 hS80 => ?_)
  clear hS74
  refine o_pure (i := 0) (fun _ _ => trivial) rfl rfl (by kernel_rfl) (goes0 rfl) (QOk.then (QOk.inBlock (QOk.then (QOk.then (QOk.inBlock (QOk.then (QOk.inBlock (QOk.then (QOk.then (QOk.inBlock (QOk.then QOk.body))))))))))) (fun w => q_moveI rfl) ?_
  refine o_pure (i := 1) (fun _ _ => trivial) rfl rfl (by kernel_rfl) (goes0 rfl) (QOk.then (QOk.inBlock (QOk.then (QOk.then (QOk.inBlock (QOk.then (QOk.inBlock (QOk.then (QOk.then (QOk.inBlock (QOk.then QOk.body))))))))))) (fun w => q_moveI rfl) ?_
  refine o_pure (i := 2) (fun _ _ => trivial) rfl rfl (by kernel_rfl) (goes0 rfl) (QOk.then (QOk.inBlock (QOk.then (QOk.then (QOk.inBlock (QOk.then (QOk.inBlock (QOk.then (QOk.then (QOk.inBlock (QOk.then QOk.body))))))))))) (fun w => q_addx rfl rfl (by first | decide | omega) (by first | decide | omega)) ?_
  refine o_pure (i := 3) (fun _ _ => trivial) rfl rfl (by kernel_rfl) (goes0 rfl) (QOk.then (QOk.inBlock (QOk.then (QOk.then (QOk.inBlock (QOk.then (QOk.inBlock (QOk.then (QOk.then (QOk.inBlock (QOk.then QOk.body))))))))))) (fun w => q_fieldAddr (ft := 106) (o := 1) rfl (by kernel_rfl)) ?_
  refine o_pure (i := 4) (fun _ _ => trivial) rfl rfl (by kernel_rfl) (goes0 rfl) (QOk.then (QOk.inBlock (QOk.then (QOk.then (QOk.inBlock (QOk.then (QOk.inBlock (QOk.then (QOk.then (QOk.inBlock (QOk.then QOk.body))))))))))) (fun w => q_indexAddrA (len := 6) (e := 105) (m := 1) rfl rfl (by kernel_rfl) (by kernel_rfl) (by decide) (by decide)) ?_
  refine o_held (i := 5) [15, 17, 18] (fun _ _ => trivial) rfl rfl (by kernel_rfl) (goes0 rfl) (QOk.then (QOk.inBlock (QOk.then (QOk.then (QOk.inBlock (QOk.then (QOk.inBlock (QOk.then (QOk.then (QOk.inBlock (QOk.then QOk.body))))))))))) (q_load1 rfl (by kernel_rfl) (hS80.cell (i := 0) rfl rfl)) ?_
  refine o_pure (i := 6) (fun j w => ⟨(fun _ _ => trivial) j w, fun _ h => h⟩) rfl rfl (by kernel_rfl) (goes0 rfl) (QOk.then (QOk.inBlock (QOk.then (QOk.then (QOk.inBlock (QOk.then (QOk.inBlock (QOk.then (QOk.then (QOk.inBlock (QOk.then QOk.body))))))))))) (fun w => q_moveI rfl) ?_
  refine o_pure (i := 7) (fun j w => ⟨(fun _ _ => trivial) j w, fun _ h => h⟩) rfl rfl (by kernel_rfl) (goes0 rfl) (QOk.then (QOk.inBlock (QOk.then (QOk.then (QOk.inBlock (QOk.then (QOk.inBlock (QOk.then (QOk.then (QOk.inBlock (QOk.then QOk.body))))))))))) (fun w => q_fieldAddr (ft := 106) (o := 1) rfl (by kernel_rfl)) ?_
  refine o_pure (i := 8) (fun j w => ⟨(fun _ _ => trivial) j w, fun _ h => h⟩) rfl rfl (by kernel_rfl) (goes0 rfl) (QOk.then (QOk.inBlock (QOk.then (QOk.then (QOk.inBlock (QOk.then (QOk.inBlock (QOk.then (QOk.then (QOk.inBlock (QOk.then QOk.body))))))))))) (fun w => q_indexAddrA (len := 6) (e := 105) (m := 1) rfl rfl (by kernel_rfl) (by kernel_rfl) (by decide) (by decide)) ?_
  refine o_held (i := 9) [14, 15, 17, 18] (fun j w => ⟨(fun _ _ => trivial) j w, fun _ h => h⟩) rfl rfl (by kernel_rfl) (goes0 rfl) (QOk.then (QOk.inBlock (QOk.then (QOk.then (QOk.inBlock (QOk.then (QOk.inBlock (QOk.then (QOk.then (QOk.inBlock (QOk.then QOk.body))))))))))) (q_load1 rfl (by kernel_rfl) (hS80.cell (i := 3) rfl rfl)) ?_
  refine o_pure (i := 10) (fun j w => ⟨(fun j w => ⟨(fun _ _ => trivial) j w, fun _ h => h⟩) j w, fun _ h => h⟩) rfl rfl (by kernel_rfl) (goes0 rfl) (QOk.then (QOk.inBlock (QOk.then (QOk.then (QOk.inBlock (QOk.then (QOk.inBlock (QOk.then (QOk.then (QOk.inBlock (QOk.then QOk.body))))))))))) (fun w => q_moveI rfl) ?_
  refine o_pure (i := 11) (fun j w => ⟨(fun j w => ⟨(fun _ _ => trivial) j w, fun _ h => h⟩) j w, fun _ h => h⟩) rfl rfl (by kernel_rfl) (goes0 rfl) (QOk.then (QOk.inBlock (QOk.then (QOk.then (QOk.inBlock (QOk.then (QOk.inBlock (QOk.then (QOk.then (QOk.inBlock (QOk.then QOk.body))))))))))) (fun w => q_fieldAddr (ft := 106) (o := 1) rfl (by kernel_rfl)) ?_
  refine o_pure (i := 12) (fun j w => ⟨(fun j w => ⟨(fun _ _ => trivial) j w, fun _ h => h⟩) j w, fun _ h => h⟩) rfl rfl (by kernel_rfl) (goes0 rfl) (QOk.then (QOk.inBlock (QOk.then (QOk.then (QOk.inBlock (QOk.then (QOk.inBlock (QOk.then (QOk.then (QOk.inBlock (QOk.then QOk.body))))))))))) (fun w => q_indexAddrA (len := 6) (e := 105) (m := 1) rfl rfl (by kernel_rfl) (by kernel_rfl) (by decide) (by decide)) ?_
  refine o_held (i := 13) [14, 15, 17, 18] (fun j w => ⟨(fun j w => ⟨(fun _ _ => trivial) j w, fun _ h => h⟩) j w, fun _ h => h⟩) rfl rfl (by kernel_rfl) (goes0 rfl) (QOk.then (QOk.inBlock (QOk.then (QOk.then (QOk.inBlock (QOk.then (QOk.inBlock (QOk.then (QOk.then (QOk.inBlock (QOk.then QOk.body))))))))))) (q_load1 rfl (by kernel_rfl) (hS80.cell (i := 2) rfl rfl)) ?_
  refine o_pure (i := 14) (fun j w => ⟨(fun j w => ⟨(fun j w => ⟨(fun _ _ => trivial) j w, fun _ h => h⟩) j w, fun _ h => h⟩) j w, fun _ h => h⟩) rfl rfl (by kernel_rfl) (goes0 rfl) (QOk.then (QOk.inBlock (QOk.then (QOk.then (QOk.inBlock (QOk.then (QOk.inBlock (QOk.then (QOk.then (QOk.inBlock (QOk.then QOk.body))))))))))) (fun w => u_mul (a := a1) (b := 0) (M := 18446744073709551616) rfl rfl rfl (by decide)) ?_
  refine o_pure (i := 15) (fun j w => ⟨(fun j w => ⟨(fun j w => ⟨(fun _ _ => trivial) j w, fun _ h => h⟩) j w, fun _ h => h⟩) j w, fun _ h => h⟩) rfl rfl (by kernel_rfl) (goes0 rfl) (QOk.then (QOk.inBlock (QOk.then (QOk.then (QOk.inBlock (QOk.then (QOk.inBlock (QOk.then (QOk.then (QOk.inBlock (QOk.then QOk.body))))))))))) (fun w => u_add (a := 0) (b := (a1 * 0 % 18446744073709551616)) (M := 18446744073709551616) rfl rfl rfl (by decide)) ?_
  refine o_pure (i := 16) (fun j w => ⟨(fun j w => ⟨(fun j w => ⟨(fun _ _ => trivial) j w, fun _ h => h⟩) j w, fun _ h => h⟩) j w, fun _ h => h⟩) rfl rfl (by kernel_rfl) (goes0 rfl) (QOk.then (QOk.inBlock (QOk.then (QOk.then (QOk.inBlock (QOk.then (QOk.inBlock (QOk.then (QOk.then (QOk.inBlock (QOk.then QOk.body))))))))))) (fun w => q_moveI rfl) ?_
  refine o_pure (i := 17) (fun j w => ⟨(fun j w => ⟨(fun j w => ⟨(fun _ _ => trivial) j w, fun _ h => h⟩) j w, fun _ h => h⟩) j w, fun _ h => h⟩) rfl rfl (by kernel_rfl) (goes0 rfl) (QOk.then (QOk.inBlock (QOk.then (QOk.then (QOk.inBlock (QOk.then (QOk.inBlock (QOk.then (QOk.then (QOk.inBlock (QOk.then QOk.body))))))))))) (fun w => u_add (a := ((0 + (a1 * 0 % 18446744073709551616)) % 18446744073709551616)) (b := c72) (M := 18446744073709551616) rfl rfl rfl (by decide)) ?_
  refine o_pure (i := 18) (fun j w => ⟨(fun j w => ⟨(fun j w => ⟨(fun _ _ => trivial) j w, fun _ h => h⟩) j w, fun _ h => h⟩) j w, fun _ h => h⟩) rfl rfl (by kernel_rfl) (goes0 rfl) (QOk.then (QOk.inBlock (QOk.then (QOk.then (QOk.inBlock (QOk.then (QOk.inBlock (QOk.then (QOk.then (QOk.inBlock (QOk.then QOk.body))))))))))) (fun w => q_assignI rfl) ?_
  refine o_done (by kernel_rfl) ?_
  have hq81 : ((((0 + (a1 * 0 % 18446744073709551616)) % 18446744073709551616) + c72) % 18446744073709551616) = 0 + a1 * 0 + c72 := by omega
  generalize ((((0 + (a1 * 0 % 18446744073709551616)) % 18446744073709551616) + c72) % 18446744073709551616) = s81 at hq81 ⊢
  refine hK79 _ _ ?_
  refine wp_seq_k (fun K82 hK82 => ?_)
  refine wp_region_lit ?_
  refine l_q rfl rfl (q_moveI rfl) ?_
  refine l_q rfl rfl (q_moveI rfl) ?_
  refine l_q rfl rfl (q_addx rfl rfl (by first | decide | omega) (by first | decide | omega)) ?_
  refine l_q rfl rfl (q_moveI rfl) ?_
  refine l_q rfl rfl (q_remN (a := s81) (b := 4294967296) rfl rfl (by first | decide | omega)) ?_
  generalize hd81 : s81 % 4294967296 = d81
  refine l_q rfl rfl (q_fieldAddr (ft := 106) (o := 1) rfl (by kernel_rfl)) ?_
  refine l_q rfl rfl (q_indexAddrA (len := 6) (e := 105) (m := 1) rfl rfl (by kernel_rfl) (by kernel_rfl) (by decide) (by decide)) ?_
  refine l_e rfl (fun K hK => ?_)
  refine e_store1 hS80 rfl rfl (by kernel_rfl) (by first | rfl | assumption) (i := 0) rfl rfl (fun w83 (hS83 : St _ _ [.blk b6 (.cells #[.bool false, .int .u64 (d22 : Int), .int .u64 (d63 : Int), .int .u64 (d72 : Int), .int .u64 (d81 : Int), .int .u64 (0 : Int), .int .u64 (0 : Int)] 108), _, _, _] _) => ?_)
  clear hS80
  refine hK _ _ ?_; clear hK K
  refine l_nil ?_
  refine hK82 _ _ ?_
  refine wp_region_lit ?_
  refine l_q rfl rfl (q_moveI rfl) ?_
  refine l_q rfl rfl (q_shrN (k := .u64) (a := s81) (b := 32) rfl rfl (by decide)) ?_
  refine l_q rfl rfl (q_assignI rfl) ?_
  refine l_nil ?_
  generalize hc81 : (s81 / 2 ^ 32) = c81
  have hx81 : s81 = d81 + 4294967296 * c81 ∧ d81 < 4294967296 := by rw [← hd81, ← hc81]; omega
  rw [hq81] at hx81; clear hd81 hc81 hq81
  have hy81 : c81 ≤ 10000 := by omega
  have hz81 : c81 = 0 := by omega
  refine hK78 _ _ ?_
  refine wp_region_lit ?_
  refine l_q rfl rfl (q_moveI rfl) ?_
  refine l_q rfl rfl (q_addx rfl rfl (by first | decide | omega) (by first | decide | omega)) ?_
  refine l_q rfl rfl (q_assignI rfl) ?_
  refine l_nil ?_
  refine c_round ?_
  refine wp_seq_k (fun K84 hK84 => ?_)
  refine wp_seq_k (fun K85 hK85 => ?_)
  refine wp_region_lit ?_
  refine l_q rfl rfl (q_moveI rfl) ?_
  refine l_q rfl rfl (q_lss rfl rfl) ?_
  refine l_nil ?_
  refine hK85 _ _ ?_
  refine c_condF rfl (by decide) ?_
  refine wp_exit ?_
  refine hK55 _ _ ?_
  refine wp_seq_k (fun K87 hK87 => ?_)
  refine wp_region_lit ?_
  refine l_q rfl rfl (q_moveI rfl) ?_
  refine l_q rfl rfl (q_addx rfl rfl (by first | decide | omega) (by first | decide | omega)) ?_
  refine l_q rfl rfl (q_assignI rfl) ?_
  refine l_nil ?_
  refine hK87 _ _ ?_
  refine wp_block ?_
  refine c_rounds 1 ?_
  refine c_round ?_
  refine wp_seq_k (fun K88 hK88 => ?_)
  refine wp_seq_k (fun K89 hK89 => ?_)
  refine wp_region_lit ?_
  refine l_q rfl rfl (q_moveI rfl) ?_
  refine l_q rfl rfl (q_lss rfl rfl) ?_
  refine l_q rfl rfl (q_moveB rfl) ?_
  refine l_on rfl rfl (by decide) ?_
  refine l_q rfl rfl (q_moveI rfl) ?_
  refine l_on rfl rfl (by decide) ?_
  refine l_q rfl rfl (q_gtr rfl rfl) ?_
  refine l_q rfl rfl (q_pickT rfl (by decide) rfl) ?_
  refine l_nil ?_
  refine hK89 _ _ ?_
  refine c_cond rfl (fun hc90 => ?_) (fun hc90 => ?_)
  ·
   have hc90b := hc90
   try simp only [decide_eq_true_eq, decide_eq_false_iff_not, Bool.not_eq_true', Bool.not_eq_false', Bool.and_eq_true, Bool.or_eq_true, Int.not_lt, Int.not_le, ne_eq, Decidable.not_not] at hc90
   exfalso; first | omega | exact hc90 trivial
  ·
   have hc90b := hc90
   try simp only [decide_eq_true_eq, decide_eq_false_iff_not, Bool.not_eq_true', Bool.not_eq_false', Bool.and_eq_true, Bool.or_eq_true, Int.not_lt, Int.not_le, ne_eq, Decidable.not_not] at hc90
   refine wp_exit ?_
   refine hK53 _ _ ?_
   refine wp_region_lit ?_
   refine l_q rfl rfl (q_moveI rfl) ?_
   refine l_q rfl rfl (q_addx rfl rfl (by first | decide | omega) (by first | decide | omega)) ?_
   refine l_q rfl rfl (q_assignI rfl) ?_
   refine l_nil ?_
   refine c_round ?_
   refine wp_seq_k (fun K91 hK91 => ?_)
   refine wp_seq_k (fun K92 hK92 => ?_)
   refine wp_region_lit ?_
   refine l_q rfl rfl (q_moveI rfl) ?_
   refine l_q rfl rfl (q_lss rfl rfl) ?_
   refine l_nil ?_
   refine hK92 _ _ ?_
   refine c_condT rfl (by decide) ?_
   refine wp_skip ?_
   refine hK91 _ _ ?_
   refine wp_seq_k (fun K94 hK94 => ?_)
   refine wp_block ?_
   refine wp_seq_k (fun K95 hK95 => ?_)
   refine wp_region_lit ?_
   refine l_q rfl rfl (q_assignI rfl) ?_
   refine l_nil ?_
   refine hK95 _ _ ?_
   refine wp_seq_k (fun K96 hK96 => ?_)
   refine wp_seq_k (fun K97 hK97 => ?_)
   refine wp_region_lit ?_
   refine l_q rfl rfl (q_assignI rfl) ?_
   refine l_nil ?_
   refine hK97 _ _ ?_
   refine wp_block ?_
   refine c_rounds 4 ?_
   refine c_round ?_
   refine wp_seq_k (fun K98 hK98 => ?_)
   refine wp_seq_k (fun K99 hK99 => ?_)
   refine wp_region_lit ?_
   refine l_q rfl rfl (q_moveI rfl) ?_
   refine l_q rfl rfl (q_lss rfl rfl) ?_
   refine l_nil ?_
   refine hK99 _ _ ?_
   refine c_condT rfl (by decide) ?_
   refine wp_skip ?_
   refine hK98 _ _ ?_
   refine wp_seq_k (fun K101 hK101 => ?_)
   refine wp_block ?_
   refine wp_seq_k (fun K102 hK102 => ?_)
   refine r_any (by kernel_rfl) hS83 (fun w103 hS103 => ?_)
   clear hS83
   refine o_pure (i := 0) (fun _ _ => trivial) rfl rfl (by kernel_rfl) (goes0 rfl) (QOk.then (QOk.inBlock (QOk.then (QOk.then (QOk.inBlock (QOk.then (QOk.inBlock (QOk.then (QOk.then (QOk.inBlock (QOk.then QOk.body))))))))))) (fun w => q_moveI rfl) ?_
   refine o_pure (i := 1) (fun _ _ => trivial) rfl rfl (by kernel_rfl) (goes0 rfl) (QOk.then (QOk.inBlock (QOk.then (QOk.then (QOk.inBlock (QOk.then (QOk.inBlock (QOk.then (QOk.then (QOk.inBlock (QOk.then QOk.body))))))))))) (fun w => q_moveI rfl) ?_
   refine o_pure (i := 2) (fun _ _ => trivial) rfl rfl (by kernel_rfl) (goes0 rfl) (QOk.then (QOk.inBlock (QOk.then (QOk.then (QOk.inBlock (QOk.then (QOk.inBlock (QOk.then (QOk.then (QOk.inBlock (QOk.then QOk.body))))))))))) (fun w => q_addx rfl rfl (by first | decide | omega) (by first | decide | omega)) ?_
   refine o_pure (i := 3) (fun _ _ => trivial) rfl rfl (by kernel_rfl) (goes0 rfl) (QOk.then (QOk.inBlock (QOk.then (QOk.then (QOk.inBlock (QOk.then (QOk.inBlock (QOk.then (QOk.then (QOk.inBlock (QOk.then QOk.body))))))))))) (fun w => q_fieldAddr (ft := 106) (o := 1) rfl (by kernel_rfl)) ?_
   refine o_pure (i := 4) (fun _ _ => trivial) rfl rfl (by kernel_rfl) (goes0 rfl) (QOk.then (QOk.inBlock (QOk.then (QOk.then (QOk.inBlock (QOk.then (QOk.inBlock (QOk.then (QOk.then (QOk.inBlock (QOk.then QOk.body))))))))))) (fun w => q_indexAddrA (len := 6) (e := 105) (m := 1) rfl rfl (by kernel_rfl) (by kernel_rfl) (by decide) (by decide)) ?_
   refine o_held (i := 5) [15, 17, 18] (fun _ _ => trivial) rfl rfl (by kernel_rfl) (goes0 rfl) (QOk.then (QOk.inBlock (QOk.then (QOk.then (QOk.inBlock (QOk.then (QOk.inBlock (QOk.then (QOk.then (QOk.inBlock (QOk.then QOk.body))))))))))) (q_load1 rfl (by kernel_rfl) (hS103.cell (i := 0) rfl rfl)) ?_
   refine o_pure (i := 6) (fun j w => ⟨(fun _ _ => trivial) j w, fun _ h => h⟩) rfl rfl (by kernel_rfl) (goes0 rfl) (QOk.then (QOk.inBlock (QOk.then (QOk.then (QOk.inBlock (QOk.then (QOk.inBlock (QOk.then (QOk.then (QOk.inBlock (QOk.then QOk.body))))))))))) (fun w => q_moveI rfl) ?_
   refine o_pure (i := 7) (fun j w => ⟨(fun _ _ => trivial) j w, fun _ h => h⟩) rfl rfl (by kernel_rfl) (goes0 rfl) (QOk.then (QOk.inBlock (QOk.then (QOk.then (QOk.inBlock (QOk.then (QOk.inBlock (QOk.then (QOk.then (QOk.inBlock (QOk.then QOk.body))))))))))) (fun w => q_fieldAddr (ft := 106) (o := 1) rfl (by kernel_rfl)) ?_
   refine o_pure (i := 8) (fun j w => ⟨(fun _ _ => trivial) j w, fun _ h => h⟩) rfl rfl (by kernel_rfl) (goes0 rfl) (QOk.then (QOk.inBlock (QOk.then (QOk.then (QOk.inBlock (QOk.then (QOk.inBlock (QOk.then (QOk.then (QOk.inBlock (QOk.then QOk.body))))))))))) (fun w => q_indexAddrA (len := 6) (e := 105) (m := 1) rfl rfl (by kernel_rfl) (by kernel_rfl) (by decide) (by decide)) ?_
   refine o_held (i := 9) [14, 15, 17, 18] (fun j w => ⟨(fun _ _ => trivial) j w, fun _ h => h⟩) rfl rfl (by kernel_rfl) (goes0 rfl) (QOk.then (QOk.inBlock (QOk.then (QOk.then (QOk.inBlock (QOk.then (QOk.inBlock (QOk.then (QOk.then (QOk.inBlock (QOk.then QOk.body))))))))))) (q_load1 rfl (by kernel_rfl) (hS103.cell (i := 3) rfl rfl)) ?_
   refine o_pure (i := 10) (fun j w => ⟨(fun j w => ⟨(fun _ _ => trivial) j w, fun _ h => h⟩) j w, fun _ h => h⟩) rfl rfl (by kernel_rfl) (goes0 rfl) (QOk.then (QOk.inBlock (QOk.then (QOk.then (QOk.inBlock (QOk.then (QOk.inBlock (QOk.then (QOk.then (QOk.inBlock (QOk.then QOk.body))))))))))) (fun w => q_moveI rfl) ?_
   refine o_pure (i := 11) (fun j w => ⟨(fun j w => ⟨(fun _ _ => trivial) j w, fun _ h => h⟩) j w, fun _ h => h⟩) rfl rfl (by kernel_rfl) (goes0 rfl) (QOk.then (QOk.inBlock (QOk.then (QOk.then (QOk.inBlock (QOk.then (QOk.inBlock (QOk.then (QOk.then (QOk.inBlock (QOk.then QOk.body))))))))))) (fun w => q_fieldAddr (ft := 106) (o := 1) rfl (by kernel_rfl)) ?_
   refine o_pure (i := 12) (fun j w => ⟨(fun j w => ⟨(fun _ _ => trivial) j w, fun _ h => h⟩) j w, fun _ h => h⟩) rfl rfl (by kernel_rfl) (goes0 rfl) (QOk.then (QOk.inBlock (QOk.then (QOk.then (QOk.inBlock (QOk.then (QOk.inBlock (QOk.then (QOk.then (QOk.inBlock (QOk.then QOk.body))))))))))) (fun w => q_indexAddrA (len := 6) (e := 105) (m := 1) rfl rfl (by kernel_rfl) (by kernel_rfl) (by decide) (by decide)) ?_
   refine o_held (i := 13) [14, 15, 17, 18] (fun j w => ⟨(fun j w => ⟨(fun _ _ => trivial) j w, fun _ h => h⟩) j w, fun _ h => h⟩) rfl rfl (by kernel_rfl) (goes0 rfl) (QOk.then (QOk.inBlock (QOk.then (QOk.then (QOk.inBlock (QOk.then (QOk.inBlock (QOk.then (QOk.then (QOk.inBlock (QOk.then QOk.body))))))))))) (q_load1 rfl (by kernel_rfl) (hS103.cell (i := 2) rfl rfl)) ?_
   refine o_pure (i := 14) (fun j w => ⟨(fun j w => ⟨(fun j w => ⟨(fun _ _ => trivial) j w, fun _ h => h⟩) j w, fun _ h => h⟩) j w, fun _ h => h⟩) rfl rfl (by kernel_rfl) (goes0 rfl) (QOk.then (QOk.inBlock (QOk.then (QOk.then (QOk.inBlock (QOk.then (QOk.inBlock (QOk.then (QOk.then (QOk.inBlock (QOk.then QOk.body))))))))))) (fun w => u_mul (a := 0) (b := 10000) (M := 18446744073709551616) rfl rfl rfl (by decide)) ?_
   refine o_pure (i := 15) (fun j w => ⟨(fun j w => ⟨(fun j w => ⟨(fun _ _ => trivial) j w, fun _ h => h⟩) j w, fun _ h => h⟩) j w, fun _ h => h⟩) rfl rfl (by kernel_rfl) (goes0 rfl) (QOk.then (QOk.inBlock (QOk.then (QOk.then (QOk.inBlock (QOk.then (QOk.inBlock (QOk.then (QOk.then (QOk.inBlock (QOk.then QOk.body))))))))))) (fun w => u_add (a := d72) (b := (0 * 10000 % 18446744073709551616)) (M := 18446744073709551616) rfl rfl rfl (by decide)) ?_
   refine o_pure (i := 16) (fun j w => ⟨(fun j w => ⟨(fun j w => ⟨(fun _ _ => trivial) j w, fun _ h => h⟩) j w, fun _ h => h⟩) j w, fun _ h => h⟩) rfl rfl (by kernel_rfl) (goes0 rfl) (QOk.then (QOk.inBlock (QOk.then (QOk.then (QOk.inBlock (QOk.then (QOk.inBlock (QOk.then (QOk.then (QOk.inBlock (QOk.then QOk.body))))))))))) (fun w => q_moveI rfl) ?_
   refine o_pure (i := 17) (fun j w => ⟨(fun j w => ⟨(fun j w => ⟨(fun _ _ => trivial) j w, fun _ h => h⟩) j w, fun _ h => h⟩) j w, fun _ h => h⟩) rfl rfl (by kernel_rfl) (goes0 rfl) (QOk.then (QOk.inBlock (QOk.then (QOk.then (QOk.inBlock (QOk.then (QOk.inBlock (QOk.then (QOk.then (QOk.inBlock (QOk.then QOk.body))))))))))) (fun w => u_add (a := ((d72 + (0 * 10000 % 18446744073709551616)) % 18446744073709551616)) (b := 0) (M := 18446744073709551616) rfl rfl rfl (by decide)) ?_
   refine o_pure (i := 18) (fun j w => ⟨(fun j w => ⟨(fun j w => ⟨(fun _ _ => trivial) j w, fun _ h => h⟩) j w, fun _ h => h⟩) j w, fun _ h => h⟩) rfl rfl (by kernel_rfl) (goes0 rfl) (QOk.then (QOk.inBlock (QOk.then (QOk.then (QOk.inBlock (QOk.then (QOk.inBlock (QOk.then (QOk.then (QOk.inBlock (QOk.then QOk.body))))))))))) (fun w => q_assignI rfl) ?_
   refine o_done (by kernel_rfl) ?_
   have hq104 : ((((d72 + (0 * 10000 % 18446744073709551616)) % 18446744073709551616) + 0) % 18446744073709551616) = d72 + 0 * 10000 + 0 := by omega
   generalize ((((d72 + (0 * 10000 % 18446744073709551616)) % 18446744073709551616) + 0) % 18446744073709551616) = s104 at hq104 ⊢
   refine hK102 _ _ ?_
   refine wp_seq_k (fun K105 hK105 => ?_)
   refine wp_region_lit ?_
   refine l_q rfl rfl (q_moveI rfl) ?_
   refine l_q rfl rfl (q_moveI rfl) ?_
   refine l_q rfl rfl (q_addx rfl rfl (by first | decide | omega) (by first | decide | omega)) ?_
   refine l_q rfl rfl (q_moveI rfl) ?_
   refine l_q rfl rfl (q_remN (a := s104) (b := 4294967296) rfl rfl (by first | decide | omega)) ?_
   generalize hd104 : s104 % 4294967296 = d104
   refine l_q rfl rfl (q_fieldAddr (ft := 106) (o := 1) rfl (by kernel_rfl)) ?_
   refine l_q rfl rfl (q_indexAddrA (len := 6) (e := 105) (m := 1) rfl rfl (by kernel_rfl) (by kernel_rfl) (by decide) (by decide)) ?_
   refine l_e rfl (fun K hK => ?_)
   refine e_store1 hS103 rfl rfl (by kernel_rfl) (by first | rfl | assumption) (i := 0) rfl rfl (fun w106 (hS106 : St _ _ [.blk b6 (.cells #[.bool false, .int .u64 (d22 : Int), .int .u64 (d63 : Int), .int .u64 (d104 : Int), .int .u64 (d81 : Int), .int .u64 (0 : Int), .int .u64 (0 : Int)] 108), _, _, _] _) => ?_)
   clear hS103
   refine hK _ _ ?_; clear hK K
   refine l_nil ?_
   refine hK105 _ _ ?_
   refine wp_region_lit ?_
   refine l_q rfl rfl (q_moveI rfl) ?_
   refine l_q rfl rfl (q_shrN (k := .u64) (a := s104) (b := 32) rfl rfl (by decide)) ?_
   refine l_q rfl rfl (q_assignI rfl) ?_
   refine l_nil ?_
   generalize hc104 : (s104 / 2 ^ 32) = c104
   have hx104 : s104 = d104 + 4294967296 * c104 ∧ d104 < 4294967296 := by rw [← hd104, ← hc104]; omega
   rw [hq104] at hx104; clear hd104 hc104 hq104
   have hy104 : c104 ≤ 10000 := by omega
   have hz104 : c104 = 0 := by omega
   refine hK101 _ _ ?_
   refine wp_region_lit ?_
   refine l_q rfl rfl (q_moveI rfl) ?_
   refine l_q rfl rfl (q_addx rfl rfl (by first | decide | omega) (by first | decide | omega)) ?_
   refine l_q rfl rfl (q_assignI rfl) ?_
   refine l_nil ?_
   refine c_round ?_
   refine wp_seq_k (fun K107 hK107 => ?_)
   refine wp_seq_k (fun K108 hK108 => ?_)
   refine wp_region_lit ?_
   refine l_q rfl rfl (q_moveI rfl) ?_
   refine l_q rfl rfl (q_lss rfl rfl) ?_
   refine l_nil ?_
   refine hK108 _ _ ?_
   refine c_condT rfl (by decide) ?_
   refine wp_skip ?_
   refine hK107 _ _ ?_
   refine wp_seq_k (fun K110 hK110 => ?_)
   refine wp_block ?_
   refine wp_seq_k (fun K111 hK111 => ?_)
   refine r_any (by kernel_rfl) hS106 (fun w112 hS112 => ?_)
   clear hS106
   refine o_pure (i := 0) (fun _ _ => trivial) rfl rfl (by kernel_rfl) (goes0 rfl) (QOk.then (QOk.inBlock (QOk.then (QOk.then (QOk.inBlock (QOk.then (QOk.inBlock (QOk.then (QOk.then (QOk.inBlock (QOk.then QOk.body))))))))))) (fun w => q_moveI rfl) ?_
   refine o_pure (i := 1) (fun _ _ => trivial) rfl rfl (by kernel_rfl) (goes0 rfl) (QOk.then (QOk.inBlock (QOk.then (QOk.then (QOk.inBlock (QOk.then (QOk.inBlock (QOk.then (QOk.then (QOk.inBlock (QOk.then QOk.body))))))))))) (fun w => q_moveI rfl) ?_
   refine o_pure (i := 2) (fun _ _ => trivial) rfl rfl (by kernel_rfl) (goes0 rfl) (QOk.then (QOk.inBlock (QOk.then (QOk.then (QOk.inBlock (QOk.then (QOk.inBlock (QOk.then (QOk.then (QOk.inBlock (QOk.then QOk.body))))))))))) (fun w => q_addx rfl rfl (by first | decide | omega) (by first | decide | omega)) ?_
   refine o_pure (i := 3) (fun _ _ => trivial) rfl rfl (by kernel_rfl) (goes0 rfl) (QOk.then (QOk.inBlock (QOk.then (QOk.then (QOk.inBlock (QOk.then (QOk.inBlock (QOk.then (QOk.then (QOk.inBlock (QOk.then QOk.body))))))))))) (fun w => q_fieldAddr (ft := 106) (o := 1) rfl (by kernel_rfl)) ?_
   refine o_pure (i := 4) (fun _ _ => trivial) rfl rfl (by kernel_rfl) (goes0 rfl) (QOk.then (QOk.inBlock (QOk.then (QOk.then (QOk.inBlock (QOk.then (QOk.inBlock (QOk.then (QOk.then (QOk.inBlock (QOk.then QOk.body))))))))))) (fun w => q_indexAddrA (len := 6) (e := 105) (m := 1) rfl rfl (by kernel_rfl) (by kernel_rfl) (by decide) (by decide)) ?_
   refine o_held (i := 5) [15, 17, 18] (fun _ _ => trivial) rfl rfl (by kernel_rfl) (goes0 rfl) (QOk.then (QOk.inBlock (QOk.then (QOk.then (QOk.inBlock (QOk.then (QOk.inBlock (QOk.then (QOk.then (QOk.inBlock (QOk.then QOk.body))))))))))) (q_load1 rfl (by kernel_rfl) (hS112.cell (i := 0) rfl rfl)) ?_
   refine o_pure (i := 6) (fun j w => ⟨(fun _ _ => trivial) j w, fun _ h => h⟩) rfl rfl (by kernel_rfl) (goes0 rfl) (QOk.then (QOk.inBlock (QOk.then (QOk.then (QOk.inBlock (QOk.then (QOk.inBlock (QOk.then (QOk.then (QOk.inBlock (QOk.then QOk.body))))))))))) (fun w => q_moveI rfl) ?_
   refine o_pure (i := 7) (fun j w => ⟨(fun _ _ => trivial) j w, fun _ h => h⟩) rfl rfl (by kernel_rfl) (goes0 rfl) (QOk.then (QOk.inBlock (QOk.then (QOk.then (QOk.inBlock (QOk.then (QOk.inBlock (QOk.then (QOk.then (QOk.inBlock (QOk.then QOk.body))))))))))) (fun w => q_fieldAddr (ft := 106) (o := 1) rfl (by kernel_rfl)) ?_
   refine o_pure (i := 8) (fun j w => ⟨(fun _ _ => trivial) j w, fun _ h => h⟩) rfl rfl (by kernel_rfl) (goes0 rfl) (QOk.then (QOk.inBlock (QOk.then (QOk.then (QOk.inBlock (QOk.then (QOk.inBlock (QOk.then (QOk.then (QOk.inBlock (QOk.then QOk.body))))))))))) (fun w => q_indexAddrA (len := 6) (e := 105) (m := 1) rfl rfl (by kernel_rfl) (by kernel_rfl) (by decide) (by decide)) ?_
   refine o_held (i := 9) [14, 15, 17, 18] (fun j w => ⟨(fun _ _ => trivial) j w, fun _ h => h⟩) rfl rfl (by kernel_rfl) (goes0 rfl) (QOk.then (QOk.inBlock (QOk.then (QOk.then (QOk.inBlock (QOk.then (QOk.inBlock (QOk.then (QOk.then (QOk.inBlock (QOk.then QOk.body))))))))))) (q_load1 rfl (by kernel_rfl) (hS112.cell (i := 3) rfl rfl)) ?_
   refine o_pure (i := 10) (fun j w => ⟨(fun j w => ⟨(fun _ _ => trivial) j w, fun _ h => h⟩) j w, fun _ h => h⟩) rfl rfl (by kernel_rfl) (goes0 rfl) (QOk.then (QOk.inBlock (QOk.then (QOk.then (QOk.inBlock (QOk.then (QOk.inBlock (QOk.then (QOk.then (QOk.inBlock (QOk.then QOk.body))))))))))) (fun w => q_moveI rfl) ?_
   refine o_pure (i := 11) (fun j w => ⟨(fun j w => ⟨(fun _ _ => trivial) j w, fun _ h => h⟩) j w, fun _ h => h⟩) rfl rfl (by kernel_rfl) (goes0 rfl) (QOk.then (QOk.inBlock (QOk.then (QOk.then (QOk.inBlock (QOk.then (QOk.inBlock (QOk.then (QOk.then (QOk.inBlock (QOk.then QOk.body))))))))))) (fun w => q_fieldAddr (ft := 106) (o := 1) rfl (by kernel_rfl)) ?_
   refine o_pure (i := 12) (fun j w => ⟨(fun j w => ⟨(fun _ _ => trivial) j w, fun _ h => h⟩) j w, fun _ h => h⟩) rfl rfl (by kernel_rfl) (goes0 rfl) (QOk.then (QOk.inBlock (QOk.then (QOk.then (QOk.inBlock (QOk.then (QOk.inBlock (QOk.then (QOk.then (QOk.inBlock (QOk.then QOk.body))))))))))) (fun w => q_indexAddrA (len := 6) (e := 105) (m := 1) rfl rfl (by kernel_rfl) (by kernel_rfl) (by decide) (by decide)) ?_
   refine o_held (i := 13) [14, 15, 17, 18] (fun j w => ⟨(fun j w => ⟨(fun _ _ => trivial) j w, fun _ h => h⟩) j w, fun _ h => h⟩) rfl rfl (by kernel_rfl) (goes0 rfl) (QOk.then (QOk.inBlock (QOk.then (QOk.then (QOk.inBlock (QOk.then (QOk.inBlock (QOk.then (QOk.then (QOk.inBlock (QOk.then QOk.body))))))))))) (q_load1 rfl (by kernel_rfl) (hS112.cell (i := 2) rfl rfl)) ?_
   refine o_pure (i := 14) (fun j w => ⟨(fun j w => ⟨(fun j w => ⟨(fun _ _ => trivial) j w, fun _ h => h⟩) j w, fun _ h => h⟩) j w, fun _ h => h⟩) rfl rfl (by kernel_rfl) (goes0 rfl) (QOk.then (QOk.inBlock (QOk.then (QOk.then (QOk.inBlock (QOk.then (QOk.inBlock (QOk.then (QOk.then (QOk.inBlock (QOk.then QOk.body))))))))))) (fun w => u_mul (a := 0) (b := 0) (M := 18446744073709551616) rfl rfl rfl (by decide)) ?_
   refine o_pure (i := 15) (fun j w => ⟨(fun j w => ⟨(fun j w => ⟨(fun _ _ => trivial) j w, fun _ h => h⟩) j w, fun _ h => h⟩) j w, fun _ h => h⟩) rfl rfl (by kernel_rfl) (goes0 rfl) (QOk.then (QOk.inBlock (QOk.then (QOk.then (QOk.inBlock (QOk.then (QOk.inBlock (QOk.then (QOk.then (QOk.inBlock (QOk.then QOk.body))))))))))) (fun w => u_add (a := d81) (b := (0 * 0 % 18446744073709551616)) (M := 18446744073709551616) rfl rfl rfl (by decide)) ?_
   refine o_pure (i := 16) (fun j w => ⟨(fun j w => ⟨(fun j w => ⟨(fun _ _ => trivial) j w, fun _ h => h⟩) j w, fun _ h => h⟩) j w, fun _ h => h⟩) rfl rfl (by kernel_rfl) (goes0 rfl) (QOk.then (QOk.inBlock (QOk.then (QOk.then (QOk.inBlock (QOk.then (QOk.inBlock (QOk.then (QOk.then (QOk.inBlock (QOk.then QOk.body))))))))))) (fun w => q_moveI rfl) ?_
   refine o_pure (i := 17) (fun j w => ⟨(fun j w => ⟨(fun j w => ⟨(fun _ _ => trivial) j w, fun _ h => h⟩) j w, fun _ h => h⟩) j w, fun _ h => h⟩) rfl rfl (by kernel_rfl) (goes0 rfl) (QOk.then (QOk.inBlock (QOk.then (QOk.then (QOk.inBlock (QOk.then (QOk.inBlock (QOk.then (QOk.then (QOk.inBlock (QOk.then QOk.body))))))))))) (fun w => u_add (a := ((d81 + (0 * 0 % 18446744073709551616)) % 18446744073709551616)) (b := c104) (M := 18446744073709551616) rfl rfl rfl (by decide)) ?_
   refine o_pure (i := 18) (fun j w => ⟨(fun j w => ⟨(fun j w => ⟨(fun _ _ => trivial) j w, fun _ h => h⟩) j w, fun _ h => h⟩) j w, fun _ h => h⟩) rfl rfl (by kernel_rfl) (goes0 rfl) (QOk.then (QOk.inBlock (QOk.then (QOk.then (QOk.inBlock (QOk.then (QOk.inBlock (QOk.then (QOk.then (QOk.inBlock (QOk.then QOk.body))))))))))) (fun w => q_assignI rfl) ?_
   refine o_done (by kernel_rfl) ?_
   have hq113 : ((((d81 + (0 * 0 % 18446744073709551616)) % 18446744073709551616) + c104) % 18446744073709551616) = d81 + 0 * 0 + c104 := by omega
   generalize ((((d81 + (0 * 0 % 18446744073709551616)) % 18446744073709551616) + c104) % 18446744073709551616) = s113 at hq113 ⊢
   refine hK111 _ _ ?_
   refine wp_seq_k (fun K114 hK114 => ?_)
   refine wp_region_lit ?_
   refine l_q rfl rfl (q_moveI rfl) ?_
   refine l_q rfl rfl (q_moveI rfl) ?_
   refine l_q rfl rfl (q_addx rfl rfl (by first | decide | omega) (by first | decide | omega)) ?_
   refine l_q rfl rfl (q_moveI rfl) ?_
   refine l_q rfl rfl (q_remN (a := s113) (b := 4294967296) rfl rfl (by first | decide | omega)) ?_
   generalize hd113 : s113 % 4294967296 = d113
   refine l_q rfl rfl (q_fieldAddr (ft := 106) (o := 1) rfl (by kernel_rfl)) ?_
   refine l_q rfl rfl (q_indexAddrA (len := 6) (e := 105) (m := 1) rfl rfl (by kernel_rfl) (by kernel_rfl) (by decide) (by decide)) ?_
   refine l_e rfl (fun K hK => ?_)
   refine e_store1 hS112 rfl rfl (by kernel_rfl) (by first | rfl | assumption) (i := 0) rfl rfl (fun w115 (hS115 : St _ _ [.blk b6 (.cells #[.bool false, .int .u64 (d22 : Int), .int .u64 (d63 : Int), .int .u64 (d104 : Int), .int .u64 (d113 : Int), .int .u64 (0 : Int), .int .u64 (0 : Int)] 108), _, _, _] _) => ?_)
   clear hS112
   refine hK _ _ ?_; clear hK K
   refine l_nil ?_
   refine hK114 _ _ ?_
   refine wp_region_lit ?_
   refine l_q rfl rfl (q_moveI rfl) ?_
   refine l_q rfl rfl (q_shrN (k := .u64) (a := s113) (b := 32) rfl rfl (by decide)) ?_
   refine l_q rfl rfl (q_assignI rfl) ?_
   refine l_nil ?_
   generalize hc113 : (s113 / 2 ^ 32) = c113
   have hx113 : s113 = d113 + 4294967296 * c113 ∧ d113 < 4294967296 := by rw [← hd113, ← hc113]; omega
   rw [hq113] at hx113; clear hd113 hc113 hq113
   have hy113 : c113 ≤ 10000 := by omega
   have hz113 : c113 = 0 := by omega
   refine hK110 _ _ ?_
   refine wp_region_lit ?_
   refine l_q rfl rfl (q_moveI rfl) ?_
   refine l_q rfl rfl (q_addx rfl rfl (by first | decide | omega) (by first | decide | omega)) ?_
   refine l_q rfl rfl (q_assignI rfl) ?_
   refine l_nil ?_
   refine c_round ?_
   refine wp_seq_k (fun K116 hK116 => ?_)
   refine wp_seq_k (fun K117 hK117 => ?_)
   refine wp_region_lit ?_
   refine l_q rfl rfl (q_moveI rfl) ?_
   refine l_q rfl rfl (q_lss rfl rfl) ?_
   refine l_nil ?_
   refine hK117 _ _ ?_
   refine c_condT rfl (by decide) ?_
   refine wp_skip ?_
   refine hK116 _ _ ?_
   refine wp_seq_k (fun K119 hK119 => ?_)
   refine wp_block ?_
   refine wp_seq_k (fun K120 hK120 => ?_)
   refine r_any (by kernel_rfl) hS115 (fun w121 hS121 => ?_)
   clear hS115
   refine o_pure (i := 0) (fun _ _ => trivial) rfl rfl (by kernel_rfl) (goes0 rfl) (QOk.then (QOk.inBlock (QOk.then (QOk.then (QOk.inBlock (QOk.then (QOk.inBlock (QOk.then (QOk.then (QOk.inBlock (QOk.then QOk.body))))))))))) (fun w => q_moveI rfl) ?_
   refine o_pure (i := 1) (fun _ _ => trivial) rfl rfl (by kernel_rfl) (goes0 rfl) (QOk.then (QOk.inBlock (QOk.then (QOk.then (QOk.inBlock (QOk.then (QOk.inBlock (QOk.then (QOk.then (QOk.inBlock (QOk.then QOk.body))))))))))) (fun w => q_moveI rfl) ?_
   refine o_pure (i := 2) (fun _ _ => trivial) rfl rfl (by kernel_rfl) (goes0 rfl) (QOk.then (QOk.inBlock (QOk.then (QOk.then (QOk.inBlock (QOk.then (QOk.inBlock (QOk.then (QOk.then (QOk.inBlock (QOk.then QOk.body))))))))))) (fun w => q_addx rfl rfl (by first | decide | omega) (by first | decide | omega)) ?_
   refine o_pure (i := 3) (fun _ _ => trivial) rfl rfl (by kernel_rfl) (goes0 rfl) (QOk.then (QOk.inBlock (QOk.then (QOk.then (QOk.inBlock (QOk.then (QOk.inBlock (QOk.then (QOk.then (QOk.inBlock (QOk.then QOk.body))))))))))) (fun w => q_fieldAddr (ft := 106) (o := 1) rfl (by kernel_rfl)) ?_
   refine o_pure (i := 4) (fun _ _ => trivial) rfl rfl (by kernel_rfl) (goes0 rfl) (QOk.then (QOk.inBlock (QOk.then (QOk.then (QOk.inBlock (QOk.then (QOk.inBlock (QOk.then (QOk.then (QOk.inBlock (QOk.then QOk.body))))))))))) (fun w => q_indexAddrA (len := 6) (e := 105) (m := 1) rfl rfl (by kernel_rfl) (by kernel_rfl) (by decide) (by decide)) ?_
   refine o_held (i := 5) [15, 17, 18] (fun _ _ => trivial) rfl rfl (by kernel_rfl) (goes0 rfl) (QOk.then (QOk.inBlock (QOk.then (QOk.then (QOk.inBlock (QOk.then (QOk.inBlock (QOk.then (QOk.then (QOk.inBlock (QOk.then QOk.body))))))))))) (q_load1 rfl (by kernel_rfl) (hS121.cell (i := 0) rfl rfl)) ?_
   refine o_pure (i := 6) (fun j w => ⟨(fun _ _ => trivial) j w, fun _ h => h⟩) rfl rfl (by kernel_rfl) (goes0 rfl) (QOk.then (QOk.inBlock (QOk.then (QOk.then (QOk.inBlock (QOk.then (QOk.inBlock (QOk.then (QOk.then (QOk.inBlock (QOk.then QOk.body))))))))))) (fun w => q_moveI rfl) ?_
   refine o_pure (i := 7) (fun j w => ⟨(fun _ _ => trivial) j w, fun _ h => h⟩) rfl rfl (by kernel_rfl) (goes0 rfl) (QOk.then (QOk.inBlock (QOk.then (QOk.then (QOk.inBlock (QOk.then (QOk.inBlock (QOk.then (QOk.then (QOk.inBlock (QOk.then QOk.body))))))))))) (fun w => q_fieldAddr (ft := 106) (o := 1) rfl (by kernel_rfl)) ?_
   refine o_pure (i := 8) (fun j w => ⟨(fun _ _ => trivial) j w, fun _ h => h⟩) rfl rfl (by kernel_rfl) (goes0 rfl) (QOk.then (QOk.inBlock (QOk.then (QOk.then (QOk.inBlock (QOk.then (QOk.inBlock (QOk.then (QOk.then (QOk.inBlock (QOk.then QOk.body))))))))))) (fun w => q_indexAddrA (len := 6) (e := 105) (m := 1) rfl rfl (by kernel_rfl) (by kernel_rfl) (by decide) (by decide)) ?_
   refine o_held (i := 9) [14, 15, 17, 18] (fun j w => ⟨(fun _ _ => trivial) j w, fun _ h => h⟩) rfl rfl (by kernel_rfl) (goes0 rfl) (QOk.then (QOk.inBlock (QOk.then (QOk.then (QOk.inBlock (QOk.then (QOk.inBlock (QOk.then (QOk.then (QOk.inBlock (QOk.then QOk.body))))))))))) (q_load1 rfl (by kernel_rfl) (hS121.cell (i := 3) rfl rfl)) ?_
   refine o_pure (i := 10) (fun j w => ⟨(fun j w => ⟨(fun _ _ => trivial) j w, fun _ h => h⟩) j w, fun _ h => h⟩) rfl rfl (by kernel_rfl) (goes0 rfl) (QOk.then (QOk.inBlock (QOk.then (QOk.then (QOk.inBlock (QOk.then (QOk.inBlock (QOk.then (QOk.then (QOk.inBlock (QOk.then QOk.body))))))))))) (fun w => q_moveI rfl) ?_
   refine o_pure (i := 11) (fun j w => ⟨(fun j w => ⟨(fun _ _ => trivial) j w, fun _ h => h⟩) j w, fun _ h => h⟩) rfl rfl (by kernel_rfl) (goes0 rfl) (QOk.then (QOk.inBlock (QOk.then (QOk.then (QOk.inBlock (QOk.then (QOk.inBlock (QOk.then (QOk.then (QOk.inBlock (QOk.then QOk.body))))))))))) (fun w => q_fieldAddr (ft := 106) (o := 1) rfl (by kernel_rfl)) ?_
   refine o_pure (i := 12) (fun j w => ⟨(fun j w => ⟨(fun _ _ => trivial) j w, fun _ h => h⟩) j w, fun _ h => h⟩) rfl rfl (by kernel_rfl) (goes0 rfl) (QOk.then (QOk.inBlock (QOk.then (QOk.then (QOk.inBlock (QOk.then (QOk.inBlock (QOk.then (QOk.then (QOk.inBlock (QOk.then QOk.body))))))))))) (fun w => q_indexAddrA (len := 6) (e := 105) (m := 1) rfl rfl (by kernel_rfl) (by kernel_rfl) (by decide) (by decide)) ?_
   refine o_held (i := 13) [14, 15, 17, 18] (fun j w => ⟨(fun j w => ⟨(fun _ _ => trivial) j w, fun _ h => h⟩) j w, fun _ h => h⟩) rfl rfl (by kernel_rfl) (goes0 rfl) (QOk.then (QOk.inBlock (QOk.then (QOk.then (QOk.inBlock (QOk.then (QOk.inBlock (QOk.then (QOk.then (QOk.inBlock (QOk.then QOk.body))))))))))) (q_load1 rfl (by kernel_rfl) (hS121.cell (i := 2) rfl rfl)) ?_
   refine o_pure (i := 14) (fun j w => ⟨(fun j w => ⟨(fun j w => ⟨(fun _ _ => trivial) j w, fun _ h => h⟩) j w, fun _ h => h⟩) j w, fun _ h => h⟩) rfl rfl (by kernel_rfl) (goes0 rfl) (QOk.then (QOk.inBlock (QOk.then (QOk.then (QOk.inBlock (QOk.then (QOk.inBlock (QOk.then (QOk.then (QOk.inBlock (QOk.then QOk.body))))))))))) (fun w => u_mul (a := 0) (b := 0) (M := 18446744073709551616) rfl rfl rfl (by decide)) ?_
   refine o_pure (i := 15) (fun j w => ⟨(fun j w => ⟨(fun j w => ⟨(fun _ _ => trivial) j w, fun _ h => h⟩) j w, fun _ h => h⟩) j w, fun _ h => h⟩) rfl rfl (by kernel_rfl) (goes0 rfl) (QOk.then (QOk.inBlock (QOk.then (QOk.then (QOk.inBlock (QOk.then (QOk.inBlock (QOk.then (QOk.then (QOk.inBlock (QOk.then QOk.body))))))))))) (fun w => u_add (a := 0) (b := (0 * 0 % 18446744073709551616)) (M := 18446744073709551616) rfl rfl rfl (by decide)) ?_
   refine o_pure (i := 16) (fun j w => ⟨(fun j w => ⟨(fun j w => ⟨(fun _ _ => trivial) j w, fun _ h => h⟩) j w, fun _ h => h⟩) j w, fun _ h => h⟩) rfl rfl (by kernel_rfl) (goes0 rfl) (QOk.then (QOk.inBlock (QOk.then (QOk.then (QOk.inBlock (QOk.then (QOk.inBlock (QOk.then (QOk.then (QOk.inBlock (QOk.then QOk.body))))))))))) (fun w => q_moveI rfl) ?_
   refine o_pure (i := 17) (fun j w => ⟨(fun j w => ⟨(fun j w => ⟨(fun _ _ => trivial) j w, fun _ h => h⟩) j w, fun _ h => h⟩) j w, fun _ h => h⟩) rfl rfl (by kernel_rfl) (goes0 rfl) (QOk.then (QOk.inBlock (QOk.then (QOk.then (QOk.inBlock (QOk.then (QOk.inBlock (QOk.then (QOk.then (QOk.inBlock (QOk.then QOk.body))))))))))) (fun w => u_add (a := ((0 + (0 * 0 % 18446744073709551616)) % 18446744073709551616)) (b := c113) (M := 18446744073709551616) rfl rfl rfl (by decide)) ?_
   refine o_pure (i := 18) (fun j w => ⟨(fun j w => ⟨(fun j w => ⟨(fun _ _ => trivial) j w, fun _ h => h⟩) j w, fun _ h => h⟩) j w, fun _ h => h⟩) rfl rfl (by kernel_rfl) (goes0 rfl) (QOk.then (QOk.inBlock (QOk.then (QOk.then (QOk.inBlock (QOk.then (QOk.inBlock (QOk.then (QOk.then (QOk.inBlock (QOk.then QOk.body))))))))))) (fun w => q_assignI rfl) ?_
   refine o_done (by kernel_rfl) ?_
   have hq122 : ((((0 + (0 * 0 % 18446744073709551616)) % 18446744073709551616) + c113) % 18446744073709551616) = 0 + 0 * 0 + c113 := by omega
   generalize ((((0 + (0 * 0 % 18446744073709551616)) % 18446744073709551616) + c113) % 18446744073709551616) = s122 at hq122 ⊢
   refine hK120 _ _ ?_
   refine wp_seq_k (fun K123 hK123 => ?_)
   refine wp_region_lit ?_
   refine l_q rfl rfl (q_moveI rfl) ?_
   refine l_q rfl rfl (q_moveI rfl) ?_
   refine l_q rfl rfl (q_addx rfl rfl (by first | decide | omega) (by first | decide | omega)) ?_
   refine l_q rfl rfl (q_moveI rfl) ?_
   refine l_q rfl rfl (q_remN (a := s122) (b := 4294967296) rfl rfl (by first | decide | omega)) ?_
   generalize hd122 : s122 % 4294967296 = d122
   refine l_q rfl rfl (q_fieldAddr (ft := 106) (o := 1) rfl (by kernel_rfl)) ?_
   refine l_q rfl rfl (q_indexAddrA (len := 6) (e := 105) (m := 1) rfl rfl (by kernel_rfl) (by kernel_rfl) (by decide) (by decide)) ?_
   refine l_e rfl (fun K hK => ?_)
   refine e_store1 hS121 rfl rfl (by kernel_rfl) (by first | rfl | assumption) (i := 0) rfl rfl (fun w124 (hS124 : St _ _ [.blk b6 (.cells #[.bool false, .int .u64 (d22 : Int), .int .u64 (d63 : Int), .int .u64 (d104 : Int), .int .u64 (d113 : Int), .int .u64 (d122 : Int), .int .u64 (0 : Int)] 108), _, _, _] _) => ?_)
   clear hS121
   refine hK _ _ ?_; clear hK K
   refine l_nil ?_
   refine hK123 _ _ ?_
   refine wp_region_lit ?_
   refine l_q rfl rfl (q_moveI rfl) ?_
   refine l_q rfl rfl (q_shrN (k := .u64) (a := s122) (b := 32) rfl rfl (by decide)) ?_
   refine l_q rfl rfl (q_assignI rfl) ?_
   refine l_nil ?_
   generalize hc122 : (s122 / 2 ^ 32) = c122
   have hx122 : s122 = d122 + 4294967296 * c122 ∧ d122 < 4294967296 := by rw [← hd122, ← hc122]; omega
   rw [hq122] at hx122; clear hd122 hc122 hq122
   have hy122 : c122 ≤ 10000 := by omega
   have hz122 : c122 = 0 := by omega
   refine hK119 _ _ ?_
   refine wp_region_lit ?_
   refine l_q rfl rfl (q_moveI rfl) ?_
   refine l_q rfl rfl (q_addx rfl rfl (by first | decide | omega) (by first | decide | omega)) ?_
   refine l_q rfl rfl (q_assignI rfl) ?_
   refine l_nil ?_
   refine c_round ?_
   refine wp_seq_k (fun K125 hK125 => ?_)
   refine wp_seq_k (fun K126 hK126 => ?_)
   refine wp_region_lit ?_
   refine l_q rfl rfl (q_moveI rfl) ?_
   refine l_q rfl rfl (q_lss rfl rfl) ?_
   refine l_nil ?_
   refine hK126 _ _ ?_
   refine c_condF rfl (by decide) ?_
   refine wp_exit ?_
   refine hK96 _ _ ?_
   refine wp_seq_k (fun K128 hK128 => ?_)
   refine wp_region_lit ?_
   refine l_q rfl rfl (q_moveI rfl) ?_
   refine l_q rfl rfl (q_addx rfl rfl (by first | decide | omega) (by first | decide | omega)) ?_
   refine l_q rfl rfl (q_assignI rfl) ?_
   refine l_nil ?_
   refine hK128 _ _ ?_
   refine wp_block ?_
   refine c_rounds 1 ?_
   refine c_round ?_
   refine wp_seq_k (fun K129 hK129 => ?_)
   refine wp_seq_k (fun K130 hK130 => ?_)
   refine wp_region_lit ?_
   refine l_q rfl rfl (q_moveI rfl) ?_
   refine l_q rfl rfl (q_lss rfl rfl) ?_
   refine l_q rfl rfl (q_moveB rfl) ?_
   refine l_on rfl rfl (by decide) ?_
   refine l_q rfl rfl (q_moveI rfl) ?_
   refine l_on rfl rfl (by decide) ?_
   refine l_q rfl rfl (q_gtr rfl rfl) ?_
   refine l_q rfl rfl (q_pickT rfl (by decide) rfl) ?_
   refine l_nil ?_
   refine hK130 _ _ ?_
   refine c_cond rfl (fun hc131 => ?_) (fun hc131 => ?_)
   ·
    have hc131b := hc131
    try simp only [decide_eq_true_eq, decide_eq_false_iff_not, Bool.not_eq_true', Bool.not_eq_false', Bool.and_eq_true, Bool.or_eq_true, Int.not_lt, Int.not_le, ne_eq, Decidable.not_not] at hc131
    exfalso; first | omega | exact hc131 trivial
   ·
    have hc131b := hc131
    try simp only [decide_eq_true_eq, decide_eq_false_iff_not, Bool.not_eq_true', Bool.not_eq_false', Bool.and_eq_true, Bool.or_eq_true, Int.not_lt, Int.not_le, ne_eq, Decidable.not_not] at hc131
    refine wp_exit ?_
    refine hK94 _ _ ?_
    refine wp_region_lit ?_
    refine l_q rfl rfl (q_moveI rfl) ?_
    refine l_q rfl rfl (q_addx rfl rfl (by first | decide | omega) (by first | decide | omega)) ?_
    refine l_q rfl rfl (q_assignI rfl) ?_
    refine l_nil ?_
    refine c_round ?_
    refine wp_seq_k (fun K132 hK132 => ?_)
    refine wp_seq_k (fun K133 hK133 => ?_)
    refine wp_region_lit ?_
    refine l_q rfl rfl (q_moveI rfl) ?_
    refine l_q rfl rfl (q_lss rfl rfl) ?_
    refine l_nil ?_
    refine hK133 _ _ ?_
    refine c_condF rfl (by decide) ?_
    refine wp_exit ?_
    refine hK7 _ _ ?_
    refine wp_seq_k (fun K135 hK135 => ?_)
    refine wp_region_lit ?_
    refine l_q rfl rfl (q_fieldAddr (ft := 4) (o := 0) rfl (by kernel_rfl)) ?_
    refine l_q rfl rfl (q_load1 rfl (by kernel_rfl) (hS124.cell (i := 3) rfl rfl)) ?_
    refine l_q rfl rfl (q_fieldAddr (ft := 4) (o := 0) rfl (by kernel_rfl)) ?_
    refine l_q rfl rfl (q_load1 rfl (by kernel_rfl) (hS124.cell (i := 2) rfl rfl)) ?_
    refine l_q rfl rfl (q_bool_neq rfl rfl (by kernel_rfl)) ?_
    refine l_q rfl rfl (q_fieldAddr (ft := 4) (o := 0) rfl (by kernel_rfl)) ?_
    refine l_e rfl (fun K hK => ?_)
    refine e_store1 hS124 rfl rfl (by kernel_rfl) (by first | rfl | assumption) (i := 0) rfl rfl (fun w136 (hS136 : St _ _ [.blk b6 (.cells #[_, .int .u64 (d22 : Int), .int .u64 (d63 : Int), .int .u64 (d104 : Int), .int .u64 (d113 : Int), .int .u64 (d122 : Int), .int .u64 (0 : Int)] 108), _, _, _] _) => ?_)
    clear hS124
    refine hK _ _ ?_; clear hK K
    refine l_nil ?_
    refine hK135 _ _ ?_
    refine wp_seq_k (fun K137 hK137 => ?_)
    refine wp_region_lit ?_
    refine l_q rfl rfl (q_loadA (m := 7) rfl (by kernel_rfl) (by kernel_rfl) (hS136.blk (i := 0) rfl) rfl rfl) ?_
    refine l_e rfl (fun K hK => ?_)
    refine e_storeA hS136 rfl rfl (by kernel_rfl) (by repeat' (first | exact trivial | refine ⟨by first | rfl | assumption | exact one_if (by assumption), ?_⟩)) (i := 1) rfl rfl (fun w138 (hS138 : St _ _ [_, .blk b4 (.cells #[_, .int .u64 (d22 : Int), .int .u64 (d63 : Int), .int .u64 (d104 : Int), .int .u64 (d113 : Int), .int .u64 (d122 : Int), .int .u64 (0 : Int)] 108), _, _] _) => ?_)
    clear hS136
    refine hK _ _ ?_; clear hK K
    refine l_nil ?_
    refine hK137 _ _ ?_
    refine wp_ret ?_
    refine c_retC (m := 7) rfl (by kernel_rfl) (by kernel_rfl) rfl (by first | exact hS138.blk (i := 0) rfl | exact hS138.blk (i := 1) rfl | exact hS138.blk (i := 2) rfl | exact hS138.blk (i := 3) rfl | exact hS138.blk (i := 4) rfl) rfl ?_
    have hdv : dv d22 d63 d104 d113 d122 0 = dv a0 a1 0 0 0 0 * 10000 := by unfold dv; omega
    exact ⟨_, rfl, ⟨m, d22, d63, d104, d113, d122, (by cases m <;> rfl), by omega, by omega, by omega, by omega, by omega, by rw [← sv_mul]; exact congrArg (sv m) hdv⟩, hS138.drop⟩

end Go.Proofs.YtdlmcgflgdmjgaaDoor
