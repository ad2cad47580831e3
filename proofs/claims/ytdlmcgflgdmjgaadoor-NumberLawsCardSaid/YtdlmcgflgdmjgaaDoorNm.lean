/- NumberLaws: its walk. -/
import Derived.Test.YtdlmcgflgdmjgaaDoorRs
import Derived.Test.YtdlmcgflgdmjgaaDoorSn
import Derived.Test.YtdlmcgflgdmjgaaDoorSd
import Derived.Test.YtdlmcgflgdmjgaaDoorSp
set_option linter.unusedVariables false
set_option linter.unusedSimpArgs false
namespace Go.Proofs.YtdlmcgflgdmjgaaDoor
open Go.RowKit
theorem Below.st {w w' : World} (h : Below w.heap.size w w') : St w (fun _ => False) [] w' := ⟨h.os, h.tape, h.output, h.size, fun k hk _ => h.block k hk, trivial⟩
theorem Laid.keepS {w0 w : World} {Γ : List Ch} (h : Laid w0) (hS : St w0 (fun _ => False) Γ w) : Laid w := (World.cell?_of_block (w := w0) (hS.keep 0 h.pos id)).trans h
theorem reckon_R (op k n l m : Int) (ha : Num k n) (hb : Num l m) (w : World) : Calls Tryd.prog 29 #[.int .i64 op, valV k n, valV l m] w (PostR w fun v => ∃ er, v = .tuple #[valV (rK (reckM op k n l m)) (rN (reckM op k n l m)), er] ∧ IsIf er ∧ isNilB er = rOk (reckM op k n l m)) := by
  refine (reckon_num op k n l m ha hb w).mono fun e w' ⟨h, hw⟩ => ?_
  cases hr : reckM op k n l m with
  | ok K X => rw [hr] at h; exact ⟨_, h, ⟨.nilIface, rfl, .inl rfl, rfl⟩, Below.st hw⟩
  | bad c a => rw [hr] at h; obtain ⟨b, h, _⟩ := h; exact ⟨_, h, ⟨errV b, rfl, .inr ⟨_, _, rfl⟩, rfl⟩, Below.st hw⟩
theorem rk_R {op k n l m K X : Int} (hr : reckM op k n l m = .ok K X) (ha : Num k n) (hb : Num l m) (w : World) : Calls Tryd.prog 29 #[.int .i64 op, valV k n, valV l m] w (PostR w fun v => v = .tuple #[valV K X, .nilIface]) :=
  (rk_ok hr ha hb w).mono fun e w' ⟨h, hw⟩ => ⟨_, h, rfl, Below.st hw⟩
theorem alive_R (w : World) (hl : Laid w) : Calls Tryd.prog 28 #[] w (PostR w fun v => v = .bool true) :=
  (alive_true w hl).mono fun e w' ⟨h, hw⟩ => ⟨_, h, rfl, Below.st hw⟩
theorem veq_true {a b c d : Int} (h : a = b) (h2 : c = d) : (a == b && c == d) = true := by subst h h2; simp
theorem veq_false {a b c d : Int} (h : a = b) (h2 : c = d) : (!(a == b && c == d)) = false := by rw [veq_true h h2]; rfl
theorem neqb_false {a b : Bool} (h : a = b) : (!(a == b)) = false := by subst h; cases a <;> rfl
def kD (d : Bool) : Int := if d then 3 else 2
theorem kD_or (d : Bool) : kD d = 2 ∨ kD d = 3 := by cases d; exact .inl rfl; exact .inr rfl
def oneD (d : Bool) : Int := if kD d = 3 then 10000 else 1
theorem fits_one (d : Bool) : fits (oneD d) = true := by cases d <;> rfl
theorem neqV_false {a b a' b' : Int} {l : List Nat} (h : a = a') (h2 : b = b') : (!decide ((a, b, l) = (a', b', l))) = false := by subst h h2; simp
theorem rm1 (d : Bool) {n : Int} (f : fits n = true) : reckM 5 (kD d) n (kD d) (oneD d) = .ok (kD d) n := reck_mul1 (kD_or d) f
theorem rd1 (d : Bool) {n : Int} (f : fits n = true) : reckM 6 (kD d) n (kD d) (oneD d) = .ok (kD d) n := reck_div1 (kD_or d) f
theorem eqV_true {a b a' b' : Int} {l : List Nat} (h : a = a') (h2 : b = b') : decide ((a, b, l) = (a', b', l)) = true := by subst h h2; simp
attribute [local irreducible] Oper.wp Sem.run Code.wp wpList wpAnyO callFunc execOp Calls
attribute [local irreducible] reckM rK rN rOk

set_option maxRecDepth 100000 in
theorem whole_R (n : Int) (w : World) : Calls Tryd.prog 30 #[.int .i64 n] w (PostR w fun v => v = valV 2 n) := by
  have hS := St.start w
  refine c_enter Tryd.func30 rfl rfl rfl ?_
  refine wp_seq_k (fun K1 hK1 => ?_)
  refine wp_region_lit ?_
  refine l_e rfl (fun K hK => ?_)
  refine e_alloc (zv := .agg #[.int .i64 0, .int .i64 0, .string ⟨#[]⟩]) hS (by kernel_rfl) (fun b2 w2 (hS2 : St _ _ [.blk b2 (.cells #[.int .i64 (0 : Int), .int .i64 (0 : Int), .string (bs [])] 51)] _) => ?_)
  clear hS
  refine hK _ _ ?_; clear hK K
  refine l_nil ?_
  refine hK1 _ _ ?_
  refine wp_seq_k (fun K3 hK3 => ?_)
  refine wp_region_lit ?_
  refine l_q rfl rfl (q_moveI rfl) ?_
  refine l_q rfl rfl (q_build (ps := [(0, 1), (1, 1), (2, 1)]) (zv := .agg #[.int .i64 0, .int .i64 0, .string ⟨#[]⟩]) (by kernel_rfl) (by kernel_rfl) rfl (by repeat' (first | exact trivial | refine ⟨fun _ => by first | rfl | assumption | exact one_if (by assumption), ?_⟩ | refine ⟨fun ⟨_, h⟩ => by simp at h, ?_⟩)) rfl) ?_
  refine l_e rfl (fun K hK => ?_)
  refine e_storeA hS2 rfl rfl (by kernel_rfl) (by repeat' (first | exact trivial | refine ⟨by first | rfl | assumption | exact one_if (by assumption), ?_⟩)) (i := 0) rfl rfl (fun w4 (hS4 : St _ _ [.blk b2 (.cells #[.int .i64 (2 : Int), .int .i64 n, .string (bs [])] 51)] _) => ?_)
  clear hS2
  refine hK _ _ ?_; clear hK K
  refine l_nil ?_
  refine hK3 _ _ ?_
  refine wp_ret ?_
  refine c_retC (m := 3) rfl (by kernel_rfl) (by kernel_rfl) rfl (by first | exact hS4.blk (i := 0) rfl | exact hS4.blk (i := 1) rfl | exact hS4.blk (i := 2) rfl | exact hS4.blk (i := 3) rfl | exact hS4.blk (i := 4) rfl) rfl ?_
  exact ⟨_, rfl, rfl, hS4.drop⟩

set_option maxRecDepth 100000 in
theorem dec_R (n : Int) (w : World) : Calls Tryd.prog 31 #[.int .i64 n] w (PostR w fun v => v = valV 3 n) := by
  have hS := St.start w
  refine c_enter Tryd.func31 rfl rfl rfl ?_
  refine wp_seq_k (fun K1 hK1 => ?_)
  refine wp_region_lit ?_
  refine l_e rfl (fun K hK => ?_)
  refine e_alloc (zv := .agg #[.int .i64 0, .int .i64 0, .string ⟨#[]⟩]) hS (by kernel_rfl) (fun b2 w2 (hS2 : St _ _ [.blk b2 (.cells #[.int .i64 (0 : Int), .int .i64 (0 : Int), .string (bs [])] 51)] _) => ?_)
  clear hS
  refine hK _ _ ?_; clear hK K
  refine l_nil ?_
  refine hK1 _ _ ?_
  refine wp_seq_k (fun K3 hK3 => ?_)
  refine wp_region_lit ?_
  refine l_q rfl rfl (q_moveI rfl) ?_
  refine l_q rfl rfl (q_build (ps := [(0, 1), (1, 1), (2, 1)]) (zv := .agg #[.int .i64 0, .int .i64 0, .string ⟨#[]⟩]) (by kernel_rfl) (by kernel_rfl) rfl (by repeat' (first | exact trivial | refine ⟨fun _ => by first | rfl | assumption | exact one_if (by assumption), ?_⟩ | refine ⟨fun ⟨_, h⟩ => by simp at h, ?_⟩)) rfl) ?_
  refine l_e rfl (fun K hK => ?_)
  refine e_storeA hS2 rfl rfl (by kernel_rfl) (by repeat' (first | exact trivial | refine ⟨by first | rfl | assumption | exact one_if (by assumption), ?_⟩)) (i := 0) rfl rfl (fun w4 (hS4 : St _ _ [.blk b2 (.cells #[.int .i64 (3 : Int), .int .i64 n, .string (bs [])] 51)] _) => ?_)
  clear hS2
  refine hK _ _ ?_; clear hK K
  refine l_nil ?_
  refine hK3 _ _ ?_
  refine wp_ret ?_
  refine c_retC (m := 3) rfl (by kernel_rfl) (by kernel_rfl) rfl (by first | exact hS4.blk (i := 0) rfl | exact hS4.blk (i := 1) rfl | exact hS4.blk (i := 2) rfl | exact hS4.blk (i := 3) rfl | exact hS4.blk (i := 4) rfl) rfl ?_
  exact ⟨_, rfl, rfl, hS4.drop⟩

theorem small_prods {a b c : Int} (ha : -1048576 < a) (ha' : a < 1048576) (hb : -1048576 < b) (hb' : b < 1048576) (hc : -1048576 < c) (hc' : c < 1048576) :
    reckM 5 2 a 2 b = .ok 2 (a * b) ∧ reckM 5 2 (a * b) 2 c = .ok 2 (a * b * c) ∧ reckM 5 2 b 2 c = .ok 2 (b * c) ∧ reckM 5 2 a 2 (b * c) = .ok 2 (a * (b * c)) ∧ fits (a * b) = true ∧ fits (b * c) = true ∧ (-9223372036854775808 ≤ a * b ∧ a * b ≤ 9223372036854775807) ∧ (-9223372036854775808 ≤ a * b * c ∧ a * b * c ≤ 9223372036854775807) := by
  have h1 := mul_small (A := 1048576) (B := 1048576) (a := a) (b := b) (by omega) (by omega) (by omega) (by omega)
  have h2 := mul_small (A := 1048576) (B := 1048576) (a := b) (b := c) (by omega) (by omega) (by omega) (by omega)
  have h3 := mul_small (A := 1099511627776) (B := 1048576) (a := a * b) (b := c) (by omega) (by omega) (by omega) (by omega)
  have h4 : a * (b * c) = a * b * c := (Int.mul_assoc a b c).symm
  have m (x y : Int) (h : fits (x * y) = true) : reckM 5 2 x 2 y = .ok 2 (x * y) := by
    rw [reck_int _ _ _ (by omega) (by omega), arith_mul (by rw [Int.tdiv_one]; exact h), Int.tdiv_one]
  have e1 : fits (a * b) = true := fits_of (by omega) (by omega)
  have e2 : fits (b * c) = true := fits_of (by omega) (by omega)
  have e3 : fits (a * b * c) = true := fits_of (by omega) (by omega)
  exact ⟨m _ _ e1, m _ _ e3, m _ _ e2, m _ _ (by rw [h4]; exact e3), e1, e2, ⟨by omega, by omega⟩, ⟨by omega, by omega⟩⟩

set_option maxHeartbeats 8000000 in
set_option maxRecDepth 100000 in
theorem lawsLaw_ok (n0 n1 n2 : Int) (d0 d1 : Bool) (f0 : fits n0 = true) (f1 : fits n1 = true) (f2 : fits n2 = true) (w : World) (hl : Laid w) : Calls Tryd.prog 9 #[.agg #[.int .i64 n0, .int .i64 n1, .int .i64 n2], .agg #[.bool d0, .bool d1]] w (PostR w fun v => v = .bool true) := by
  have hS := St.start w
  refine c_enter Tryd.func9 rfl rfl rfl ?_
  refine wp_seq_k (fun K1 hK1 => ?_)
  refine wp_region_lit ?_
  refine l_e rfl (fun K hK => ?_)
  refine e_boxA hS rfl (fun b2 w2 (hS2 : St _ _ [.blk b2 (.cells #[.int .i64 n0, .int .i64 n1, .int .i64 n2] 57)] _) => ?_)
  clear hS
  refine hK _ _ ?_; clear hK K
  refine l_e rfl (fun K hK => ?_)
  refine e_boxA hS2 rfl (fun b3 w3 (hS3 : St _ _ [.blk b3 (.cells #[.bool d0, .bool d1] 58), .blk b2 (.cells #[.int .i64 n0, .int .i64 n1, .int .i64 n2] 57)] _) => ?_)
  clear hS2
  refine hK _ _ ?_; clear hK K
  refine l_q rfl rfl (q_assignB rfl) ?_
  refine l_nil ?_
  refine hK1 _ _ ?_
  refine wp_seq_k (fun K4 hK4 => ?_)
  refine wp_region_lit ?_
  refine l_e rfl (fun K hK => ?_)
  refine e_alloc (zv := .agg #[.int .i64 0, .int .i64 0, .string ⟨#[]⟩, .int .i64 0, .int .i64 0, .string ⟨#[]⟩]) hS3 (by kernel_rfl) (fun b5 w5 (hS5 : St _ _ [.blk b5 (.cells #[.int .i64 (0 : Int), .int .i64 (0 : Int), .string (bs []), .int .i64 (0 : Int), .int .i64 (0 : Int), .string (bs [])] 59), .blk b3 (.cells #[.bool d0, .bool d1] 58), .blk b2 (.cells #[.int .i64 n0, .int .i64 n1, .int .i64 n2] 57)] _) => ?_)
  clear hS3
  refine hK _ _ ?_; clear hK K
  refine l_nil ?_
  refine hK4 _ _ ?_
  refine wp_seq_k (fun K6 hK6 => ?_)
  refine wp_seq_k (fun K7 hK7 => ?_)
  refine wp_region_lit ?_
  refine l_q rfl rfl (q_assignI rfl) ?_
  refine l_nil ?_
  refine hK7 _ _ ?_
  refine wp_block ?_
  refine c_rounds 3 ?_
  refine c_round ?_
  refine wp_seq_k (fun K8 hK8 => ?_)
  refine wp_seq_k (fun K9 hK9 => ?_)
  refine wp_region_lit ?_
  refine l_q rfl rfl (q_moveI rfl) ?_
  refine l_q rfl rfl (q_lss rfl rfl) ?_
  refine l_nil ?_
  refine hK9 _ _ ?_
  refine c_condT rfl (by decide) ?_
  refine wp_skip ?_
  refine hK8 _ _ ?_
  refine c_cut (τ := Unit) [(31, 45)] (fun x => []) (fun x w' => St w (fun _ => False) [.blk b5 (.cells #[.int .i64 (kD d0), .int .i64 n0, .string (bs []), .int .i64 (0 : Int), .int .i64 (0 : Int), .string (bs [])] 59), .blk b3 (.cells #[.bool d0, .bool d1] 58), .blk b2 (.cells #[.int .i64 n0, .int .i64 n1, .int .i64 n2] 57)] w') (fun K12 hK12 => ?_) (fun x12 j12 w12 hJ12 => ?_)
  ·
    refine wp_block ?_
    refine wp_seq_k (fun K13 hK13 => ?_)
    refine wp_region_lit ?_
    refine l_q rfl rfl (q_moveI rfl) ?_
    refine l_q rfl rfl (q_moveI rfl) ?_
    refine l_q rfl rfl (q_indexAddrA (len := 3) (e := 2) (m := 1) rfl rfl (by kernel_rfl) (by kernel_rfl) (by decide) (by decide)) ?_
    refine l_q rfl rfl (q_load1 rfl (by kernel_rfl) (hS5.cell (i := 2) rfl rfl)) ?_
    refine l_e rfl (fun K hK => ?_)
    refine e_call (by kernel_rfl) (whole_R n0 _) rfl (after_R hS5 (fun v14 w14 hv14 hS14 => ?_))
    clear hS5
    obtain rfl := hv14
    refine hK _ _ ?_; clear hK K
    refine l_q rfl rfl (q_indexAddrA (len := 2) (e := 51) (m := 3) rfl rfl (by kernel_rfl) (by kernel_rfl) (by decide) (by decide)) ?_
    refine l_e rfl (fun K hK => ?_)
    refine e_storeAt (cs := [.int .i64 (2 : Int), .int .i64 n0, .string (bs [])]) (ls := [.int .i64 (2 : Int), .int .i64 n0, .string (bs []), .int .i64 (0 : Int), .int .i64 (0 : Int), .string (bs [])]) hS14 rfl rfl (by kernel_rfl) (by repeat' (first | exact trivial | refine ⟨by first | rfl | assumption | exact one_if (by assumption), ?_⟩)) (i := 0) rfl rfl rfl (fun w15 (hS15 : St _ _ [.blk b5 (.cells #[.int .i64 (2 : Int), .int .i64 n0, .string (bs []), .int .i64 (0 : Int), .int .i64 (0 : Int), .string (bs [])] 59), .blk b3 (.cells #[.bool d0, .bool d1] 58), .blk b2 (.cells #[.int .i64 n0, .int .i64 n1, .int .i64 n2] 57)] _) => ?_)
    clear hS14
    refine hK _ _ ?_; clear hK K
    refine l_nil ?_
    refine hK13 _ _ ?_
    refine wp_seq_k (fun K16 hK16 => ?_)
    refine wp_region_lit ?_
    refine l_q rfl rfl (q_moveI rfl) ?_
    refine l_q rfl rfl (q_indexAddrA (len := 2) (e := 4) (m := 1) rfl rfl (by kernel_rfl) (by kernel_rfl) (by decide) (by decide)) ?_
    refine l_q rfl rfl (q_load1 rfl (by kernel_rfl) (hS15.cell (i := 1) rfl rfl)) ?_
    refine l_nil ?_
    refine hK16 _ _ ?_
    refine c_cond rfl (fun hc17 => ?_) (fun hc17 => ?_)
    ·
      have hc17b := hc17
      try simp only [decide_eq_true_eq, decide_eq_false_iff_not, Bool.not_eq_true', Bool.not_eq_false', Bool.and_eq_true, Bool.or_eq_true, Int.not_lt, Int.not_le, ne_eq, Decidable.not_not] at hc17
      have hk0 : kD d0 = 3 := by rw [hc17]; rfl
      refine wp_region_lit ?_
      refine l_q rfl rfl (q_moveI rfl) ?_
      refine l_q rfl rfl (q_moveI rfl) ?_
      refine l_q rfl rfl (q_indexAddrA (len := 3) (e := 2) (m := 1) rfl rfl (by kernel_rfl) (by kernel_rfl) (by decide) (by decide)) ?_
      refine l_q rfl rfl (q_load1 rfl (by kernel_rfl) (hS15.cell (i := 2) rfl rfl)) ?_
      refine l_e rfl (fun K hK => ?_)
      refine e_call (by kernel_rfl) (dec_R n0 _) rfl (after_R hS15 (fun v18 w18 hv18 hS18 => ?_))
      clear hS15
      obtain rfl := hv18
      refine hK _ _ ?_; clear hK K
      refine l_q rfl rfl (q_indexAddrA (len := 2) (e := 51) (m := 3) rfl rfl (by kernel_rfl) (by kernel_rfl) (by decide) (by decide)) ?_
      refine l_e rfl (fun K hK => ?_)
      refine e_storeAt (cs := [.int .i64 (3 : Int), .int .i64 n0, .string (bs [])]) (ls := [.int .i64 (3 : Int), .int .i64 n0, .string (bs []), .int .i64 (0 : Int), .int .i64 (0 : Int), .string (bs [])]) hS18 rfl rfl (by kernel_rfl) (by repeat' (first | exact trivial | refine ⟨by first | rfl | assumption | exact one_if (by assumption), ?_⟩)) (i := 0) rfl rfl rfl (fun w19 (hS19 : St _ _ [.blk b5 (.cells #[.int .i64 (3 : Int), .int .i64 n0, .string (bs []), .int .i64 (0 : Int), .int .i64 (0 : Int), .string (bs [])] 59), .blk b3 (.cells #[.bool d0, .bool d1] 58), .blk b2 (.cells #[.int .i64 n0, .int .i64 n1, .int .i64 n2] 57)] _) => ?_)
      clear hS18
      refine hK _ _ ?_; clear hK K
      refine l_nil ?_
      refine hK12 _ _ (came (()) (by repeat' (first | exact Agree.refl _ _ | refine Agree.up ?_ rfl | refine Agree.hav2 ?_ rfl | refine Agree.ups2 ?_ rfl)) (by repeat' (first | exact trivial | refine ⟨by first | rfl | exact int_succ _ | assumption, ?_⟩)) ?_)
      exact hS19.cast (by rw [hk0])
    ·
      have hc17b := hc17
      try simp only [decide_eq_true_eq, decide_eq_false_iff_not, Bool.not_eq_true', Bool.not_eq_false', Bool.and_eq_true, Bool.or_eq_true, Int.not_lt, Int.not_le, ne_eq, Decidable.not_not] at hc17
      have hk0 : kD d0 = 2 := by rw [hc17]; rfl
      refine wp_skip ?_
      refine hK12 _ _ (came (()) (by repeat' (first | exact Agree.refl _ _ | refine Agree.up ?_ rfl | refine Agree.hav2 ?_ rfl | refine Agree.ups2 ?_ rfl)) (by repeat' (first | exact trivial | refine ⟨by first | rfl | exact int_succ _ | assumption, ?_⟩)) ?_)
      exact hS15.cast (by rw [hk0])
  ·
    have hS12 := hJ12
    try dsimp only at hS12 ⊢
    refine wp_region_lit ?_
    refine l_q rfl rfl (q_moveI rfl) ?_
    refine l_q rfl rfl (q_addx rfl rfl (by first | decide | omega) (by first | decide | omega)) ?_
    refine l_q rfl rfl (q_assignI rfl) ?_
    refine l_nil ?_
    refine c_round ?_
    refine wp_seq_k (fun K20 hK20 => ?_)
    refine wp_seq_k (fun K21 hK21 => ?_)
    refine wp_region_lit ?_
    refine l_q rfl rfl (q_moveI rfl) ?_
    refine l_q rfl rfl (q_lss rfl rfl) ?_
    refine l_nil ?_
    refine hK21 _ _ ?_
    refine c_condT rfl (by decide) ?_
    refine wp_skip ?_
    refine hK20 _ _ ?_
    refine c_cut (τ := Unit) [(31, 45)] (fun x => []) (fun x w' => St w (fun _ => False) [.blk b5 (.cells #[.int .i64 (kD d0), .int .i64 n0, .string (bs []), .int .i64 (kD d1), .int .i64 n1, .string (bs [])] 59), .blk b3 (.cells #[.bool d0, .bool d1] 58), .blk b2 (.cells #[.int .i64 n0, .int .i64 n1, .int .i64 n2] 57)] w') (fun K24 hK24 => ?_) (fun x24 j24 w24 hJ24 => ?_)
    ·
      refine wp_block ?_
      refine wp_seq_k (fun K25 hK25 => ?_)
      refine wp_region_lit ?_
      refine l_q rfl rfl (q_moveI rfl) ?_
      refine l_q rfl rfl (q_moveI rfl) ?_
      refine l_q rfl rfl (q_indexAddrA (len := 3) (e := 2) (m := 1) rfl rfl (by kernel_rfl) (by kernel_rfl) (by decide) (by decide)) ?_
      refine l_q rfl rfl (q_load1 rfl (by kernel_rfl) (hS12.cell (i := 2) rfl rfl)) ?_
      refine l_e rfl (fun K hK => ?_)
      refine e_call (by kernel_rfl) (whole_R n1 _) rfl (after_R hS12 (fun v26 w26 hv26 hS26 => ?_))
      clear hS12
      obtain rfl := hv26
      refine hK _ _ ?_; clear hK K
      refine l_q rfl rfl (q_indexAddrA (len := 2) (e := 51) (m := 3) rfl rfl (by kernel_rfl) (by kernel_rfl) (by decide) (by decide)) ?_
      refine l_e rfl (fun K hK => ?_)
      refine e_storeAt (cs := [.int .i64 (2 : Int), .int .i64 n1, .string (bs [])]) (ls := [.int .i64 (kD d0), .int .i64 n0, .string (bs []), .int .i64 (2 : Int), .int .i64 n1, .string (bs [])]) hS26 rfl rfl (by kernel_rfl) (by repeat' (first | exact trivial | refine ⟨by first | rfl | assumption | exact one_if (by assumption), ?_⟩)) (i := 0) rfl rfl rfl (fun w27 (hS27 : St _ _ [.blk b5 (.cells #[.int .i64 (kD d0), .int .i64 n0, .string (bs []), .int .i64 (2 : Int), .int .i64 n1, .string (bs [])] 59), .blk b3 (.cells #[.bool d0, .bool d1] 58), .blk b2 (.cells #[.int .i64 n0, .int .i64 n1, .int .i64 n2] 57)] _) => ?_)
      clear hS26
      refine hK _ _ ?_; clear hK K
      refine l_nil ?_
      refine hK25 _ _ ?_
      refine wp_seq_k (fun K28 hK28 => ?_)
      refine wp_region_lit ?_
      refine l_q rfl rfl (q_moveI rfl) ?_
      refine l_q rfl rfl (q_indexAddrA (len := 2) (e := 4) (m := 1) rfl rfl (by kernel_rfl) (by kernel_rfl) (by decide) (by decide)) ?_
      refine l_q rfl rfl (q_load1 rfl (by kernel_rfl) (hS27.cell (i := 1) rfl rfl)) ?_
      refine l_nil ?_
      refine hK28 _ _ ?_
      refine c_cond rfl (fun hc29 => ?_) (fun hc29 => ?_)
      ·
        have hc29b := hc29
        try simp only [decide_eq_true_eq, decide_eq_false_iff_not, Bool.not_eq_true', Bool.not_eq_false', Bool.and_eq_true, Bool.or_eq_true, Int.not_lt, Int.not_le, ne_eq, Decidable.not_not] at hc29
        have hk1 : kD d1 = 3 := by rw [hc29]; rfl
        refine wp_region_lit ?_
        refine l_q rfl rfl (q_moveI rfl) ?_
        refine l_q rfl rfl (q_moveI rfl) ?_
        refine l_q rfl rfl (q_indexAddrA (len := 3) (e := 2) (m := 1) rfl rfl (by kernel_rfl) (by kernel_rfl) (by decide) (by decide)) ?_
        refine l_q rfl rfl (q_load1 rfl (by kernel_rfl) (hS27.cell (i := 2) rfl rfl)) ?_
        refine l_e rfl (fun K hK => ?_)
        refine e_call (by kernel_rfl) (dec_R n1 _) rfl (after_R hS27 (fun v30 w30 hv30 hS30 => ?_))
        clear hS27
        obtain rfl := hv30
        refine hK _ _ ?_; clear hK K
        refine l_q rfl rfl (q_indexAddrA (len := 2) (e := 51) (m := 3) rfl rfl (by kernel_rfl) (by kernel_rfl) (by decide) (by decide)) ?_
        refine l_e rfl (fun K hK => ?_)
        refine e_storeAt (cs := [.int .i64 (3 : Int), .int .i64 n1, .string (bs [])]) (ls := [.int .i64 (kD d0), .int .i64 n0, .string (bs []), .int .i64 (3 : Int), .int .i64 n1, .string (bs [])]) hS30 rfl rfl (by kernel_rfl) (by repeat' (first | exact trivial | refine ⟨by first | rfl | assumption | exact one_if (by assumption), ?_⟩)) (i := 0) rfl rfl rfl (fun w31 (hS31 : St _ _ [.blk b5 (.cells #[.int .i64 (kD d0), .int .i64 n0, .string (bs []), .int .i64 (3 : Int), .int .i64 n1, .string (bs [])] 59), .blk b3 (.cells #[.bool d0, .bool d1] 58), .blk b2 (.cells #[.int .i64 n0, .int .i64 n1, .int .i64 n2] 57)] _) => ?_)
        clear hS30
        refine hK _ _ ?_; clear hK K
        refine l_nil ?_
        refine hK24 _ _ (came (()) (by repeat' (first | exact Agree.refl _ _ | refine Agree.up ?_ rfl | refine Agree.hav2 ?_ rfl | refine Agree.ups2 ?_ rfl)) (by repeat' (first | exact trivial | refine ⟨by first | rfl | exact int_succ _ | assumption, ?_⟩)) ?_)
        exact hS31.cast (by rw [hk1])
      ·
        have hc29b := hc29
        try simp only [decide_eq_true_eq, decide_eq_false_iff_not, Bool.not_eq_true', Bool.not_eq_false', Bool.and_eq_true, Bool.or_eq_true, Int.not_lt, Int.not_le, ne_eq, Decidable.not_not] at hc29
        have hk1 : kD d1 = 2 := by rw [hc29]; rfl
        refine wp_skip ?_
        refine hK24 _ _ (came (()) (by repeat' (first | exact Agree.refl _ _ | refine Agree.up ?_ rfl | refine Agree.hav2 ?_ rfl | refine Agree.ups2 ?_ rfl)) (by repeat' (first | exact trivial | refine ⟨by first | rfl | exact int_succ _ | assumption, ?_⟩)) ?_)
        exact hS27.cast (by rw [hk1])
    ·
      have hS24 := hJ24
      try dsimp only at hS24 ⊢
      refine wp_region_lit ?_
      refine l_q rfl rfl (q_moveI rfl) ?_
      refine l_q rfl rfl (q_addx rfl rfl (by first | decide | omega) (by first | decide | omega)) ?_
      refine l_q rfl rfl (q_assignI rfl) ?_
      refine l_nil ?_
      refine c_round ?_
      refine wp_seq_k (fun K32 hK32 => ?_)
      refine wp_seq_k (fun K33 hK33 => ?_)
      refine wp_region_lit ?_
      refine l_q rfl rfl (q_moveI rfl) ?_
      refine l_q rfl rfl (q_lss rfl rfl) ?_
      refine l_nil ?_
      refine hK33 _ _ ?_
      refine c_condF rfl (by decide) ?_
      refine wp_exit ?_
      refine hK6 _ _ ?_
      refine wp_seq_k (fun K35 hK35 => ?_)
      refine wp_region_lit ?_
      refine l_q rfl rfl (q_indexAddrA (len := 2) (e := 51) (m := 3) rfl rfl (by kernel_rfl) (by kernel_rfl) (by decide) (by decide)) ?_
      refine l_q rfl rfl (q_loadA (m := 3) rfl (by kernel_rfl) (by kernel_rfl) (hS24.blk (i := 0) rfl) rfl rfl) ?_
      refine l_q rfl rfl (q_indexAddrA (len := 2) (e := 51) (m := 3) rfl rfl (by kernel_rfl) (by kernel_rfl) (by decide) (by decide)) ?_
      refine l_q rfl rfl (q_loadA (m := 3) rfl (by kernel_rfl) (by kernel_rfl) (hS24.blk (i := 0) rfl) rfl rfl) ?_
      refine l_e rfl (fun K hK => ?_)
      refine e_call (by kernel_rfl) (reckon_R 3 (kD d0) n0 (kD d1) n1 (num_of (kD_or d0) f0) (num_of (kD_or d1) f1) _) rfl (after_R hS24 (fun v36 w36 hv36 hS36 => ?_))
      clear hS24
      obtain ⟨er36, rfl, hi36, hn36⟩ := hv36
      refine hK _ _ ?_; clear hK K
      refine l_q rfl rfl (q_move rfl) ?_
      refine l_q rfl rfl (q_extract rfl rfl) ?_
      refine l_q rfl rfl (q_extract rfl rfl) ?_
      refine l_e rfl (fun K hK => ?_)
      refine e_alloc (zv := .agg #[.int .i64 0, .int .i64 0, .string ⟨#[]⟩]) hS36 (by kernel_rfl) (fun b37 w37 (hS37 : St _ _ [.blk b37 (.cells #[.int .i64 (0 : Int), .int .i64 (0 : Int), .string (bs [])] 51), .blk b5 (.cells #[.int .i64 (kD d0), .int .i64 n0, .string (bs []), .int .i64 (kD d1), .int .i64 n1, .string (bs [])] 59), .blk b3 (.cells #[.bool d0, .bool d1] 58), .blk b2 (.cells #[.int .i64 n0, .int .i64 n1, .int .i64 n2] 57)] _) => ?_)
      clear hS36
      refine hK _ _ ?_; clear hK K
      refine l_e rfl (fun K hK => ?_)
      refine e_storeA hS37 rfl rfl (by kernel_rfl) (by repeat' (first | exact trivial | refine ⟨by first | rfl | assumption | exact one_if (by assumption), ?_⟩)) (i := 0) rfl rfl (fun w38 (hS38 : St _ _ [.blk b37 (.cells #[.int .i64 (rK (reckM 3 (kD d0) n0 (kD d1) n1)), .int .i64 (rN (reckM 3 (kD d0) n0 (kD d1) n1)), .string (bs [])] 51), .blk b5 (.cells #[.int .i64 (kD d0), .int .i64 n0, .string (bs []), .int .i64 (kD d1), .int .i64 n1, .string (bs [])] 59), .blk b3 (.cells #[.bool d0, .bool d1] 58), .blk b2 (.cells #[.int .i64 n0, .int .i64 n1, .int .i64 n2] 57)] _) => ?_)
      clear hS37
      refine hK _ _ ?_; clear hK K
      refine l_q rfl rfl (q_assign rfl) ?_
      refine l_nil ?_
      refine hK35 _ _ ?_
      refine wp_seq_k (fun K39 hK39 => ?_)
      refine wp_region_lit ?_
      refine l_q rfl rfl (q_indexAddrA (len := 2) (e := 51) (m := 3) rfl rfl (by kernel_rfl) (by kernel_rfl) (by decide) (by decide)) ?_
      refine l_q rfl rfl (q_loadA (m := 3) rfl (by kernel_rfl) (by kernel_rfl) (hS38.blk (i := 1) rfl) rfl rfl) ?_
      refine l_q rfl rfl (q_indexAddrA (len := 2) (e := 51) (m := 3) rfl rfl (by kernel_rfl) (by kernel_rfl) (by decide) (by decide)) ?_
      refine l_q rfl rfl (q_loadA (m := 3) rfl (by kernel_rfl) (by kernel_rfl) (hS38.blk (i := 1) rfl) rfl rfl) ?_
      refine l_e rfl (fun K hK => ?_)
      refine e_call (by kernel_rfl) (reckon_R 3 (kD d1) n1 (kD d0) n0 (num_of (kD_or d1) f1) (num_of (kD_or d0) f0) _) rfl (after_R hS38 (fun v40 w40 hv40 hS40 => ?_))
      clear hS38
      obtain ⟨er40, rfl, hi40, hn40⟩ := hv40
      refine hK _ _ ?_; clear hK K
      refine l_q rfl rfl (q_move rfl) ?_
      refine l_q rfl rfl (q_extract rfl rfl) ?_
      refine l_q rfl rfl (q_extract rfl rfl) ?_
      refine l_e rfl (fun K hK => ?_)
      refine e_alloc (zv := .agg #[.int .i64 0, .int .i64 0, .string ⟨#[]⟩]) hS40 (by kernel_rfl) (fun b41 w41 (hS41 : St _ _ [.blk b41 (.cells #[.int .i64 (0 : Int), .int .i64 (0 : Int), .string (bs [])] 51), .blk b37 (.cells #[.int .i64 (rK (reckM 3 (kD d0) n0 (kD d1) n1)), .int .i64 (rN (reckM 3 (kD d0) n0 (kD d1) n1)), .string (bs [])] 51), .blk b5 (.cells #[.int .i64 (kD d0), .int .i64 n0, .string (bs []), .int .i64 (kD d1), .int .i64 n1, .string (bs [])] 59), .blk b3 (.cells #[.bool d0, .bool d1] 58), .blk b2 (.cells #[.int .i64 n0, .int .i64 n1, .int .i64 n2] 57)] _) => ?_)
      clear hS40
      refine hK _ _ ?_; clear hK K
      refine l_e rfl (fun K hK => ?_)
      refine e_storeA hS41 rfl rfl (by kernel_rfl) (by repeat' (first | exact trivial | refine ⟨by first | rfl | assumption | exact one_if (by assumption), ?_⟩)) (i := 0) rfl rfl (fun w42 (hS42 : St _ _ [.blk b41 (.cells #[.int .i64 (rK (reckM 3 (kD d1) n1 (kD d0) n0)), .int .i64 (rN (reckM 3 (kD d1) n1 (kD d0) n0)), .string (bs [])] 51), .blk b37 (.cells #[.int .i64 (rK (reckM 3 (kD d0) n0 (kD d1) n1)), .int .i64 (rN (reckM 3 (kD d0) n0 (kD d1) n1)), .string (bs [])] 51), .blk b5 (.cells #[.int .i64 (kD d0), .int .i64 n0, .string (bs []), .int .i64 (kD d1), .int .i64 n1, .string (bs [])] 59), .blk b3 (.cells #[.bool d0, .bool d1] 58), .blk b2 (.cells #[.int .i64 n0, .int .i64 n1, .int .i64 n2] 57)] _) => ?_)
      clear hS41
      refine hK _ _ ?_; clear hK K
      refine l_q rfl rfl (q_assign rfl) ?_
      refine l_nil ?_
      refine hK39 _ _ ?_
      refine wp_seq_k (fun K43 hK43 => ?_)
      refine wp_region_lit ?_
      refine l_q rfl rfl (q_indexAddrA (len := 2) (e := 51) (m := 3) rfl rfl (by kernel_rfl) (by kernel_rfl) (by decide) (by decide)) ?_
      refine l_q rfl rfl (q_loadA (m := 3) rfl (by kernel_rfl) (by kernel_rfl) (hS42.blk (i := 2) rfl) rfl rfl) ?_
      refine l_q rfl rfl (q_indexAddrA (len := 2) (e := 51) (m := 3) rfl rfl (by kernel_rfl) (by kernel_rfl) (by decide) (by decide)) ?_
      refine l_q rfl rfl (q_loadA (m := 3) rfl (by kernel_rfl) (by kernel_rfl) (hS42.blk (i := 2) rfl) rfl rfl) ?_
      refine l_e rfl (fun K hK => ?_)
      refine e_call (by kernel_rfl) (reckon_R 5 (kD d0) n0 (kD d1) n1 (num_of (kD_or d0) f0) (num_of (kD_or d1) f1) _) rfl (after_R hS42 (fun v44 w44 hv44 hS44 => ?_))
      clear hS42
      obtain ⟨er44, rfl, hi44, hn44⟩ := hv44
      refine hK _ _ ?_; clear hK K
      refine l_q rfl rfl (q_move rfl) ?_
      refine l_q rfl rfl (q_extract rfl rfl) ?_
      refine l_q rfl rfl (q_extract rfl rfl) ?_
      refine l_e rfl (fun K hK => ?_)
      refine e_alloc (zv := .agg #[.int .i64 0, .int .i64 0, .string ⟨#[]⟩]) hS44 (by kernel_rfl) (fun b45 w45 (hS45 : St _ _ [.blk b45 (.cells #[.int .i64 (0 : Int), .int .i64 (0 : Int), .string (bs [])] 51), .blk b41 (.cells #[.int .i64 (rK (reckM 3 (kD d1) n1 (kD d0) n0)), .int .i64 (rN (reckM 3 (kD d1) n1 (kD d0) n0)), .string (bs [])] 51), .blk b37 (.cells #[.int .i64 (rK (reckM 3 (kD d0) n0 (kD d1) n1)), .int .i64 (rN (reckM 3 (kD d0) n0 (kD d1) n1)), .string (bs [])] 51), .blk b5 (.cells #[.int .i64 (kD d0), .int .i64 n0, .string (bs []), .int .i64 (kD d1), .int .i64 n1, .string (bs [])] 59), .blk b3 (.cells #[.bool d0, .bool d1] 58), .blk b2 (.cells #[.int .i64 n0, .int .i64 n1, .int .i64 n2] 57)] _) => ?_)
      clear hS44
      refine hK _ _ ?_; clear hK K
      refine l_e rfl (fun K hK => ?_)
      refine e_storeA hS45 rfl rfl (by kernel_rfl) (by repeat' (first | exact trivial | refine ⟨by first | rfl | assumption | exact one_if (by assumption), ?_⟩)) (i := 0) rfl rfl (fun w46 (hS46 : St _ _ [.blk b45 (.cells #[.int .i64 (rK (reckM 5 (kD d0) n0 (kD d1) n1)), .int .i64 (rN (reckM 5 (kD d0) n0 (kD d1) n1)), .string (bs [])] 51), .blk b41 (.cells #[.int .i64 (rK (reckM 3 (kD d1) n1 (kD d0) n0)), .int .i64 (rN (reckM 3 (kD d1) n1 (kD d0) n0)), .string (bs [])] 51), .blk b37 (.cells #[.int .i64 (rK (reckM 3 (kD d0) n0 (kD d1) n1)), .int .i64 (rN (reckM 3 (kD d0) n0 (kD d1) n1)), .string (bs [])] 51), .blk b5 (.cells #[.int .i64 (kD d0), .int .i64 n0, .string (bs []), .int .i64 (kD d1), .int .i64 n1, .string (bs [])] 59), .blk b3 (.cells #[.bool d0, .bool d1] 58), .blk b2 (.cells #[.int .i64 n0, .int .i64 n1, .int .i64 n2] 57)] _) => ?_)
      clear hS45
      refine hK _ _ ?_; clear hK K
      refine l_q rfl rfl (q_assign rfl) ?_
      refine l_nil ?_
      refine hK43 _ _ ?_
      refine wp_seq_k (fun K47 hK47 => ?_)
      refine wp_region_lit ?_
      refine l_q rfl rfl (q_indexAddrA (len := 2) (e := 51) (m := 3) rfl rfl (by kernel_rfl) (by kernel_rfl) (by decide) (by decide)) ?_
      refine l_q rfl rfl (q_loadA (m := 3) rfl (by kernel_rfl) (by kernel_rfl) (hS46.blk (i := 3) rfl) rfl rfl) ?_
      refine l_q rfl rfl (q_indexAddrA (len := 2) (e := 51) (m := 3) rfl rfl (by kernel_rfl) (by kernel_rfl) (by decide) (by decide)) ?_
      refine l_q rfl rfl (q_loadA (m := 3) rfl (by kernel_rfl) (by kernel_rfl) (hS46.blk (i := 3) rfl) rfl rfl) ?_
      refine l_e rfl (fun K hK => ?_)
      refine e_call (by kernel_rfl) (reckon_R 5 (kD d1) n1 (kD d0) n0 (num_of (kD_or d1) f1) (num_of (kD_or d0) f0) _) rfl (after_R hS46 (fun v48 w48 hv48 hS48 => ?_))
      clear hS46
      obtain ⟨er48, rfl, hi48, hn48⟩ := hv48
      refine hK _ _ ?_; clear hK K
      refine l_q rfl rfl (q_move rfl) ?_
      refine l_q rfl rfl (q_extract rfl rfl) ?_
      refine l_q rfl rfl (q_extract rfl rfl) ?_
      refine l_e rfl (fun K hK => ?_)
      refine e_alloc (zv := .agg #[.int .i64 0, .int .i64 0, .string ⟨#[]⟩]) hS48 (by kernel_rfl) (fun b49 w49 (hS49 : St _ _ [.blk b49 (.cells #[.int .i64 (0 : Int), .int .i64 (0 : Int), .string (bs [])] 51), .blk b45 (.cells #[.int .i64 (rK (reckM 5 (kD d0) n0 (kD d1) n1)), .int .i64 (rN (reckM 5 (kD d0) n0 (kD d1) n1)), .string (bs [])] 51), .blk b41 (.cells #[.int .i64 (rK (reckM 3 (kD d1) n1 (kD d0) n0)), .int .i64 (rN (reckM 3 (kD d1) n1 (kD d0) n0)), .string (bs [])] 51), .blk b37 (.cells #[.int .i64 (rK (reckM 3 (kD d0) n0 (kD d1) n1)), .int .i64 (rN (reckM 3 (kD d0) n0 (kD d1) n1)), .string (bs [])] 51), .blk b5 (.cells #[.int .i64 (kD d0), .int .i64 n0, .string (bs []), .int .i64 (kD d1), .int .i64 n1, .string (bs [])] 59), .blk b3 (.cells #[.bool d0, .bool d1] 58), .blk b2 (.cells #[.int .i64 n0, .int .i64 n1, .int .i64 n2] 57)] _) => ?_)
      clear hS48
      refine hK _ _ ?_; clear hK K
      refine l_e rfl (fun K hK => ?_)
      refine e_storeA hS49 rfl rfl (by kernel_rfl) (by repeat' (first | exact trivial | refine ⟨by first | rfl | assumption | exact one_if (by assumption), ?_⟩)) (i := 0) rfl rfl (fun w50 (hS50 : St _ _ [.blk b49 (.cells #[.int .i64 (rK (reckM 5 (kD d1) n1 (kD d0) n0)), .int .i64 (rN (reckM 5 (kD d1) n1 (kD d0) n0)), .string (bs [])] 51), .blk b45 (.cells #[.int .i64 (rK (reckM 5 (kD d0) n0 (kD d1) n1)), .int .i64 (rN (reckM 5 (kD d0) n0 (kD d1) n1)), .string (bs [])] 51), .blk b41 (.cells #[.int .i64 (rK (reckM 3 (kD d1) n1 (kD d0) n0)), .int .i64 (rN (reckM 3 (kD d1) n1 (kD d0) n0)), .string (bs [])] 51), .blk b37 (.cells #[.int .i64 (rK (reckM 3 (kD d0) n0 (kD d1) n1)), .int .i64 (rN (reckM 3 (kD d0) n0 (kD d1) n1)), .string (bs [])] 51), .blk b5 (.cells #[.int .i64 (kD d0), .int .i64 n0, .string (bs []), .int .i64 (kD d1), .int .i64 n1, .string (bs [])] 59), .blk b3 (.cells #[.bool d0, .bool d1] 58), .blk b2 (.cells #[.int .i64 n0, .int .i64 n1, .int .i64 n2] 57)] _) => ?_)
      clear hS49
      refine hK _ _ ?_; clear hK K
      refine l_q rfl rfl (q_assign rfl) ?_
      refine l_nil ?_
      refine hK47 _ _ ?_
      refine wp_seq_k (fun K51 hK51 => ?_)
      refine wp_region_lit ?_
      refine l_e rfl (fun K hK => ?_)
      refine e_call (by kernel_rfl) (whole_R (1 : Int) _) rfl (after_R hS50 (fun v52 w52 hv52 hS52 => ?_))
      clear hS50
      obtain rfl := hv52
      refine hK _ _ ?_; clear hK K
      refine l_e rfl (fun K hK => ?_)
      refine e_alloc (zv := .agg #[.int .i64 0, .int .i64 0, .string ⟨#[]⟩]) hS52 (by kernel_rfl) (fun b53 w53 (hS53 : St _ _ [.blk b53 (.cells #[.int .i64 (0 : Int), .int .i64 (0 : Int), .string (bs [])] 51), .blk b49 (.cells #[.int .i64 (rK (reckM 5 (kD d1) n1 (kD d0) n0)), .int .i64 (rN (reckM 5 (kD d1) n1 (kD d0) n0)), .string (bs [])] 51), .blk b45 (.cells #[.int .i64 (rK (reckM 5 (kD d0) n0 (kD d1) n1)), .int .i64 (rN (reckM 5 (kD d0) n0 (kD d1) n1)), .string (bs [])] 51), .blk b41 (.cells #[.int .i64 (rK (reckM 3 (kD d1) n1 (kD d0) n0)), .int .i64 (rN (reckM 3 (kD d1) n1 (kD d0) n0)), .string (bs [])] 51), .blk b37 (.cells #[.int .i64 (rK (reckM 3 (kD d0) n0 (kD d1) n1)), .int .i64 (rN (reckM 3 (kD d0) n0 (kD d1) n1)), .string (bs [])] 51), .blk b5 (.cells #[.int .i64 (kD d0), .int .i64 n0, .string (bs []), .int .i64 (kD d1), .int .i64 n1, .string (bs [])] 59), .blk b3 (.cells #[.bool d0, .bool d1] 58), .blk b2 (.cells #[.int .i64 n0, .int .i64 n1, .int .i64 n2] 57)] _) => ?_)
      clear hS52
      refine hK _ _ ?_; clear hK K
      refine l_e rfl (fun K hK => ?_)
      refine e_storeA hS53 rfl rfl (by kernel_rfl) (by repeat' (first | exact trivial | refine ⟨by first | rfl | assumption | exact one_if (by assumption), ?_⟩)) (i := 0) rfl rfl (fun w54 (hS54 : St _ _ [.blk b53 (.cells #[.int .i64 (2 : Int), .int .i64 (1 : Int), .string (bs [])] 51), .blk b49 (.cells #[.int .i64 (rK (reckM 5 (kD d1) n1 (kD d0) n0)), .int .i64 (rN (reckM 5 (kD d1) n1 (kD d0) n0)), .string (bs [])] 51), .blk b45 (.cells #[.int .i64 (rK (reckM 5 (kD d0) n0 (kD d1) n1)), .int .i64 (rN (reckM 5 (kD d0) n0 (kD d1) n1)), .string (bs [])] 51), .blk b41 (.cells #[.int .i64 (rK (reckM 3 (kD d1) n1 (kD d0) n0)), .int .i64 (rN (reckM 3 (kD d1) n1 (kD d0) n0)), .string (bs [])] 51), .blk b37 (.cells #[.int .i64 (rK (reckM 3 (kD d0) n0 (kD d1) n1)), .int .i64 (rN (reckM 3 (kD d0) n0 (kD d1) n1)), .string (bs [])] 51), .blk b5 (.cells #[.int .i64 (kD d0), .int .i64 n0, .string (bs []), .int .i64 (kD d1), .int .i64 n1, .string (bs [])] 59), .blk b3 (.cells #[.bool d0, .bool d1] 58), .blk b2 (.cells #[.int .i64 n0, .int .i64 n1, .int .i64 n2] 57)] _) => ?_)
      clear hS53
      refine hK _ _ ?_; clear hK K
      refine l_nil ?_
      refine hK51 _ _ ?_
      refine c_cut (τ := Unit) [(79, 81)] (fun x => []) (fun x w' => St w (fun _ => False) [.blk b53 (.cells #[.int .i64 (kD d0), .int .i64 (oneD d0), .string (bs [])] 51), .blk b49 (.cells #[.int .i64 (rK (reckM 5 (kD d1) n1 (kD d0) n0)), .int .i64 (rN (reckM 5 (kD d1) n1 (kD d0) n0)), .string (bs [])] 51), .blk b45 (.cells #[.int .i64 (rK (reckM 5 (kD d0) n0 (kD d1) n1)), .int .i64 (rN (reckM 5 (kD d0) n0 (kD d1) n1)), .string (bs [])] 51), .blk b41 (.cells #[.int .i64 (rK (reckM 3 (kD d1) n1 (kD d0) n0)), .int .i64 (rN (reckM 3 (kD d1) n1 (kD d0) n0)), .string (bs [])] 51), .blk b37 (.cells #[.int .i64 (rK (reckM 3 (kD d0) n0 (kD d1) n1)), .int .i64 (rN (reckM 3 (kD d0) n0 (kD d1) n1)), .string (bs [])] 51), .blk b5 (.cells #[.int .i64 (kD d0), .int .i64 n0, .string (bs []), .int .i64 (kD d1), .int .i64 n1, .string (bs [])] 59), .blk b3 (.cells #[.bool d0, .bool d1] 58), .blk b2 (.cells #[.int .i64 n0, .int .i64 n1, .int .i64 n2] 57)] w') (fun K56 hK56 => ?_) (fun x56 j56 w56 hJ56 => ?_)
      ·
        refine wp_seq_k (fun K57 hK57 => ?_)
        refine wp_region_lit ?_
        refine l_q rfl rfl (q_indexAddrA (len := 2) (e := 4) (m := 1) rfl rfl (by kernel_rfl) (by kernel_rfl) (by decide) (by decide)) ?_
        refine l_q rfl rfl (q_load1 rfl (by kernel_rfl) (hS54.cell (i := 6) rfl rfl)) ?_
        refine l_nil ?_
        refine hK57 _ _ ?_
        refine c_cond rfl (fun hc58 => ?_) (fun hc58 => ?_)
        ·
          have hc58b := hc58
          try simp only [decide_eq_true_eq, decide_eq_false_iff_not, Bool.not_eq_true', Bool.not_eq_false', Bool.and_eq_true, Bool.or_eq_true, Int.not_lt, Int.not_le, ne_eq, Decidable.not_not] at hc58
          have hk : kD d0 = 3 := by rw [hc58]; rfl
          have ho : oneD d0 = 10000 := by unfold oneD; rw [hk]; rfl
          refine wp_region_lit ?_
          refine l_e rfl (fun K hK => ?_)
          refine e_call (by kernel_rfl) (dec_R (10000 : Int) _) rfl (after_R hS54 (fun v59 w59 hv59 hS59 => ?_))
          clear hS54
          obtain rfl := hv59
          refine hK _ _ ?_; clear hK K
          refine l_e rfl (fun K hK => ?_)
          refine e_storeA hS59 rfl rfl (by kernel_rfl) (by repeat' (first | exact trivial | refine ⟨by first | rfl | assumption | exact one_if (by assumption), ?_⟩)) (i := 0) rfl rfl (fun w60 (hS60 : St _ _ [.blk b53 (.cells #[.int .i64 (3 : Int), .int .i64 (10000 : Int), .string (bs [])] 51), .blk b49 (.cells #[.int .i64 (rK (reckM 5 (kD d1) n1 (kD d0) n0)), .int .i64 (rN (reckM 5 (kD d1) n1 (kD d0) n0)), .string (bs [])] 51), .blk b45 (.cells #[.int .i64 (rK (reckM 5 (kD d0) n0 (kD d1) n1)), .int .i64 (rN (reckM 5 (kD d0) n0 (kD d1) n1)), .string (bs [])] 51), .blk b41 (.cells #[.int .i64 (rK (reckM 3 (kD d1) n1 (kD d0) n0)), .int .i64 (rN (reckM 3 (kD d1) n1 (kD d0) n0)), .string (bs [])] 51), .blk b37 (.cells #[.int .i64 (rK (reckM 3 (kD d0) n0 (kD d1) n1)), .int .i64 (rN (reckM 3 (kD d0) n0 (kD d1) n1)), .string (bs [])] 51), .blk b5 (.cells #[.int .i64 (kD d0), .int .i64 n0, .string (bs []), .int .i64 (kD d1), .int .i64 n1, .string (bs [])] 59), .blk b3 (.cells #[.bool d0, .bool d1] 58), .blk b2 (.cells #[.int .i64 n0, .int .i64 n1, .int .i64 n2] 57)] _) => ?_)
          clear hS59
          refine hK _ _ ?_; clear hK K
          refine l_nil ?_
          refine hK56 _ _ (came (()) (by repeat' (first | exact Agree.refl _ _ | refine Agree.up ?_ rfl | refine Agree.hav2 ?_ rfl | refine Agree.ups2 ?_ rfl)) (by repeat' (first | exact trivial | refine ⟨by first | rfl | exact int_succ _ | assumption, ?_⟩)) ?_)
          exact hS60.cast (by rw [ho, hk])
        ·
          have hc58b := hc58
          try simp only [decide_eq_true_eq, decide_eq_false_iff_not, Bool.not_eq_true', Bool.not_eq_false', Bool.and_eq_true, Bool.or_eq_true, Int.not_lt, Int.not_le, ne_eq, Decidable.not_not] at hc58
          have hk : kD d0 = 2 := by rw [hc58]; rfl
          have ho : oneD d0 = 1 := by unfold oneD; rw [hk]; rfl
          refine wp_skip ?_
          refine hK56 _ _ (came (()) (by repeat' (first | exact Agree.refl _ _ | refine Agree.up ?_ rfl | refine Agree.hav2 ?_ rfl | refine Agree.ups2 ?_ rfl)) (by repeat' (first | exact trivial | refine ⟨by first | rfl | exact int_succ _ | assumption, ?_⟩)) ?_)
          exact hS54.cast (by rw [ho, hk])
      ·
        have hS56 := hJ56
        try dsimp only at hS56 ⊢
        refine wp_seq_k (fun K61 hK61 => ?_)
        refine wp_region_lit ?_
        refine l_q rfl rfl (q_indexAddrA (len := 2) (e := 51) (m := 3) rfl rfl (by kernel_rfl) (by kernel_rfl) (by decide) (by decide)) ?_
        refine l_q rfl rfl (q_loadA (m := 3) rfl (by kernel_rfl) (by kernel_rfl) (hS56.blk (i := 5) rfl) rfl rfl) ?_
        refine l_q rfl rfl (q_loadA (m := 3) rfl (by kernel_rfl) (by kernel_rfl) (hS56.blk (i := 0) rfl) rfl rfl) ?_
        refine l_e rfl (fun K hK => ?_)
        refine e_call (by kernel_rfl) (rk_R (rm1 d0 f0) (num_of (kD_or d0) f0) (num_of (kD_or d0) (fits_one d0)) _) rfl (after_R hS56 (fun v62 w62 hv62 hS62 => ?_))
        clear hS56
        obtain rfl := hv62
        refine hK _ _ ?_; clear hK K
        refine l_q rfl rfl (q_move rfl) ?_
        refine l_q rfl rfl (q_extract rfl rfl) ?_
        refine l_q rfl rfl (q_extract rfl rfl) ?_
        refine l_e rfl (fun K hK => ?_)
        refine e_alloc (zv := .agg #[.int .i64 0, .int .i64 0, .string ⟨#[]⟩]) hS62 (by kernel_rfl) (fun b63 w63 (hS63 : St _ _ [.blk b63 (.cells #[.int .i64 (0 : Int), .int .i64 (0 : Int), .string (bs [])] 51), .blk b53 (.cells #[.int .i64 (kD d0), .int .i64 (oneD d0), .string (bs [])] 51), .blk b49 (.cells #[.int .i64 (rK (reckM 5 (kD d1) n1 (kD d0) n0)), .int .i64 (rN (reckM 5 (kD d1) n1 (kD d0) n0)), .string (bs [])] 51), .blk b45 (.cells #[.int .i64 (rK (reckM 5 (kD d0) n0 (kD d1) n1)), .int .i64 (rN (reckM 5 (kD d0) n0 (kD d1) n1)), .string (bs [])] 51), .blk b41 (.cells #[.int .i64 (rK (reckM 3 (kD d1) n1 (kD d0) n0)), .int .i64 (rN (reckM 3 (kD d1) n1 (kD d0) n0)), .string (bs [])] 51), .blk b37 (.cells #[.int .i64 (rK (reckM 3 (kD d0) n0 (kD d1) n1)), .int .i64 (rN (reckM 3 (kD d0) n0 (kD d1) n1)), .string (bs [])] 51), .blk b5 (.cells #[.int .i64 (kD d0), .int .i64 n0, .string (bs []), .int .i64 (kD d1), .int .i64 n1, .string (bs [])] 59), .blk b3 (.cells #[.bool d0, .bool d1] 58), .blk b2 (.cells #[.int .i64 n0, .int .i64 n1, .int .i64 n2] 57)] _) => ?_)
        clear hS62
        refine hK _ _ ?_; clear hK K
        refine l_e rfl (fun K hK => ?_)
        refine e_storeA hS63 rfl rfl (by kernel_rfl) (by repeat' (first | exact trivial | refine ⟨by first | rfl | assumption | exact one_if (by assumption), ?_⟩)) (i := 0) rfl rfl (fun w64 (hS64 : St _ _ [.blk b63 (.cells #[.int .i64 (kD d0), .int .i64 n0, .string (bs [])] 51), .blk b53 (.cells #[.int .i64 (kD d0), .int .i64 (oneD d0), .string (bs [])] 51), .blk b49 (.cells #[.int .i64 (rK (reckM 5 (kD d1) n1 (kD d0) n0)), .int .i64 (rN (reckM 5 (kD d1) n1 (kD d0) n0)), .string (bs [])] 51), .blk b45 (.cells #[.int .i64 (rK (reckM 5 (kD d0) n0 (kD d1) n1)), .int .i64 (rN (reckM 5 (kD d0) n0 (kD d1) n1)), .string (bs [])] 51), .blk b41 (.cells #[.int .i64 (rK (reckM 3 (kD d1) n1 (kD d0) n0)), .int .i64 (rN (reckM 3 (kD d1) n1 (kD d0) n0)), .string (bs [])] 51), .blk b37 (.cells #[.int .i64 (rK (reckM 3 (kD d0) n0 (kD d1) n1)), .int .i64 (rN (reckM 3 (kD d0) n0 (kD d1) n1)), .string (bs [])] 51), .blk b5 (.cells #[.int .i64 (kD d0), .int .i64 n0, .string (bs []), .int .i64 (kD d1), .int .i64 n1, .string (bs [])] 59), .blk b3 (.cells #[.bool d0, .bool d1] 58), .blk b2 (.cells #[.int .i64 n0, .int .i64 n1, .int .i64 n2] 57)] _) => ?_)
        clear hS63
        refine hK _ _ ?_; clear hK K
        refine l_q rfl rfl (q_assign rfl) ?_
        refine l_nil ?_
        refine hK61 _ _ ?_
        refine wp_seq_k (fun K65 hK65 => ?_)
        refine wp_region_lit ?_
        refine l_q rfl rfl (q_indexAddrA (len := 2) (e := 51) (m := 3) rfl rfl (by kernel_rfl) (by kernel_rfl) (by decide) (by decide)) ?_
        refine l_q rfl rfl (q_loadA (m := 3) rfl (by kernel_rfl) (by kernel_rfl) (hS64.blk (i := 6) rfl) rfl rfl) ?_
        refine l_q rfl rfl (q_indexAddrA (len := 2) (e := 51) (m := 3) rfl rfl (by kernel_rfl) (by kernel_rfl) (by decide) (by decide)) ?_
        refine l_q rfl rfl (q_fieldAddr (ft := 49) (o := 0) rfl (by kernel_rfl)) ?_
        refine l_q rfl rfl (q_load1 rfl (by kernel_rfl) (hS64.cell (i := 6) rfl rfl)) ?_
        refine l_q rfl rfl (q_build (ps := [(0, 1), (1, 1), (2, 1)]) (zv := .agg #[.int .i64 0, .int .i64 0, .string ⟨#[]⟩]) (by kernel_rfl) (by kernel_rfl) rfl (by repeat' (first | exact trivial | refine ⟨fun _ => by first | rfl | assumption | exact one_if (by assumption), ?_⟩ | refine ⟨fun ⟨_, h⟩ => by simp at h, ?_⟩)) rfl) ?_
        refine l_e rfl (fun K hK => ?_)
        refine e_call (by kernel_rfl) (rk_R (reck_add0 (kD_or d0) f0) (num_of (kD_or d0) f0) (num_of (kD_or d0) rfl) _) rfl (after_R hS64 (fun v66 w66 hv66 hS66 => ?_))
        clear hS64
        obtain rfl := hv66
        refine hK _ _ ?_; clear hK K
        refine l_q rfl rfl (q_move rfl) ?_
        refine l_q rfl rfl (q_extract rfl rfl) ?_
        refine l_q rfl rfl (q_extract rfl rfl) ?_
        refine l_e rfl (fun K hK => ?_)
        refine e_alloc (zv := .agg #[.int .i64 0, .int .i64 0, .string ⟨#[]⟩]) hS66 (by kernel_rfl) (fun b67 w67 (hS67 : St _ _ [.blk b67 (.cells #[.int .i64 (0 : Int), .int .i64 (0 : Int), .string (bs [])] 51), .blk b63 (.cells #[.int .i64 (kD d0), .int .i64 n0, .string (bs [])] 51), .blk b53 (.cells #[.int .i64 (kD d0), .int .i64 (oneD d0), .string (bs [])] 51), .blk b49 (.cells #[.int .i64 (rK (reckM 5 (kD d1) n1 (kD d0) n0)), .int .i64 (rN (reckM 5 (kD d1) n1 (kD d0) n0)), .string (bs [])] 51), .blk b45 (.cells #[.int .i64 (rK (reckM 5 (kD d0) n0 (kD d1) n1)), .int .i64 (rN (reckM 5 (kD d0) n0 (kD d1) n1)), .string (bs [])] 51), .blk b41 (.cells #[.int .i64 (rK (reckM 3 (kD d1) n1 (kD d0) n0)), .int .i64 (rN (reckM 3 (kD d1) n1 (kD d0) n0)), .string (bs [])] 51), .blk b37 (.cells #[.int .i64 (rK (reckM 3 (kD d0) n0 (kD d1) n1)), .int .i64 (rN (reckM 3 (kD d0) n0 (kD d1) n1)), .string (bs [])] 51), .blk b5 (.cells #[.int .i64 (kD d0), .int .i64 n0, .string (bs []), .int .i64 (kD d1), .int .i64 n1, .string (bs [])] 59), .blk b3 (.cells #[.bool d0, .bool d1] 58), .blk b2 (.cells #[.int .i64 n0, .int .i64 n1, .int .i64 n2] 57)] _) => ?_)
        clear hS66
        refine hK _ _ ?_; clear hK K
        refine l_e rfl (fun K hK => ?_)
        refine e_storeA hS67 rfl rfl (by kernel_rfl) (by repeat' (first | exact trivial | refine ⟨by first | rfl | assumption | exact one_if (by assumption), ?_⟩)) (i := 0) rfl rfl (fun w68 (hS68 : St _ _ [.blk b67 (.cells #[.int .i64 (kD d0), .int .i64 n0, .string (bs [])] 51), .blk b63 (.cells #[.int .i64 (kD d0), .int .i64 n0, .string (bs [])] 51), .blk b53 (.cells #[.int .i64 (kD d0), .int .i64 (oneD d0), .string (bs [])] 51), .blk b49 (.cells #[.int .i64 (rK (reckM 5 (kD d1) n1 (kD d0) n0)), .int .i64 (rN (reckM 5 (kD d1) n1 (kD d0) n0)), .string (bs [])] 51), .blk b45 (.cells #[.int .i64 (rK (reckM 5 (kD d0) n0 (kD d1) n1)), .int .i64 (rN (reckM 5 (kD d0) n0 (kD d1) n1)), .string (bs [])] 51), .blk b41 (.cells #[.int .i64 (rK (reckM 3 (kD d1) n1 (kD d0) n0)), .int .i64 (rN (reckM 3 (kD d1) n1 (kD d0) n0)), .string (bs [])] 51), .blk b37 (.cells #[.int .i64 (rK (reckM 3 (kD d0) n0 (kD d1) n1)), .int .i64 (rN (reckM 3 (kD d0) n0 (kD d1) n1)), .string (bs [])] 51), .blk b5 (.cells #[.int .i64 (kD d0), .int .i64 n0, .string (bs []), .int .i64 (kD d1), .int .i64 n1, .string (bs [])] 59), .blk b3 (.cells #[.bool d0, .bool d1] 58), .blk b2 (.cells #[.int .i64 n0, .int .i64 n1, .int .i64 n2] 57)] _) => ?_)
        clear hS67
        refine hK _ _ ?_; clear hK K
        refine l_q rfl rfl (q_assign rfl) ?_
        refine l_nil ?_
        refine hK65 _ _ ?_
        refine wp_seq_k (fun K69 hK69 => ?_)
        refine wp_region_lit ?_
        refine l_q rfl rfl (q_indexAddrA (len := 2) (e := 51) (m := 3) rfl rfl (by kernel_rfl) (by kernel_rfl) (by decide) (by decide)) ?_
        refine l_q rfl rfl (q_loadA (m := 3) rfl (by kernel_rfl) (by kernel_rfl) (hS68.blk (i := 7) rfl) rfl rfl) ?_
        refine l_q rfl rfl (q_loadA (m := 3) rfl (by kernel_rfl) (by kernel_rfl) (hS68.blk (i := 2) rfl) rfl rfl) ?_
        refine l_e rfl (fun K hK => ?_)
        refine e_call (by kernel_rfl) (rk_R (rd1 d0 f0) (num_of (kD_or d0) f0) (num_of (kD_or d0) (fits_one d0)) _) rfl (after_R hS68 (fun v70 w70 hv70 hS70 => ?_))
        clear hS68
        obtain rfl := hv70
        refine hK _ _ ?_; clear hK K
        refine l_q rfl rfl (q_move rfl) ?_
        refine l_q rfl rfl (q_extract rfl rfl) ?_
        refine l_q rfl rfl (q_extract rfl rfl) ?_
        refine l_e rfl (fun K hK => ?_)
        refine e_alloc (zv := .agg #[.int .i64 0, .int .i64 0, .string ⟨#[]⟩]) hS70 (by kernel_rfl) (fun b71 w71 (hS71 : St _ _ [.blk b71 (.cells #[.int .i64 (0 : Int), .int .i64 (0 : Int), .string (bs [])] 51), .blk b67 (.cells #[.int .i64 (kD d0), .int .i64 n0, .string (bs [])] 51), .blk b63 (.cells #[.int .i64 (kD d0), .int .i64 n0, .string (bs [])] 51), .blk b53 (.cells #[.int .i64 (kD d0), .int .i64 (oneD d0), .string (bs [])] 51), .blk b49 (.cells #[.int .i64 (rK (reckM 5 (kD d1) n1 (kD d0) n0)), .int .i64 (rN (reckM 5 (kD d1) n1 (kD d0) n0)), .string (bs [])] 51), .blk b45 (.cells #[.int .i64 (rK (reckM 5 (kD d0) n0 (kD d1) n1)), .int .i64 (rN (reckM 5 (kD d0) n0 (kD d1) n1)), .string (bs [])] 51), .blk b41 (.cells #[.int .i64 (rK (reckM 3 (kD d1) n1 (kD d0) n0)), .int .i64 (rN (reckM 3 (kD d1) n1 (kD d0) n0)), .string (bs [])] 51), .blk b37 (.cells #[.int .i64 (rK (reckM 3 (kD d0) n0 (kD d1) n1)), .int .i64 (rN (reckM 3 (kD d0) n0 (kD d1) n1)), .string (bs [])] 51), .blk b5 (.cells #[.int .i64 (kD d0), .int .i64 n0, .string (bs []), .int .i64 (kD d1), .int .i64 n1, .string (bs [])] 59), .blk b3 (.cells #[.bool d0, .bool d1] 58), .blk b2 (.cells #[.int .i64 n0, .int .i64 n1, .int .i64 n2] 57)] _) => ?_)
        clear hS70
        refine hK _ _ ?_; clear hK K
        refine l_e rfl (fun K hK => ?_)
        refine e_storeA hS71 rfl rfl (by kernel_rfl) (by repeat' (first | exact trivial | refine ⟨by first | rfl | assumption | exact one_if (by assumption), ?_⟩)) (i := 0) rfl rfl (fun w72 (hS72 : St _ _ [.blk b71 (.cells #[.int .i64 (kD d0), .int .i64 n0, .string (bs [])] 51), .blk b67 (.cells #[.int .i64 (kD d0), .int .i64 n0, .string (bs [])] 51), .blk b63 (.cells #[.int .i64 (kD d0), .int .i64 n0, .string (bs [])] 51), .blk b53 (.cells #[.int .i64 (kD d0), .int .i64 (oneD d0), .string (bs [])] 51), .blk b49 (.cells #[.int .i64 (rK (reckM 5 (kD d1) n1 (kD d0) n0)), .int .i64 (rN (reckM 5 (kD d1) n1 (kD d0) n0)), .string (bs [])] 51), .blk b45 (.cells #[.int .i64 (rK (reckM 5 (kD d0) n0 (kD d1) n1)), .int .i64 (rN (reckM 5 (kD d0) n0 (kD d1) n1)), .string (bs [])] 51), .blk b41 (.cells #[.int .i64 (rK (reckM 3 (kD d1) n1 (kD d0) n0)), .int .i64 (rN (reckM 3 (kD d1) n1 (kD d0) n0)), .string (bs [])] 51), .blk b37 (.cells #[.int .i64 (rK (reckM 3 (kD d0) n0 (kD d1) n1)), .int .i64 (rN (reckM 3 (kD d0) n0 (kD d1) n1)), .string (bs [])] 51), .blk b5 (.cells #[.int .i64 (kD d0), .int .i64 n0, .string (bs []), .int .i64 (kD d1), .int .i64 n1, .string (bs [])] 59), .blk b3 (.cells #[.bool d0, .bool d1] 58), .blk b2 (.cells #[.int .i64 n0, .int .i64 n1, .int .i64 n2] 57)] _) => ?_)
        clear hS71
        refine hK _ _ ?_; clear hK K
        refine l_q rfl rfl (q_assign rfl) ?_
        refine l_nil ?_
        refine hK69 _ _ ?_
        refine wp_seq_k (fun K73 hK73 => ?_)
        refine wp_seq_k (fun K74 hK74 => ?_)
        have hab := reck_swap (op := 3) (n := n0) (m := n1) (.inl rfl) (kD_or d0) (kD_or d1)
        have hcd := reck_swap (op := 5) (n := n0) (m := n1) (.inr rfl) (kD_or d0) (kD_or d1)
        refine r_any (by kernel_rfl) hS72 (fun w75 hS75 => ?_)
        clear hS72
        refine o_held (i := 0) [2, 3, 4, 5, 6, 7, 8, 9, 10, 11, 12, 13, 14, 15, 16, 17, 18, 19, 20, 21, 22, 23, 24, 25, 26, 27, 28, 29, 30, 31, 32, 33, 34, 35, 36, 37, 38, 39, 40, 41, 42, 43, 44, 45, 46, 47, 48, 49, 50, 51] (fun _ _ => trivial) rfl rfl (by kernel_rfl) (goes0 rfl) (QOk.then (QOk.then QOk.body)) (q_loadA (m := 3) rfl (by kernel_rfl) (by kernel_rfl) (hS75.blk (i := 7) rfl) rfl rfl) ?_
        refine o_held (i := 1) [2, 3, 4, 5, 6, 7, 8, 9, 10, 11, 12, 13, 14, 15, 16, 17, 18, 19, 20, 21, 22, 23, 24, 25, 26, 27, 28, 29, 30, 31, 32, 33, 34, 35, 36, 37, 38, 39, 40, 41, 42, 43, 44, 45, 46, 47, 48, 49, 50, 51] (fun j w => ⟨(fun _ _ => trivial) j w, fun _ h => h⟩) rfl rfl (by kernel_rfl) (goes0 rfl) (QOk.then (QOk.then QOk.body)) (q_loadA (m := 3) rfl (by kernel_rfl) (by kernel_rfl) (hS75.blk (i := 6) rfl) rfl rfl) ?_
        refine o_pure (i := 2) (fun j w => ⟨(fun j w => ⟨(fun _ _ => trivial) j w, fun _ h => h⟩) j w, fun _ h => h⟩) rfl rfl (by kernel_rfl) (goes0 rfl) (QOk.then (QOk.then QOk.body)) (fun w => q_iis_neq (a := (rK (reckM 3 (kD d0) n0 (kD d1) n1))) (b := (rN (reckM 3 (kD d0) n0 (kD d1) n1))) (l := []) (a' := (rK (reckM 3 (kD d1) n1 (kD d0) n0))) (b' := (rN (reckM 3 (kD d1) n1 (kD d0) n0))) (l' := []) rfl rfl (by kernel_rfl) Bytes.nil Bytes.nil) ?_
        refine o_pure (i := 3) (fun j w => ⟨(fun j w => ⟨(fun _ _ => trivial) j w, fun _ h => h⟩) j w, fun _ h => h⟩) rfl rfl (by kernel_rfl) (goes0 rfl) (QOk.then (QOk.then QOk.body)) (fun w => q_moveB rfl) ?_
        refine o_pure (i := 4) (fun j w => ⟨(fun j w => ⟨(fun _ _ => trivial) j w, fun _ h => h⟩) j w, fun _ h => h⟩) rfl rfl (by kernel_rfl) (goes1 rfl rfl (neqV_false hab.1 hab.2.1)) (QOk.then (QOk.then QOk.body)) (fun w => q_move rfl) ?_
        refine o_pure (i := 5) (fun j w => ⟨(fun j w => ⟨(fun _ _ => trivial) j w, fun _ h => h⟩) j w, fun _ h => h⟩) rfl rfl (by kernel_rfl) (goes1 rfl rfl (neqV_false hab.1 hab.2.1)) (QOk.then (QOk.then QOk.body)) (fun w => q_ieq rfl hi36 (by kernel_rfl)) ?_
        refine o_pure (i := 6) (fun j w => ⟨(fun j w => ⟨(fun _ _ => trivial) j w, fun _ h => h⟩) j w, fun _ h => h⟩) rfl rfl (by kernel_rfl) (goes1 rfl rfl (neqV_false hab.1 hab.2.1)) (QOk.then (QOk.then QOk.body)) (fun w => q_move rfl) ?_
        refine o_pure (i := 7) (fun j w => ⟨(fun j w => ⟨(fun _ _ => trivial) j w, fun _ h => h⟩) j w, fun _ h => h⟩) rfl rfl (by kernel_rfl) (goes1 rfl rfl (neqV_false hab.1 hab.2.1)) (QOk.then (QOk.then QOk.body)) (fun w => q_ieq rfl hi40 (by kernel_rfl)) ?_
        refine o_pure (i := 8) (fun j w => ⟨(fun j w => ⟨(fun _ _ => trivial) j w, fun _ h => h⟩) j w, fun _ h => h⟩) rfl rfl (by kernel_rfl) (goes1 rfl rfl (neqV_false hab.1 hab.2.1)) (QOk.then (QOk.then QOk.body)) (fun w => q_bool_neq rfl rfl (by kernel_rfl)) ?_
        refine o_pure (i := 9) (fun j w => ⟨(fun j w => ⟨(fun _ _ => trivial) j w, fun _ h => h⟩) j w, fun _ h => h⟩) rfl rfl (by kernel_rfl) (goes0 rfl) (QOk.then (QOk.then QOk.body)) (fun w => q_pickF rfl (neqV_false hab.1 hab.2.1) rfl) ?_
        refine o_pure (i := 10) (fun j w => ⟨(fun j w => ⟨(fun _ _ => trivial) j w, fun _ h => h⟩) j w, fun _ h => h⟩) rfl rfl (by kernel_rfl) (goes0 rfl) (QOk.then (QOk.then QOk.body)) (fun w => q_moveB rfl) ?_
        refine o_held (i := 11) [13, 14, 15, 16, 17, 18, 19, 20, 21, 22, 23, 24, 25, 26, 27, 28, 29, 30, 31, 32, 33, 34, 35, 36, 37, 38, 39, 40, 41, 42, 43, 44, 45, 46, 47, 48, 49, 50, 51] (fun j w => ⟨(fun j w => ⟨(fun _ _ => trivial) j w, fun _ h => h⟩) j w, fun _ h => h⟩) rfl rfl (by kernel_rfl) (goes1 rfl rfl (neqb_false (hn36.trans (hab.2.2.trans hn40.symm)))) (QOk.then (QOk.then QOk.body)) (q_loadA (m := 3) rfl (by kernel_rfl) (by kernel_rfl) (hS75.blk (i := 5) rfl) rfl rfl) ?_
        refine o_held (i := 12) [13, 14, 15, 16, 17, 18, 19, 20, 21, 22, 23, 24, 25, 26, 27, 28, 29, 30, 31, 32, 33, 34, 35, 36, 37, 38, 39, 40, 41, 42, 43, 44, 45, 46, 47, 48, 49, 50, 51] (fun j w => ⟨(fun j w => ⟨(fun j w => ⟨(fun _ _ => trivial) j w, fun _ h => h⟩) j w, fun _ h => h⟩) j w, fun _ h => h⟩) rfl rfl (by kernel_rfl) (goes1 rfl rfl (neqb_false (hn36.trans (hab.2.2.trans hn40.symm)))) (QOk.then (QOk.then QOk.body)) (q_loadA (m := 3) rfl (by kernel_rfl) (by kernel_rfl) (hS75.blk (i := 4) rfl) rfl rfl) ?_
        refine o_pure (i := 13) (fun j w => ⟨(fun j w => ⟨(fun j w => ⟨(fun j w => ⟨(fun _ _ => trivial) j w, fun _ h => h⟩) j w, fun _ h => h⟩) j w, fun _ h => h⟩) j w, fun _ h => h⟩) rfl rfl (by kernel_rfl) (goes1 rfl rfl (neqb_false (hn36.trans (hab.2.2.trans hn40.symm)))) (QOk.then (QOk.then QOk.body)) (fun w => q_iis_neq (a := (rK (reckM 5 (kD d0) n0 (kD d1) n1))) (b := (rN (reckM 5 (kD d0) n0 (kD d1) n1))) (l := []) (a' := (rK (reckM 5 (kD d1) n1 (kD d0) n0))) (b' := (rN (reckM 5 (kD d1) n1 (kD d0) n0))) (l' := []) rfl rfl (by kernel_rfl) Bytes.nil Bytes.nil) ?_
        refine o_pure (i := 14) (fun j w => ⟨(fun j w => ⟨(fun j w => ⟨(fun j w => ⟨(fun _ _ => trivial) j w, fun _ h => h⟩) j w, fun _ h => h⟩) j w, fun _ h => h⟩) j w, fun _ h => h⟩) rfl rfl (by kernel_rfl) (goes0 rfl) (QOk.then (QOk.then QOk.body)) (fun w => q_pickF rfl (neqb_false (hn36.trans (hab.2.2.trans hn40.symm))) rfl) ?_
        refine o_pure (i := 15) (fun j w => ⟨(fun j w => ⟨(fun j w => ⟨(fun j w => ⟨(fun _ _ => trivial) j w, fun _ h => h⟩) j w, fun _ h => h⟩) j w, fun _ h => h⟩) j w, fun _ h => h⟩) rfl rfl (by kernel_rfl) (goes0 rfl) (QOk.then (QOk.then QOk.body)) (fun w => q_moveB rfl) ?_
        refine o_pure (i := 16) (fun j w => ⟨(fun j w => ⟨(fun j w => ⟨(fun j w => ⟨(fun _ _ => trivial) j w, fun _ h => h⟩) j w, fun _ h => h⟩) j w, fun _ h => h⟩) j w, fun _ h => h⟩) rfl rfl (by kernel_rfl) (goes1 rfl rfl (neqV_false hcd.1 hcd.2.1)) (QOk.then (QOk.then QOk.body)) (fun w => q_move rfl) ?_
        refine o_pure (i := 17) (fun j w => ⟨(fun j w => ⟨(fun j w => ⟨(fun j w => ⟨(fun _ _ => trivial) j w, fun _ h => h⟩) j w, fun _ h => h⟩) j w, fun _ h => h⟩) j w, fun _ h => h⟩) rfl rfl (by kernel_rfl) (goes1 rfl rfl (neqV_false hcd.1 hcd.2.1)) (QOk.then (QOk.then QOk.body)) (fun w => q_ieq rfl hi44 (by kernel_rfl)) ?_
        refine o_pure (i := 18) (fun j w => ⟨(fun j w => ⟨(fun j w => ⟨(fun j w => ⟨(fun _ _ => trivial) j w, fun _ h => h⟩) j w, fun _ h => h⟩) j w, fun _ h => h⟩) j w, fun _ h => h⟩) rfl rfl (by kernel_rfl) (goes1 rfl rfl (neqV_false hcd.1 hcd.2.1)) (QOk.then (QOk.then QOk.body)) (fun w => q_move rfl) ?_
        refine o_pure (i := 19) (fun j w => ⟨(fun j w => ⟨(fun j w => ⟨(fun j w => ⟨(fun _ _ => trivial) j w, fun _ h => h⟩) j w, fun _ h => h⟩) j w, fun _ h => h⟩) j w, fun _ h => h⟩) rfl rfl (by kernel_rfl) (goes1 rfl rfl (neqV_false hcd.1 hcd.2.1)) (QOk.then (QOk.then QOk.body)) (fun w => q_ieq rfl hi48 (by kernel_rfl)) ?_
        refine o_pure (i := 20) (fun j w => ⟨(fun j w => ⟨(fun j w => ⟨(fun j w => ⟨(fun _ _ => trivial) j w, fun _ h => h⟩) j w, fun _ h => h⟩) j w, fun _ h => h⟩) j w, fun _ h => h⟩) rfl rfl (by kernel_rfl) (goes1 rfl rfl (neqV_false hcd.1 hcd.2.1)) (QOk.then (QOk.then QOk.body)) (fun w => q_bool_neq rfl rfl (by kernel_rfl)) ?_
        refine o_pure (i := 21) (fun j w => ⟨(fun j w => ⟨(fun j w => ⟨(fun j w => ⟨(fun _ _ => trivial) j w, fun _ h => h⟩) j w, fun _ h => h⟩) j w, fun _ h => h⟩) j w, fun _ h => h⟩) rfl rfl (by kernel_rfl) (goes0 rfl) (QOk.then (QOk.then QOk.body)) (fun w => q_pickF rfl (neqV_false hcd.1 hcd.2.1) rfl) ?_
        refine o_pure (i := 22) (fun j w => ⟨(fun j w => ⟨(fun j w => ⟨(fun j w => ⟨(fun _ _ => trivial) j w, fun _ h => h⟩) j w, fun _ h => h⟩) j w, fun _ h => h⟩) j w, fun _ h => h⟩) rfl rfl (by kernel_rfl) (goes0 rfl) (QOk.then (QOk.then QOk.body)) (fun w => q_moveB rfl) ?_
        refine o_pure (i := 23) (fun j w => ⟨(fun j w => ⟨(fun j w => ⟨(fun j w => ⟨(fun _ _ => trivial) j w, fun _ h => h⟩) j w, fun _ h => h⟩) j w, fun _ h => h⟩) j w, fun _ h => h⟩) rfl rfl (by kernel_rfl) (goes1 rfl rfl (neqb_false (hn44.trans (hcd.2.2.trans hn48.symm)))) (QOk.then (QOk.then QOk.body)) (fun w => q_move rfl) ?_
        refine o_pure (i := 24) (fun j w => ⟨(fun j w => ⟨(fun j w => ⟨(fun j w => ⟨(fun _ _ => trivial) j w, fun _ h => h⟩) j w, fun _ h => h⟩) j w, fun _ h => h⟩) j w, fun _ h => h⟩) rfl rfl (by kernel_rfl) (goes1 rfl rfl (neqb_false (hn44.trans (hcd.2.2.trans hn48.symm)))) (QOk.then (QOk.then QOk.body)) (fun w => q_ine1 rfl (by kernel_rfl)) ?_
        refine o_pure (i := 25) (fun j w => ⟨(fun j w => ⟨(fun j w => ⟨(fun j w => ⟨(fun _ _ => trivial) j w, fun _ h => h⟩) j w, fun _ h => h⟩) j w, fun _ h => h⟩) j w, fun _ h => h⟩) rfl rfl (by kernel_rfl) (goes0 rfl) (QOk.then (QOk.then QOk.body)) (fun w => q_pickF rfl (neqb_false (hn44.trans (hcd.2.2.trans hn48.symm))) rfl) ?_
        refine o_pure (i := 26) (fun j w => ⟨(fun j w => ⟨(fun j w => ⟨(fun j w => ⟨(fun _ _ => trivial) j w, fun _ h => h⟩) j w, fun _ h => h⟩) j w, fun _ h => h⟩) j w, fun _ h => h⟩) rfl rfl (by kernel_rfl) (goes0 rfl) (QOk.then (QOk.then QOk.body)) (fun w => q_moveB rfl) ?_
        refine o_pure (i := 27) (fun j w => ⟨(fun j w => ⟨(fun j w => ⟨(fun j w => ⟨(fun _ _ => trivial) j w, fun _ h => h⟩) j w, fun _ h => h⟩) j w, fun _ h => h⟩) j w, fun _ h => h⟩) rfl rfl (by kernel_rfl) (goes1 rfl rfl rfl) (QOk.then (QOk.then QOk.body)) (fun w => q_move rfl) ?_
        refine o_pure (i := 28) (fun j w => ⟨(fun j w => ⟨(fun j w => ⟨(fun j w => ⟨(fun _ _ => trivial) j w, fun _ h => h⟩) j w, fun _ h => h⟩) j w, fun _ h => h⟩) j w, fun _ h => h⟩) rfl rfl (by kernel_rfl) (goes1 rfl rfl rfl) (QOk.then (QOk.then QOk.body)) (fun w => q_ine1 rfl (by kernel_rfl)) ?_
        refine o_pure (i := 29) (fun j w => ⟨(fun j w => ⟨(fun j w => ⟨(fun j w => ⟨(fun _ _ => trivial) j w, fun _ h => h⟩) j w, fun _ h => h⟩) j w, fun _ h => h⟩) j w, fun _ h => h⟩) rfl rfl (by kernel_rfl) (goes0 rfl) (QOk.then (QOk.then QOk.body)) (fun w => q_pickF rfl rfl rfl) ?_
        refine o_pure (i := 30) (fun j w => ⟨(fun j w => ⟨(fun j w => ⟨(fun j w => ⟨(fun _ _ => trivial) j w, fun _ h => h⟩) j w, fun _ h => h⟩) j w, fun _ h => h⟩) j w, fun _ h => h⟩) rfl rfl (by kernel_rfl) (goes0 rfl) (QOk.then (QOk.then QOk.body)) (fun w => q_moveB rfl) ?_
        refine o_pure (i := 31) (fun j w => ⟨(fun j w => ⟨(fun j w => ⟨(fun j w => ⟨(fun _ _ => trivial) j w, fun _ h => h⟩) j w, fun _ h => h⟩) j w, fun _ h => h⟩) j w, fun _ h => h⟩) rfl rfl (by kernel_rfl) (goes1 rfl rfl rfl) (QOk.then (QOk.then QOk.body)) (fun w => q_move rfl) ?_
        refine o_pure (i := 32) (fun j w => ⟨(fun j w => ⟨(fun j w => ⟨(fun j w => ⟨(fun _ _ => trivial) j w, fun _ h => h⟩) j w, fun _ h => h⟩) j w, fun _ h => h⟩) j w, fun _ h => h⟩) rfl rfl (by kernel_rfl) (goes1 rfl rfl rfl) (QOk.then (QOk.then QOk.body)) (fun w => q_ine1 rfl (by kernel_rfl)) ?_
        refine o_pure (i := 33) (fun j w => ⟨(fun j w => ⟨(fun j w => ⟨(fun j w => ⟨(fun _ _ => trivial) j w, fun _ h => h⟩) j w, fun _ h => h⟩) j w, fun _ h => h⟩) j w, fun _ h => h⟩) rfl rfl (by kernel_rfl) (goes0 rfl) (QOk.then (QOk.then QOk.body)) (fun w => q_pickF rfl rfl rfl) ?_
        refine o_pure (i := 34) (fun j w => ⟨(fun j w => ⟨(fun j w => ⟨(fun j w => ⟨(fun _ _ => trivial) j w, fun _ h => h⟩) j w, fun _ h => h⟩) j w, fun _ h => h⟩) j w, fun _ h => h⟩) rfl rfl (by kernel_rfl) (goes0 rfl) (QOk.then (QOk.then QOk.body)) (fun w => q_moveB rfl) ?_
        refine o_held (i := 35) [38, 39, 40, 41, 42, 43, 44, 45, 46, 47, 48, 49, 50, 51] (fun j w => ⟨(fun j w => ⟨(fun j w => ⟨(fun j w => ⟨(fun _ _ => trivial) j w, fun _ h => h⟩) j w, fun _ h => h⟩) j w, fun _ h => h⟩) j w, fun _ h => h⟩) rfl rfl (by kernel_rfl) (goes1 rfl rfl rfl) (QOk.then (QOk.then QOk.body)) (q_loadA (m := 3) rfl (by kernel_rfl) (by kernel_rfl) (hS75.blk (i := 2) rfl) rfl rfl) ?_
        refine o_pure (i := 36) (fun j w => ⟨(fun j w => ⟨(fun j w => ⟨(fun j w => ⟨(fun j w => ⟨(fun _ _ => trivial) j w, fun _ h => h⟩) j w, fun _ h => h⟩) j w, fun _ h => h⟩) j w, fun _ h => h⟩) j w, fun _ h => h⟩) rfl rfl (by kernel_rfl) (goes1 rfl rfl rfl) (QOk.then (QOk.then QOk.body)) (fun w => q_indexAddrA (len := 2) (e := 51) (m := 3) rfl rfl (by kernel_rfl) (by kernel_rfl) (by decide) (by decide)) ?_
        refine o_held (i := 37) [38, 39, 40, 41, 42, 43, 44, 45, 46, 47, 48, 49, 50, 51] (fun j w => ⟨(fun j w => ⟨(fun j w => ⟨(fun j w => ⟨(fun j w => ⟨(fun _ _ => trivial) j w, fun _ h => h⟩) j w, fun _ h => h⟩) j w, fun _ h => h⟩) j w, fun _ h => h⟩) j w, fun _ h => h⟩) rfl rfl (by kernel_rfl) (goes1 rfl rfl rfl) (QOk.then (QOk.then QOk.body)) (q_loadA (m := 3) rfl (by kernel_rfl) (by kernel_rfl) (hS75.blk (i := 8) rfl) rfl rfl) ?_
        refine o_pure (i := 38) (fun j w => ⟨(fun j w => ⟨(fun j w => ⟨(fun j w => ⟨(fun j w => ⟨(fun j w => ⟨(fun _ _ => trivial) j w, fun _ h => h⟩) j w, fun _ h => h⟩) j w, fun _ h => h⟩) j w, fun _ h => h⟩) j w, fun _ h => h⟩) j w, fun _ h => h⟩) rfl rfl (by kernel_rfl) (goes1 rfl rfl rfl) (QOk.then (QOk.then QOk.body)) (fun w => q_iis_neq (a := (kD d0)) (b := n0) (l := []) (a' := (kD d0)) (b' := n0) (l' := []) rfl rfl (by kernel_rfl) Bytes.nil Bytes.nil) ?_
        refine o_pure (i := 39) (fun j w => ⟨(fun j w => ⟨(fun j w => ⟨(fun j w => ⟨(fun j w => ⟨(fun j w => ⟨(fun _ _ => trivial) j w, fun _ h => h⟩) j w, fun _ h => h⟩) j w, fun _ h => h⟩) j w, fun _ h => h⟩) j w, fun _ h => h⟩) j w, fun _ h => h⟩) rfl rfl (by kernel_rfl) (goes0 rfl) (QOk.then (QOk.then QOk.body)) (fun w => q_pickF rfl rfl rfl) ?_
        refine o_pure (i := 40) (fun j w => ⟨(fun j w => ⟨(fun j w => ⟨(fun j w => ⟨(fun j w => ⟨(fun j w => ⟨(fun _ _ => trivial) j w, fun _ h => h⟩) j w, fun _ h => h⟩) j w, fun _ h => h⟩) j w, fun _ h => h⟩) j w, fun _ h => h⟩) j w, fun _ h => h⟩) rfl rfl (by kernel_rfl) (goes0 rfl) (QOk.then (QOk.then QOk.body)) (fun w => q_moveB rfl) ?_
        refine o_held (i := 41) [44, 45, 46, 47, 48, 49, 50, 51] (fun j w => ⟨(fun j w => ⟨(fun j w => ⟨(fun j w => ⟨(fun j w => ⟨(fun j w => ⟨(fun _ _ => trivial) j w, fun _ h => h⟩) j w, fun _ h => h⟩) j w, fun _ h => h⟩) j w, fun _ h => h⟩) j w, fun _ h => h⟩) j w, fun _ h => h⟩) rfl rfl (by kernel_rfl) (goes1 rfl rfl (neqV_false rfl rfl)) (QOk.then (QOk.then QOk.body)) (q_loadA (m := 3) rfl (by kernel_rfl) (by kernel_rfl) (hS75.blk (i := 1) rfl) rfl rfl) ?_
        refine o_pure (i := 42) (fun j w => ⟨(fun j w => ⟨(fun j w => ⟨(fun j w => ⟨(fun j w => ⟨(fun j w => ⟨(fun j w => ⟨(fun _ _ => trivial) j w, fun _ h => h⟩) j w, fun _ h => h⟩) j w, fun _ h => h⟩) j w, fun _ h => h⟩) j w, fun _ h => h⟩) j w, fun _ h => h⟩) j w, fun _ h => h⟩) rfl rfl (by kernel_rfl) (goes1 rfl rfl (neqV_false rfl rfl)) (QOk.then (QOk.then QOk.body)) (fun w => q_indexAddrA (len := 2) (e := 51) (m := 3) rfl rfl (by kernel_rfl) (by kernel_rfl) (by decide) (by decide)) ?_
        refine o_held (i := 43) [44, 45, 46, 47, 48, 49, 50, 51] (fun j w => ⟨(fun j w => ⟨(fun j w => ⟨(fun j w => ⟨(fun j w => ⟨(fun j w => ⟨(fun j w => ⟨(fun _ _ => trivial) j w, fun _ h => h⟩) j w, fun _ h => h⟩) j w, fun _ h => h⟩) j w, fun _ h => h⟩) j w, fun _ h => h⟩) j w, fun _ h => h⟩) j w, fun _ h => h⟩) rfl rfl (by kernel_rfl) (goes1 rfl rfl (neqV_false rfl rfl)) (QOk.then (QOk.then QOk.body)) (q_loadA (m := 3) rfl (by kernel_rfl) (by kernel_rfl) (hS75.blk (i := 8) rfl) rfl rfl) ?_
        refine o_pure (i := 44) (fun j w => ⟨(fun j w => ⟨(fun j w => ⟨(fun j w => ⟨(fun j w => ⟨(fun j w => ⟨(fun j w => ⟨(fun j w => ⟨(fun _ _ => trivial) j w, fun _ h => h⟩) j w, fun _ h => h⟩) j w, fun _ h => h⟩) j w, fun _ h => h⟩) j w, fun _ h => h⟩) j w, fun _ h => h⟩) j w, fun _ h => h⟩) j w, fun _ h => h⟩) rfl rfl (by kernel_rfl) (goes1 rfl rfl (neqV_false rfl rfl)) (QOk.then (QOk.then QOk.body)) (fun w => q_iis_neq (a := (kD d0)) (b := n0) (l := []) (a' := (kD d0)) (b' := n0) (l' := []) rfl rfl (by kernel_rfl) Bytes.nil Bytes.nil) ?_
        refine o_pure (i := 45) (fun j w => ⟨(fun j w => ⟨(fun j w => ⟨(fun j w => ⟨(fun j w => ⟨(fun j w => ⟨(fun j w => ⟨(fun j w => ⟨(fun _ _ => trivial) j w, fun _ h => h⟩) j w, fun _ h => h⟩) j w, fun _ h => h⟩) j w, fun _ h => h⟩) j w, fun _ h => h⟩) j w, fun _ h => h⟩) j w, fun _ h => h⟩) j w, fun _ h => h⟩) rfl rfl (by kernel_rfl) (goes0 rfl) (QOk.then (QOk.then QOk.body)) (fun w => q_pickF rfl (neqV_false rfl rfl) rfl) ?_
        refine o_pure (i := 46) (fun j w => ⟨(fun j w => ⟨(fun j w => ⟨(fun j w => ⟨(fun j w => ⟨(fun j w => ⟨(fun j w => ⟨(fun j w => ⟨(fun _ _ => trivial) j w, fun _ h => h⟩) j w, fun _ h => h⟩) j w, fun _ h => h⟩) j w, fun _ h => h⟩) j w, fun _ h => h⟩) j w, fun _ h => h⟩) j w, fun _ h => h⟩) j w, fun _ h => h⟩) rfl rfl (by kernel_rfl) (goes0 rfl) (QOk.then (QOk.then QOk.body)) (fun w => q_moveB rfl) ?_
        refine o_held (i := 47) [50, 51] (fun j w => ⟨(fun j w => ⟨(fun j w => ⟨(fun j w => ⟨(fun j w => ⟨(fun j w => ⟨(fun j w => ⟨(fun j w => ⟨(fun _ _ => trivial) j w, fun _ h => h⟩) j w, fun _ h => h⟩) j w, fun _ h => h⟩) j w, fun _ h => h⟩) j w, fun _ h => h⟩) j w, fun _ h => h⟩) j w, fun _ h => h⟩) j w, fun _ h => h⟩) rfl rfl (by kernel_rfl) (goes1 rfl rfl (neqV_false rfl rfl)) (QOk.then (QOk.then QOk.body)) (q_loadA (m := 3) rfl (by kernel_rfl) (by kernel_rfl) (hS75.blk (i := 0) rfl) rfl rfl) ?_
        refine o_pure (i := 48) (fun j w => ⟨(fun j w => ⟨(fun j w => ⟨(fun j w => ⟨(fun j w => ⟨(fun j w => ⟨(fun j w => ⟨(fun j w => ⟨(fun j w => ⟨(fun _ _ => trivial) j w, fun _ h => h⟩) j w, fun _ h => h⟩) j w, fun _ h => h⟩) j w, fun _ h => h⟩) j w, fun _ h => h⟩) j w, fun _ h => h⟩) j w, fun _ h => h⟩) j w, fun _ h => h⟩) j w, fun _ h => h⟩) rfl rfl (by kernel_rfl) (goes1 rfl rfl (neqV_false rfl rfl)) (QOk.then (QOk.then QOk.body)) (fun w => q_indexAddrA (len := 2) (e := 51) (m := 3) rfl rfl (by kernel_rfl) (by kernel_rfl) (by decide) (by decide)) ?_
        refine o_held (i := 49) [50, 51] (fun j w => ⟨(fun j w => ⟨(fun j w => ⟨(fun j w => ⟨(fun j w => ⟨(fun j w => ⟨(fun j w => ⟨(fun j w => ⟨(fun j w => ⟨(fun _ _ => trivial) j w, fun _ h => h⟩) j w, fun _ h => h⟩) j w, fun _ h => h⟩) j w, fun _ h => h⟩) j w, fun _ h => h⟩) j w, fun _ h => h⟩) j w, fun _ h => h⟩) j w, fun _ h => h⟩) j w, fun _ h => h⟩) rfl rfl (by kernel_rfl) (goes1 rfl rfl (neqV_false rfl rfl)) (QOk.then (QOk.then QOk.body)) (q_loadA (m := 3) rfl (by kernel_rfl) (by kernel_rfl) (hS75.blk (i := 8) rfl) rfl rfl) ?_
        refine o_pure (i := 50) (fun j w => ⟨(fun j w => ⟨(fun j w => ⟨(fun j w => ⟨(fun j w => ⟨(fun j w => ⟨(fun j w => ⟨(fun j w => ⟨(fun j w => ⟨(fun j w => ⟨(fun _ _ => trivial) j w, fun _ h => h⟩) j w, fun _ h => h⟩) j w, fun _ h => h⟩) j w, fun _ h => h⟩) j w, fun _ h => h⟩) j w, fun _ h => h⟩) j w, fun _ h => h⟩) j w, fun _ h => h⟩) j w, fun _ h => h⟩) j w, fun _ h => h⟩) rfl rfl (by kernel_rfl) (goes1 rfl rfl (neqV_false rfl rfl)) (QOk.then (QOk.then QOk.body)) (fun w => q_iis_neq (a := (kD d0)) (b := n0) (l := []) (a' := (kD d0)) (b' := n0) (l' := []) rfl rfl (by kernel_rfl) Bytes.nil Bytes.nil) ?_
        refine o_pure (i := 51) (fun j w => ⟨(fun j w => ⟨(fun j w => ⟨(fun j w => ⟨(fun j w => ⟨(fun j w => ⟨(fun j w => ⟨(fun j w => ⟨(fun j w => ⟨(fun j w => ⟨(fun _ _ => trivial) j w, fun _ h => h⟩) j w, fun _ h => h⟩) j w, fun _ h => h⟩) j w, fun _ h => h⟩) j w, fun _ h => h⟩) j w, fun _ h => h⟩) j w, fun _ h => h⟩) j w, fun _ h => h⟩) j w, fun _ h => h⟩) j w, fun _ h => h⟩) rfl rfl (by kernel_rfl) (goes0 rfl) (QOk.then (QOk.then QOk.body)) (fun w => q_pickF rfl (neqV_false rfl rfl) rfl) ?_
        refine o_done (by kernel_rfl) ?_
        refine hK74 _ _ ?_
        refine c_condF rfl (neqV_false rfl rfl) ?_
        refine wp_skip ?_
        refine hK73 _ _ ?_
        refine wp_seq_k (fun K83 hK83 => ?_)
        refine wp_seq_k (fun K84 hK84 => ?_)
        refine wp_region_lit ?_
        refine l_q rfl rfl (q_assignI rfl) ?_
        refine l_nil ?_
        refine hK84 _ _ ?_
        refine wp_block ?_
        refine c_rounds 4 ?_
        refine c_round ?_
        refine wp_seq_k (fun K85 hK85 => ?_)
        refine wp_seq_k (fun K86 hK86 => ?_)
        refine wp_region_lit ?_
        refine l_q rfl rfl (q_moveI rfl) ?_
        refine l_q rfl rfl (q_lss rfl rfl) ?_
        refine l_nil ?_
        refine hK86 _ _ ?_
        refine c_condT rfl (by decide) ?_
        refine wp_skip ?_
        refine hK85 _ _ ?_
        refine wp_seq_k (fun K88 hK88 => ?_)
        refine wp_block ?_
        refine wp_seq_k (fun K89 hK89 => ?_)
        refine wp_region_lit ?_
        refine l_q rfl rfl (q_moveI rfl) ?_
        refine l_q rfl rfl (q_indexAddrA (len := 3) (e := 2) (m := 1) rfl rfl (by kernel_rfl) (by kernel_rfl) (by decide) (by decide)) ?_
        refine l_q rfl rfl (q_load1 rfl (by kernel_rfl) (hS75.cell (i := 10) rfl rfl)) ?_
        refine l_q rfl rfl (q_leq rfl rfl) ?_
        refine l_q rfl rfl (q_moveB rfl) ?_
        refine g_splitL (t := 166) rfl (fun hg90 => ?_) (fun hg90 => ?_)
        ·
          have hg90b := hg90
          try simp only [decide_eq_true_eq, decide_eq_false_iff_not, Bool.not_eq_true', Bool.not_eq_false', Bool.and_eq_true, Bool.or_eq_true, Int.not_lt, Int.not_le, ne_eq, Decidable.not_not] at hg90
          refine l_off rfl rfl rfl hg90b ?_
          refine l_off rfl rfl rfl hg90b ?_
          refine l_off rfl rfl rfl hg90b ?_
          refine l_off rfl rfl rfl hg90b ?_
          refine l_q rfl rfl (q_pickT rfl hg90b rfl) ?_
          refine l_nil ?_
          refine hK89 _ _ ?_
          refine c_condT rfl rfl ?_
          refine wp_seq_k (fun K92 hK92 => ?_)
          refine wp_region_lit ?_
          refine l_e rfl (fun K hK => ?_)
          refine e_call (by kernel_rfl) (alive_R _ (hl.keepS hS75)) rfl (after_R hS75 (fun v93 w93 hv93 hS93 => ?_))
          clear hS75
          obtain rfl := hv93
          refine hK _ _ ?_; clear hK K
          refine l_q rfl rfl (q_assignB rfl) ?_
          refine l_nil ?_
          refine hK92 _ _ ?_
          refine wp_ret ?_
          refine c_ret1 rfl rfl ?_
          exact ⟨_, rfl, by first | rfl | exact congrArg Value.bool (decide_eq_true rfl), hS93.drop⟩
        ·
          have hg90b := hg90
          try simp only [decide_eq_true_eq, decide_eq_false_iff_not, Bool.not_eq_true', Bool.not_eq_false', Bool.and_eq_true, Bool.or_eq_true, Int.not_lt, Int.not_le, ne_eq, Decidable.not_not] at hg90
          have hlo0 := hg90
          refine l_on rfl rfl hg90b ?_
          refine l_q rfl rfl (q_moveI rfl) ?_
          refine l_on rfl rfl hg90b ?_
          refine l_q rfl rfl (q_indexAddrA (len := 3) (e := 2) (m := 1) rfl rfl (by kernel_rfl) (by kernel_rfl) (by decide) (by decide)) ?_
          refine l_on rfl rfl hg90b ?_
          refine l_q rfl rfl (q_load1 rfl (by kernel_rfl) (hS75.cell (i := 10) rfl rfl)) ?_
          refine l_on rfl rfl hg90b ?_
          refine l_q rfl rfl (q_geq rfl rfl) ?_
          refine l_q rfl rfl (q_pickF rfl hg90b rfl) ?_
          refine l_nil ?_
          refine hK89 _ _ ?_
          refine c_cond rfl (fun hc94 => ?_) (fun hc94 => ?_)
          ·
            have hc94b := hc94
            try simp only [decide_eq_true_eq, decide_eq_false_iff_not, Bool.not_eq_true', Bool.not_eq_false', Bool.and_eq_true, Bool.or_eq_true, Int.not_lt, Int.not_le, ne_eq, Decidable.not_not] at hc94
            refine wp_seq_k (fun K95 hK95 => ?_)
            refine wp_region_lit ?_
            refine l_e rfl (fun K hK => ?_)
            refine e_call (by kernel_rfl) (alive_R _ (hl.keepS hS75)) rfl (after_R hS75 (fun v96 w96 hv96 hS96 => ?_))
            clear hS75
            obtain rfl := hv96
            refine hK _ _ ?_; clear hK K
            refine l_q rfl rfl (q_assignB rfl) ?_
            refine l_nil ?_
            refine hK95 _ _ ?_
            refine wp_ret ?_
            refine c_ret1 rfl rfl ?_
            exact ⟨_, rfl, by first | rfl | exact congrArg Value.bool (decide_eq_true rfl), hS96.drop⟩
          ·
            have hc94b := hc94
            try simp only [decide_eq_true_eq, decide_eq_false_iff_not, Bool.not_eq_true', Bool.not_eq_false', Bool.and_eq_true, Bool.or_eq_true, Int.not_lt, Int.not_le, ne_eq, Decidable.not_not] at hc94
            have hhi0 := hc94
            refine wp_skip ?_
            refine hK88 _ _ ?_
            refine wp_region_lit ?_
            refine l_q rfl rfl (q_moveI rfl) ?_
            refine l_q rfl rfl (q_addx rfl rfl (by first | decide | omega) (by first | decide | omega)) ?_
            refine l_q rfl rfl (q_assignI rfl) ?_
            refine l_nil ?_
            refine c_round ?_
            refine wp_seq_k (fun K97 hK97 => ?_)
            refine wp_seq_k (fun K98 hK98 => ?_)
            refine wp_region_lit ?_
            refine l_q rfl rfl (q_moveI rfl) ?_
            refine l_q rfl rfl (q_lss rfl rfl) ?_
            refine l_nil ?_
            refine hK98 _ _ ?_
            refine c_condT rfl (by decide) ?_
            refine wp_skip ?_
            refine hK97 _ _ ?_
            refine wp_seq_k (fun K100 hK100 => ?_)
            refine wp_block ?_
            refine wp_seq_k (fun K101 hK101 => ?_)
            refine wp_region_lit ?_
            refine l_q rfl rfl (q_moveI rfl) ?_
            refine l_q rfl rfl (q_indexAddrA (len := 3) (e := 2) (m := 1) rfl rfl (by kernel_rfl) (by kernel_rfl) (by decide) (by decide)) ?_
            refine l_q rfl rfl (q_load1 rfl (by kernel_rfl) (hS75.cell (i := 10) rfl rfl)) ?_
            refine l_q rfl rfl (q_leq rfl rfl) ?_
            refine l_q rfl rfl (q_moveB rfl) ?_
            refine g_splitL (t := 166) rfl (fun hg102 => ?_) (fun hg102 => ?_)
            ·
              have hg102b := hg102
              try simp only [decide_eq_true_eq, decide_eq_false_iff_not, Bool.not_eq_true', Bool.not_eq_false', Bool.and_eq_true, Bool.or_eq_true, Int.not_lt, Int.not_le, ne_eq, Decidable.not_not] at hg102
              refine l_off rfl rfl rfl hg102b ?_
              refine l_off rfl rfl rfl hg102b ?_
              refine l_off rfl rfl rfl hg102b ?_
              refine l_off rfl rfl rfl hg102b ?_
              refine l_q rfl rfl (q_pickT rfl hg102b rfl) ?_
              refine l_nil ?_
              refine hK101 _ _ ?_
              refine c_condT rfl rfl ?_
              refine wp_seq_k (fun K104 hK104 => ?_)
              refine wp_region_lit ?_
              refine l_e rfl (fun K hK => ?_)
              refine e_call (by kernel_rfl) (alive_R _ (hl.keepS hS75)) rfl (after_R hS75 (fun v105 w105 hv105 hS105 => ?_))
              clear hS75
              obtain rfl := hv105
              refine hK _ _ ?_; clear hK K
              refine l_q rfl rfl (q_assignB rfl) ?_
              refine l_nil ?_
              refine hK104 _ _ ?_
              refine wp_ret ?_
              refine c_ret1 rfl rfl ?_
              exact ⟨_, rfl, by first | rfl | exact congrArg Value.bool (decide_eq_true rfl), hS105.drop⟩
            ·
              have hg102b := hg102
              try simp only [decide_eq_true_eq, decide_eq_false_iff_not, Bool.not_eq_true', Bool.not_eq_false', Bool.and_eq_true, Bool.or_eq_true, Int.not_lt, Int.not_le, ne_eq, Decidable.not_not] at hg102
              have hlo1 := hg102
              refine l_on rfl rfl hg102b ?_
              refine l_q rfl rfl (q_moveI rfl) ?_
              refine l_on rfl rfl hg102b ?_
              refine l_q rfl rfl (q_indexAddrA (len := 3) (e := 2) (m := 1) rfl rfl (by kernel_rfl) (by kernel_rfl) (by decide) (by decide)) ?_
              refine l_on rfl rfl hg102b ?_
              refine l_q rfl rfl (q_load1 rfl (by kernel_rfl) (hS75.cell (i := 10) rfl rfl)) ?_
              refine l_on rfl rfl hg102b ?_
              refine l_q rfl rfl (q_geq rfl rfl) ?_
              refine l_q rfl rfl (q_pickF rfl hg102b rfl) ?_
              refine l_nil ?_
              refine hK101 _ _ ?_
              refine c_cond rfl (fun hc106 => ?_) (fun hc106 => ?_)
              ·
                have hc106b := hc106
                try simp only [decide_eq_true_eq, decide_eq_false_iff_not, Bool.not_eq_true', Bool.not_eq_false', Bool.and_eq_true, Bool.or_eq_true, Int.not_lt, Int.not_le, ne_eq, Decidable.not_not] at hc106
                refine wp_seq_k (fun K107 hK107 => ?_)
                refine wp_region_lit ?_
                refine l_e rfl (fun K hK => ?_)
                refine e_call (by kernel_rfl) (alive_R _ (hl.keepS hS75)) rfl (after_R hS75 (fun v108 w108 hv108 hS108 => ?_))
                clear hS75
                obtain rfl := hv108
                refine hK _ _ ?_; clear hK K
                refine l_q rfl rfl (q_assignB rfl) ?_
                refine l_nil ?_
                refine hK107 _ _ ?_
                refine wp_ret ?_
                refine c_ret1 rfl rfl ?_
                exact ⟨_, rfl, by first | rfl | exact congrArg Value.bool (decide_eq_true rfl), hS108.drop⟩
              ·
                have hc106b := hc106
                try simp only [decide_eq_true_eq, decide_eq_false_iff_not, Bool.not_eq_true', Bool.not_eq_false', Bool.and_eq_true, Bool.or_eq_true, Int.not_lt, Int.not_le, ne_eq, Decidable.not_not] at hc106
                have hhi1 := hc106
                refine wp_skip ?_
                refine hK100 _ _ ?_
                refine wp_region_lit ?_
                refine l_q rfl rfl (q_moveI rfl) ?_
                refine l_q rfl rfl (q_addx rfl rfl (by first | decide | omega) (by first | decide | omega)) ?_
                refine l_q rfl rfl (q_assignI rfl) ?_
                refine l_nil ?_
                refine c_round ?_
                refine wp_seq_k (fun K109 hK109 => ?_)
                refine wp_seq_k (fun K110 hK110 => ?_)
                refine wp_region_lit ?_
                refine l_q rfl rfl (q_moveI rfl) ?_
                refine l_q rfl rfl (q_lss rfl rfl) ?_
                refine l_nil ?_
                refine hK110 _ _ ?_
                refine c_condT rfl (by decide) ?_
                refine wp_skip ?_
                refine hK109 _ _ ?_
                refine wp_seq_k (fun K112 hK112 => ?_)
                refine wp_block ?_
                refine wp_seq_k (fun K113 hK113 => ?_)
                refine wp_region_lit ?_
                refine l_q rfl rfl (q_moveI rfl) ?_
                refine l_q rfl rfl (q_indexAddrA (len := 3) (e := 2) (m := 1) rfl rfl (by kernel_rfl) (by kernel_rfl) (by decide) (by decide)) ?_
                refine l_q rfl rfl (q_load1 rfl (by kernel_rfl) (hS75.cell (i := 10) rfl rfl)) ?_
                refine l_q rfl rfl (q_leq rfl rfl) ?_
                refine l_q rfl rfl (q_moveB rfl) ?_
                refine g_splitL (t := 166) rfl (fun hg114 => ?_) (fun hg114 => ?_)
                ·
                  have hg114b := hg114
                  try simp only [decide_eq_true_eq, decide_eq_false_iff_not, Bool.not_eq_true', Bool.not_eq_false', Bool.and_eq_true, Bool.or_eq_true, Int.not_lt, Int.not_le, ne_eq, Decidable.not_not] at hg114
                  refine l_off rfl rfl rfl hg114b ?_
                  refine l_off rfl rfl rfl hg114b ?_
                  refine l_off rfl rfl rfl hg114b ?_
                  refine l_off rfl rfl rfl hg114b ?_
                  refine l_q rfl rfl (q_pickT rfl hg114b rfl) ?_
                  refine l_nil ?_
                  refine hK113 _ _ ?_
                  refine c_condT rfl rfl ?_
                  refine wp_seq_k (fun K116 hK116 => ?_)
                  refine wp_region_lit ?_
                  refine l_e rfl (fun K hK => ?_)
                  refine e_call (by kernel_rfl) (alive_R _ (hl.keepS hS75)) rfl (after_R hS75 (fun v117 w117 hv117 hS117 => ?_))
                  clear hS75
                  obtain rfl := hv117
                  refine hK _ _ ?_; clear hK K
                  refine l_q rfl rfl (q_assignB rfl) ?_
                  refine l_nil ?_
                  refine hK116 _ _ ?_
                  refine wp_ret ?_
                  refine c_ret1 rfl rfl ?_
                  exact ⟨_, rfl, by first | rfl | exact congrArg Value.bool (decide_eq_true rfl), hS117.drop⟩
                ·
                  have hg114b := hg114
                  try simp only [decide_eq_true_eq, decide_eq_false_iff_not, Bool.not_eq_true', Bool.not_eq_false', Bool.and_eq_true, Bool.or_eq_true, Int.not_lt, Int.not_le, ne_eq, Decidable.not_not] at hg114
                  have hlo2 := hg114
                  refine l_on rfl rfl hg114b ?_
                  refine l_q rfl rfl (q_moveI rfl) ?_
                  refine l_on rfl rfl hg114b ?_
                  refine l_q rfl rfl (q_indexAddrA (len := 3) (e := 2) (m := 1) rfl rfl (by kernel_rfl) (by kernel_rfl) (by decide) (by decide)) ?_
                  refine l_on rfl rfl hg114b ?_
                  refine l_q rfl rfl (q_load1 rfl (by kernel_rfl) (hS75.cell (i := 10) rfl rfl)) ?_
                  refine l_on rfl rfl hg114b ?_
                  refine l_q rfl rfl (q_geq rfl rfl) ?_
                  refine l_q rfl rfl (q_pickF rfl hg114b rfl) ?_
                  refine l_nil ?_
                  refine hK113 _ _ ?_
                  refine c_cond rfl (fun hc118 => ?_) (fun hc118 => ?_)
                  ·
                    have hc118b := hc118
                    try simp only [decide_eq_true_eq, decide_eq_false_iff_not, Bool.not_eq_true', Bool.not_eq_false', Bool.and_eq_true, Bool.or_eq_true, Int.not_lt, Int.not_le, ne_eq, Decidable.not_not] at hc118
                    refine wp_seq_k (fun K119 hK119 => ?_)
                    refine wp_region_lit ?_
                    refine l_e rfl (fun K hK => ?_)
                    refine e_call (by kernel_rfl) (alive_R _ (hl.keepS hS75)) rfl (after_R hS75 (fun v120 w120 hv120 hS120 => ?_))
                    clear hS75
                    obtain rfl := hv120
                    refine hK _ _ ?_; clear hK K
                    refine l_q rfl rfl (q_assignB rfl) ?_
                    refine l_nil ?_
                    refine hK119 _ _ ?_
                    refine wp_ret ?_
                    refine c_ret1 rfl rfl ?_
                    exact ⟨_, rfl, by first | rfl | exact congrArg Value.bool (decide_eq_true rfl), hS120.drop⟩
                  ·
                    have hc118b := hc118
                    try simp only [decide_eq_true_eq, decide_eq_false_iff_not, Bool.not_eq_true', Bool.not_eq_false', Bool.and_eq_true, Bool.or_eq_true, Int.not_lt, Int.not_le, ne_eq, Decidable.not_not] at hc118
                    have hhi2 := hc118
                    refine wp_skip ?_
                    refine hK112 _ _ ?_
                    refine wp_region_lit ?_
                    refine l_q rfl rfl (q_moveI rfl) ?_
                    refine l_q rfl rfl (q_addx rfl rfl (by first | decide | omega) (by first | decide | omega)) ?_
                    refine l_q rfl rfl (q_assignI rfl) ?_
                    refine l_nil ?_
                    refine c_round ?_
                    refine wp_seq_k (fun K121 hK121 => ?_)
                    refine wp_seq_k (fun K122 hK122 => ?_)
                    refine wp_region_lit ?_
                    refine l_q rfl rfl (q_moveI rfl) ?_
                    refine l_q rfl rfl (q_lss rfl rfl) ?_
                    refine l_nil ?_
                    refine hK122 _ _ ?_
                    refine c_condF rfl (by decide) ?_
                    refine wp_exit ?_
                    refine hK83 _ _ ?_
                    have hP := small_prods hlo0 hhi0 hlo1 hhi1 hlo2 hhi2
                    refine c_cut (τ := Nat) [(23, 24), (173, 182)] (fun x => (fun (bp : Nat) => [(23, .pointer (some ⟨bp, 0, none⟩))]) x) (fun x w' => (fun (bp : Nat) => St w (fun _ => False) [.blk bp (.cells #[.int .i64 (2 : Int), .int .i64 (n0 * n1), .string (bs [])] 51), .blk b71 (.cells #[.int .i64 (kD d0), .int .i64 n0, .string (bs [])] 51), .blk b67 (.cells #[.int .i64 (kD d0), .int .i64 n0, .string (bs [])] 51), .blk b63 (.cells #[.int .i64 (kD d0), .int .i64 n0, .string (bs [])] 51), .blk b53 (.cells #[.int .i64 (kD d0), .int .i64 (oneD d0), .string (bs [])] 51), .blk b49 (.cells #[.int .i64 (rK (reckM 5 (kD d1) n1 (kD d0) n0)), .int .i64 (rN (reckM 5 (kD d1) n1 (kD d0) n0)), .string (bs [])] 51), .blk b45 (.cells #[.int .i64 (rK (reckM 5 (kD d0) n0 (kD d1) n1)), .int .i64 (rN (reckM 5 (kD d0) n0 (kD d1) n1)), .string (bs [])] 51), .blk b41 (.cells #[.int .i64 (rK (reckM 3 (kD d1) n1 (kD d0) n0)), .int .i64 (rN (reckM 3 (kD d1) n1 (kD d0) n0)), .string (bs [])] 51), .blk b37 (.cells #[.int .i64 (rK (reckM 3 (kD d0) n0 (kD d1) n1)), .int .i64 (rN (reckM 3 (kD d0) n0 (kD d1) n1)), .string (bs [])] 51), .blk b5 (.cells #[.int .i64 (kD d0), .int .i64 n0, .string (bs []), .int .i64 (kD d1), .int .i64 n1, .string (bs [])] 59), .blk b3 (.cells #[.bool d0, .bool d1] 58), .blk b2 (.cells #[.int .i64 n0, .int .i64 n1, .int .i64 n2] 57)] w') x) (fun K125 hK125 => ?_) (fun bp j125 w125 hJ125 => ?_)
                    ·
                      refine r_any (by kernel_rfl) hS75 (fun w126 hS126 => ?_)
                      clear hS75
                      refine o_pure (i := 0) (fun _ _ => trivial) rfl rfl (by kernel_rfl) (goes0 rfl) (QOk.then QOk.body) (fun w => q_indexAddrA (len := 3) (e := 2) (m := 1) rfl rfl (by kernel_rfl) (by kernel_rfl) (by decide) (by decide)) ?_
                      refine o_held (i := 1) [2, 5, 6, 7, 8, 9, 11, 12] (fun _ _ => trivial) rfl rfl (by kernel_rfl) (goes0 rfl) (QOk.then QOk.body) (q_load1 rfl (by kernel_rfl) (hS126.cell (i := 10) rfl rfl)) ?_
                      refine o_pure (i := 3) (fun j w => ⟨(fun _ _ => trivial) j w, fun _ h => h⟩) rfl rfl (by kernel_rfl) (goes0 rfl) (QOk.then QOk.body) (fun w => q_indexAddrA (len := 3) (e := 2) (m := 1) rfl rfl (by kernel_rfl) (by kernel_rfl) (by decide) (by decide)) ?_
                      refine o_held (i := 4) [5, 6, 7, 8, 9, 11, 12] (fun j w => ⟨(fun _ _ => trivial) j w, fun _ h => h⟩) rfl rfl (by kernel_rfl) (goes0 rfl) (QOk.then QOk.body) (q_load1 rfl (by kernel_rfl) (hS126.cell (i := 10) rfl rfl)) ?_
                      refine o_eff2 (i := 2) (j := 10) (by kernel_rfl) rfl rfl (goes0 rfl) (goes0 rfl) (fun K hK => ?_) (fun K hK => ?_)
                      ·
                        refine e_call (by kernel_rfl) (whole_R n0 _) rfl (after_R hS126 (fun v127 w127 hv127 hS127 => ?_))
                        clear hS126
                        obtain rfl := hv127
                        refine hK _ _ ⟨⟨trivial, fun h => absurd h (by decide)⟩, fun _ _ => by first | exact q_load1 rfl (by kernel_rfl) (hS127.cell (i := 10) rfl rfl)⟩ ?_; clear hK K
                        refine o_eff2 (i := 5) (j := 10) (by kernel_rfl) rfl rfl (goes0 rfl) (goes0 rfl) (fun K hK => ?_) (fun K hK => ?_)
                        ·
                          refine e_call (by kernel_rfl) (whole_R n1 _) rfl (after_R hS127 (fun v128 w128 hv128 hS128 => ?_))
                          clear hS127
                          obtain rfl := hv128
                          refine hK _ _ ⟨⟨trivial, fun h => absurd h (by decide)⟩, fun h => absurd h (by decide)⟩ ?_; clear hK K
                          refine o_eff2 (i := 6) (j := 10) (by kernel_rfl) rfl rfl (goes0 rfl) (goes0 rfl) (fun K hK => ?_) (fun K hK => ?_)
                          ·
                            refine e_call (by kernel_rfl) (rk_R hP.1 (num_of (.inl rfl) f0) (num_of (.inl rfl) f1) _) rfl (after_R hS128 (fun v129 w129 hv129 hS129 => ?_))
                            clear hS128
                            obtain rfl := hv129
                            refine hK _ _ ⟨⟨trivial, fun h => absurd h (by decide)⟩, fun h => absurd h (by decide)⟩ ?_; clear hK K
                            refine o_pure (i := 7) (fun j w => ⟨(fun j w => ⟨(fun _ _ => trivial) j w, fun _ h => h⟩) j w, fun _ h => h⟩) rfl rfl (by kernel_rfl) (goes0 rfl) (QOk.then QOk.body) (fun w => q_move rfl) ?_
                            refine o_pure (i := 8) (fun j w => ⟨(fun j w => ⟨(fun _ _ => trivial) j w, fun _ h => h⟩) j w, fun _ h => h⟩) rfl rfl (by kernel_rfl) (goes0 rfl) (QOk.then QOk.body) (fun w => q_extract rfl rfl) ?_
                            refine o_pure (i := 9) (fun j w => ⟨(fun j w => ⟨(fun _ _ => trivial) j w, fun _ h => h⟩) j w, fun _ h => h⟩) rfl rfl (by kernel_rfl) (goes0 rfl) (QOk.then QOk.body) (fun w => q_extract rfl rfl) ?_
                            refine o_eff (i := 10) (by kernel_rfl) rfl (goes0 rfl) (fun K hK => ?_)
                            refine e_alloc (zv := .agg #[.int .i64 0, .int .i64 0, .string ⟨#[]⟩]) hS129 (by kernel_rfl) (fun b130 w130 (hS130 : St _ _ [.blk b130 (.cells #[.int .i64 (0 : Int), .int .i64 (0 : Int), .string (bs [])] 51), .blk b71 (.cells #[.int .i64 (kD d0), .int .i64 n0, .string (bs [])] 51), .blk b67 (.cells #[.int .i64 (kD d0), .int .i64 n0, .string (bs [])] 51), .blk b63 (.cells #[.int .i64 (kD d0), .int .i64 n0, .string (bs [])] 51), .blk b53 (.cells #[.int .i64 (kD d0), .int .i64 (oneD d0), .string (bs [])] 51), .blk b49 (.cells #[.int .i64 (rK (reckM 5 (kD d1) n1 (kD d0) n0)), .int .i64 (rN (reckM 5 (kD d1) n1 (kD d0) n0)), .string (bs [])] 51), .blk b45 (.cells #[.int .i64 (rK (reckM 5 (kD d0) n0 (kD d1) n1)), .int .i64 (rN (reckM 5 (kD d0) n0 (kD d1) n1)), .string (bs [])] 51), .blk b41 (.cells #[.int .i64 (rK (reckM 3 (kD d1) n1 (kD d0) n0)), .int .i64 (rN (reckM 3 (kD d1) n1 (kD d0) n0)), .string (bs [])] 51), .blk b37 (.cells #[.int .i64 (rK (reckM 3 (kD d0) n0 (kD d1) n1)), .int .i64 (rN (reckM 3 (kD d0) n0 (kD d1) n1)), .string (bs [])] 51), .blk b5 (.cells #[.int .i64 (kD d0), .int .i64 n0, .string (bs []), .int .i64 (kD d1), .int .i64 n1, .string (bs [])] 59), .blk b3 (.cells #[.bool d0, .bool d1] 58), .blk b2 (.cells #[.int .i64 n0, .int .i64 n1, .int .i64 n2] 57)] _) => ?_)
                            clear hS129
                            refine hK _ _ ⟨⟨trivial, fun _ _ => by first | exact q_load1 rfl (by kernel_rfl) (hS130.cell (i := 11) rfl rfl)⟩, fun _ _ => by first | exact q_load1 rfl (by kernel_rfl) (hS130.cell (i := 11) rfl rfl)⟩ ?_; clear hK K
                            refine o_eff (i := 11) (by kernel_rfl) rfl (goes0 rfl) (fun K hK => ?_)
                            refine e_storeA hS130 rfl rfl (by kernel_rfl) (by repeat' (first | exact trivial | refine ⟨by first | rfl | assumption | exact one_if (by assumption), ?_⟩)) (i := 0) rfl rfl (fun w131 (hS131 : St _ _ [.blk b130 (.cells #[.int .i64 (2 : Int), .int .i64 (n0 * n1), .string (bs [])] 51), .blk b71 (.cells #[.int .i64 (kD d0), .int .i64 n0, .string (bs [])] 51), .blk b67 (.cells #[.int .i64 (kD d0), .int .i64 n0, .string (bs [])] 51), .blk b63 (.cells #[.int .i64 (kD d0), .int .i64 n0, .string (bs [])] 51), .blk b53 (.cells #[.int .i64 (kD d0), .int .i64 (oneD d0), .string (bs [])] 51), .blk b49 (.cells #[.int .i64 (rK (reckM 5 (kD d1) n1 (kD d0) n0)), .int .i64 (rN (reckM 5 (kD d1) n1 (kD d0) n0)), .string (bs [])] 51), .blk b45 (.cells #[.int .i64 (rK (reckM 5 (kD d0) n0 (kD d1) n1)), .int .i64 (rN (reckM 5 (kD d0) n0 (kD d1) n1)), .string (bs [])] 51), .blk b41 (.cells #[.int .i64 (rK (reckM 3 (kD d1) n1 (kD d0) n0)), .int .i64 (rN (reckM 3 (kD d1) n1 (kD d0) n0)), .string (bs [])] 51), .blk b37 (.cells #[.int .i64 (rK (reckM 3 (kD d0) n0 (kD d1) n1)), .int .i64 (rN (reckM 3 (kD d0) n0 (kD d1) n1)), .string (bs [])] 51), .blk b5 (.cells #[.int .i64 (kD d0), .int .i64 n0, .string (bs []), .int .i64 (kD d1), .int .i64 n1, .string (bs [])] 59), .blk b3 (.cells #[.bool d0, .bool d1] 58), .blk b2 (.cells #[.int .i64 n0, .int .i64 n1, .int .i64 n2] 57)] _) => ?_)
                            clear hS130
                            refine hK _ _ ⟨⟨trivial, fun h => absurd h (by decide)⟩, fun h => absurd h (by decide)⟩ ?_; clear hK K
                            refine o_pure (i := 12) (fun j w => ⟨(fun j w => ⟨(fun _ _ => trivial) j w, fun _ h => h⟩) j w, fun _ h => h⟩) rfl rfl (by kernel_rfl) (goes0 rfl) (QOk.then QOk.body) (fun w => q_assign rfl) ?_
                            refine o_done (by kernel_rfl) ?_
                            refine hK125 _ _ (came (b130) (by repeat' (first | exact Agree.refl _ _ | refine Agree.up ?_ rfl | refine Agree.hav2 ?_ rfl | refine Agree.ups2 ?_ rfl)) (by repeat' (first | exact trivial | refine ⟨by first | rfl | exact int_succ _ | assumption, ?_⟩)) ?_)
                            exact hS131
                          ·
                            refine e_alloc (zv := .agg #[.int .i64 0, .int .i64 0, .string ⟨#[]⟩]) hS128 (by kernel_rfl) (fun b132 w132 (hS132 : St _ _ [.blk b132 (.cells #[.int .i64 (0 : Int), .int .i64 (0 : Int), .string (bs [])] 51), .blk b71 (.cells #[.int .i64 (kD d0), .int .i64 n0, .string (bs [])] 51), .blk b67 (.cells #[.int .i64 (kD d0), .int .i64 n0, .string (bs [])] 51), .blk b63 (.cells #[.int .i64 (kD d0), .int .i64 n0, .string (bs [])] 51), .blk b53 (.cells #[.int .i64 (kD d0), .int .i64 (oneD d0), .string (bs [])] 51), .blk b49 (.cells #[.int .i64 (rK (reckM 5 (kD d1) n1 (kD d0) n0)), .int .i64 (rN (reckM 5 (kD d1) n1 (kD d0) n0)), .string (bs [])] 51), .blk b45 (.cells #[.int .i64 (rK (reckM 5 (kD d0) n0 (kD d1) n1)), .int .i64 (rN (reckM 5 (kD d0) n0 (kD d1) n1)), .string (bs [])] 51), .blk b41 (.cells #[.int .i64 (rK (reckM 3 (kD d1) n1 (kD d0) n0)), .int .i64 (rN (reckM 3 (kD d1) n1 (kD d0) n0)), .string (bs [])] 51), .blk b37 (.cells #[.int .i64 (rK (reckM 3 (kD d0) n0 (kD d1) n1)), .int .i64 (rN (reckM 3 (kD d0) n0 (kD d1) n1)), .string (bs [])] 51), .blk b5 (.cells #[.int .i64 (kD d0), .int .i64 n0, .string (bs []), .int .i64 (kD d1), .int .i64 n1, .string (bs [])] 59), .blk b3 (.cells #[.bool d0, .bool d1] 58), .blk b2 (.cells #[.int .i64 n0, .int .i64 n1, .int .i64 n2] 57)] _) => ?_)
                            clear hS128
                            refine hK _ _ ⟨⟨trivial, fun _ _ => by first | exact q_load1 rfl (by kernel_rfl) (hS132.cell (i := 11) rfl rfl)⟩, fun _ _ => by first | exact q_load1 rfl (by kernel_rfl) (hS132.cell (i := 11) rfl rfl)⟩ ?_; clear hK K
                            refine o_eff (i := 6) (by kernel_rfl) rfl (goes0 rfl) (fun K hK => ?_)
                            refine e_call (by kernel_rfl) (rk_R hP.1 (num_of (.inl rfl) f0) (num_of (.inl rfl) f1) _) rfl (after_R hS132 (fun v133 w133 hv133 hS133 => ?_))
                            clear hS132
                            obtain rfl := hv133
                            refine hK _ _ ⟨⟨trivial, fun h => absurd h (by decide)⟩, fun h => absurd h (by decide)⟩ ?_; clear hK K
                            refine o_pure (i := 7) (fun j w => ⟨(fun j w => ⟨(fun _ _ => trivial) j w, fun _ h => h⟩) j w, fun _ h => h⟩) rfl rfl (by kernel_rfl) (goes0 rfl) (QOk.then QOk.body) (fun w => q_move rfl) ?_
                            refine o_pure (i := 8) (fun j w => ⟨(fun j w => ⟨(fun _ _ => trivial) j w, fun _ h => h⟩) j w, fun _ h => h⟩) rfl rfl (by kernel_rfl) (goes0 rfl) (QOk.then QOk.body) (fun w => q_extract rfl rfl) ?_
                            refine o_pure (i := 9) (fun j w => ⟨(fun j w => ⟨(fun _ _ => trivial) j w, fun _ h => h⟩) j w, fun _ h => h⟩) rfl rfl (by kernel_rfl) (goes0 rfl) (QOk.then QOk.body) (fun w => q_extract rfl rfl) ?_
                            refine o_eff (i := 11) (by kernel_rfl) rfl (goes0 rfl) (fun K hK => ?_)
                            refine e_storeA hS133 rfl rfl (by kernel_rfl) (by repeat' (first | exact trivial | refine ⟨by first | rfl | assumption | exact one_if (by assumption), ?_⟩)) (i := 0) rfl rfl (fun w134 (hS134 : St _ _ [.blk b132 (.cells #[.int .i64 (2 : Int), .int .i64 (n0 * n1), .string (bs [])] 51), .blk b71 (.cells #[.int .i64 (kD d0), .int .i64 n0, .string (bs [])] 51), .blk b67 (.cells #[.int .i64 (kD d0), .int .i64 n0, .string (bs [])] 51), .blk b63 (.cells #[.int .i64 (kD d0), .int .i64 n0, .string (bs [])] 51), .blk b53 (.cells #[.int .i64 (kD d0), .int .i64 (oneD d0), .string (bs [])] 51), .blk b49 (.cells #[.int .i64 (rK (reckM 5 (kD d1) n1 (kD d0) n0)), .int .i64 (rN (reckM 5 (kD d1) n1 (kD d0) n0)), .string (bs [])] 51), .blk b45 (.cells #[.int .i64 (rK (reckM 5 (kD d0) n0 (kD d1) n1)), .int .i64 (rN (reckM 5 (kD d0) n0 (kD d1) n1)), .string (bs [])] 51), .blk b41 (.cells #[.int .i64 (rK (reckM 3 (kD d1) n1 (kD d0) n0)), .int .i64 (rN (reckM 3 (kD d1) n1 (kD d0) n0)), .string (bs [])] 51), .blk b37 (.cells #[.int .i64 (rK (reckM 3 (kD d0) n0 (kD d1) n1)), .int .i64 (rN (reckM 3 (kD d0) n0 (kD d1) n1)), .string (bs [])] 51), .blk b5 (.cells #[.int .i64 (kD d0), .int .i64 n0, .string (bs []), .int .i64 (kD d1), .int .i64 n1, .string (bs [])] 59), .blk b3 (.cells #[.bool d0, .bool d1] 58), .blk b2 (.cells #[.int .i64 n0, .int .i64 n1, .int .i64 n2] 57)] _) => ?_)
                            clear hS133
                            refine hK _ _ ⟨⟨trivial, fun h => absurd h (by decide)⟩, fun h => absurd h (by decide)⟩ ?_; clear hK K
                            refine o_pure (i := 12) (fun j w => ⟨(fun j w => ⟨(fun _ _ => trivial) j w, fun _ h => h⟩) j w, fun _ h => h⟩) rfl rfl (by kernel_rfl) (goes0 rfl) (QOk.then QOk.body) (fun w => q_assign rfl) ?_
                            refine o_done (by kernel_rfl) ?_
                            refine hK125 _ _ (came (b132) (by repeat' (first | exact Agree.refl _ _ | refine Agree.up ?_ rfl | refine Agree.hav2 ?_ rfl | refine Agree.ups2 ?_ rfl)) (by repeat' (first | exact trivial | refine ⟨by first | rfl | exact int_succ _ | assumption, ?_⟩)) ?_)
                            exact hS134
                        ·
                          refine e_alloc (zv := .agg #[.int .i64 0, .int .i64 0, .string ⟨#[]⟩]) hS127 (by kernel_rfl) (fun b135 w135 (hS135 : St _ _ [.blk b135 (.cells #[.int .i64 (0 : Int), .int .i64 (0 : Int), .string (bs [])] 51), .blk b71 (.cells #[.int .i64 (kD d0), .int .i64 n0, .string (bs [])] 51), .blk b67 (.cells #[.int .i64 (kD d0), .int .i64 n0, .string (bs [])] 51), .blk b63 (.cells #[.int .i64 (kD d0), .int .i64 n0, .string (bs [])] 51), .blk b53 (.cells #[.int .i64 (kD d0), .int .i64 (oneD d0), .string (bs [])] 51), .blk b49 (.cells #[.int .i64 (rK (reckM 5 (kD d1) n1 (kD d0) n0)), .int .i64 (rN (reckM 5 (kD d1) n1 (kD d0) n0)), .string (bs [])] 51), .blk b45 (.cells #[.int .i64 (rK (reckM 5 (kD d0) n0 (kD d1) n1)), .int .i64 (rN (reckM 5 (kD d0) n0 (kD d1) n1)), .string (bs [])] 51), .blk b41 (.cells #[.int .i64 (rK (reckM 3 (kD d1) n1 (kD d0) n0)), .int .i64 (rN (reckM 3 (kD d1) n1 (kD d0) n0)), .string (bs [])] 51), .blk b37 (.cells #[.int .i64 (rK (reckM 3 (kD d0) n0 (kD d1) n1)), .int .i64 (rN (reckM 3 (kD d0) n0 (kD d1) n1)), .string (bs [])] 51), .blk b5 (.cells #[.int .i64 (kD d0), .int .i64 n0, .string (bs []), .int .i64 (kD d1), .int .i64 n1, .string (bs [])] 59), .blk b3 (.cells #[.bool d0, .bool d1] 58), .blk b2 (.cells #[.int .i64 n0, .int .i64 n1, .int .i64 n2] 57)] _) => ?_)
                          clear hS127
                          refine hK _ _ ⟨⟨trivial, fun _ _ => by first | exact q_load1 rfl (by kernel_rfl) (hS135.cell (i := 11) rfl rfl)⟩, fun _ _ => by first | exact q_load1 rfl (by kernel_rfl) (hS135.cell (i := 11) rfl rfl)⟩ ?_; clear hK K
                          refine o_eff (i := 5) (by kernel_rfl) rfl (goes0 rfl) (fun K hK => ?_)
                          refine e_call (by kernel_rfl) (whole_R n1 _) rfl (after_R hS135 (fun v136 w136 hv136 hS136 => ?_))
                          clear hS135
                          obtain rfl := hv136
                          refine hK _ _ ⟨⟨trivial, fun h => absurd h (by decide)⟩, fun h => absurd h (by decide)⟩ ?_; clear hK K
                          refine o_eff (i := 6) (by kernel_rfl) rfl (goes0 rfl) (fun K hK => ?_)
                          refine e_call (by kernel_rfl) (rk_R hP.1 (num_of (.inl rfl) f0) (num_of (.inl rfl) f1) _) rfl (after_R hS136 (fun v137 w137 hv137 hS137 => ?_))
                          clear hS136
                          obtain rfl := hv137
                          refine hK _ _ ⟨⟨trivial, fun h => absurd h (by decide)⟩, fun h => absurd h (by decide)⟩ ?_; clear hK K
                          refine o_pure (i := 7) (fun j w => ⟨(fun j w => ⟨(fun _ _ => trivial) j w, fun _ h => h⟩) j w, fun _ h => h⟩) rfl rfl (by kernel_rfl) (goes0 rfl) (QOk.then QOk.body) (fun w => q_move rfl) ?_
                          refine o_pure (i := 8) (fun j w => ⟨(fun j w => ⟨(fun _ _ => trivial) j w, fun _ h => h⟩) j w, fun _ h => h⟩) rfl rfl (by kernel_rfl) (goes0 rfl) (QOk.then QOk.body) (fun w => q_extract rfl rfl) ?_
                          refine o_pure (i := 9) (fun j w => ⟨(fun j w => ⟨(fun _ _ => trivial) j w, fun _ h => h⟩) j w, fun _ h => h⟩) rfl rfl (by kernel_rfl) (goes0 rfl) (QOk.then QOk.body) (fun w => q_extract rfl rfl) ?_
                          refine o_eff (i := 11) (by kernel_rfl) rfl (goes0 rfl) (fun K hK => ?_)
                          refine e_storeA hS137 rfl rfl (by kernel_rfl) (by repeat' (first | exact trivial | refine ⟨by first | rfl | assumption | exact one_if (by assumption), ?_⟩)) (i := 0) rfl rfl (fun w138 (hS138 : St _ _ [.blk b135 (.cells #[.int .i64 (2 : Int), .int .i64 (n0 * n1), .string (bs [])] 51), .blk b71 (.cells #[.int .i64 (kD d0), .int .i64 n0, .string (bs [])] 51), .blk b67 (.cells #[.int .i64 (kD d0), .int .i64 n0, .string (bs [])] 51), .blk b63 (.cells #[.int .i64 (kD d0), .int .i64 n0, .string (bs [])] 51), .blk b53 (.cells #[.int .i64 (kD d0), .int .i64 (oneD d0), .string (bs [])] 51), .blk b49 (.cells #[.int .i64 (rK (reckM 5 (kD d1) n1 (kD d0) n0)), .int .i64 (rN (reckM 5 (kD d1) n1 (kD d0) n0)), .string (bs [])] 51), .blk b45 (.cells #[.int .i64 (rK (reckM 5 (kD d0) n0 (kD d1) n1)), .int .i64 (rN (reckM 5 (kD d0) n0 (kD d1) n1)), .string (bs [])] 51), .blk b41 (.cells #[.int .i64 (rK (reckM 3 (kD d1) n1 (kD d0) n0)), .int .i64 (rN (reckM 3 (kD d1) n1 (kD d0) n0)), .string (bs [])] 51), .blk b37 (.cells #[.int .i64 (rK (reckM 3 (kD d0) n0 (kD d1) n1)), .int .i64 (rN (reckM 3 (kD d0) n0 (kD d1) n1)), .string (bs [])] 51), .blk b5 (.cells #[.int .i64 (kD d0), .int .i64 n0, .string (bs []), .int .i64 (kD d1), .int .i64 n1, .string (bs [])] 59), .blk b3 (.cells #[.bool d0, .bool d1] 58), .blk b2 (.cells #[.int .i64 n0, .int .i64 n1, .int .i64 n2] 57)] _) => ?_)
                          clear hS137
                          refine hK _ _ ⟨⟨trivial, fun h => absurd h (by decide)⟩, fun h => absurd h (by decide)⟩ ?_; clear hK K
                          refine o_pure (i := 12) (fun j w => ⟨(fun j w => ⟨(fun _ _ => trivial) j w, fun _ h => h⟩) j w, fun _ h => h⟩) rfl rfl (by kernel_rfl) (goes0 rfl) (QOk.then QOk.body) (fun w => q_assign rfl) ?_
                          refine o_done (by kernel_rfl) ?_
                          refine hK125 _ _ (came (b135) (by repeat' (first | exact Agree.refl _ _ | refine Agree.up ?_ rfl | refine Agree.hav2 ?_ rfl | refine Agree.ups2 ?_ rfl)) (by repeat' (first | exact trivial | refine ⟨by first | rfl | exact int_succ _ | assumption, ?_⟩)) ?_)
                          exact hS138
                      ·
                        refine e_alloc (zv := .agg #[.int .i64 0, .int .i64 0, .string ⟨#[]⟩]) hS126 (by kernel_rfl) (fun b139 w139 (hS139 : St _ _ [.blk b139 (.cells #[.int .i64 (0 : Int), .int .i64 (0 : Int), .string (bs [])] 51), .blk b71 (.cells #[.int .i64 (kD d0), .int .i64 n0, .string (bs [])] 51), .blk b67 (.cells #[.int .i64 (kD d0), .int .i64 n0, .string (bs [])] 51), .blk b63 (.cells #[.int .i64 (kD d0), .int .i64 n0, .string (bs [])] 51), .blk b53 (.cells #[.int .i64 (kD d0), .int .i64 (oneD d0), .string (bs [])] 51), .blk b49 (.cells #[.int .i64 (rK (reckM 5 (kD d1) n1 (kD d0) n0)), .int .i64 (rN (reckM 5 (kD d1) n1 (kD d0) n0)), .string (bs [])] 51), .blk b45 (.cells #[.int .i64 (rK (reckM 5 (kD d0) n0 (kD d1) n1)), .int .i64 (rN (reckM 5 (kD d0) n0 (kD d1) n1)), .string (bs [])] 51), .blk b41 (.cells #[.int .i64 (rK (reckM 3 (kD d1) n1 (kD d0) n0)), .int .i64 (rN (reckM 3 (kD d1) n1 (kD d0) n0)), .string (bs [])] 51), .blk b37 (.cells #[.int .i64 (rK (reckM 3 (kD d0) n0 (kD d1) n1)), .int .i64 (rN (reckM 3 (kD d0) n0 (kD d1) n1)), .string (bs [])] 51), .blk b5 (.cells #[.int .i64 (kD d0), .int .i64 n0, .string (bs []), .int .i64 (kD d1), .int .i64 n1, .string (bs [])] 59), .blk b3 (.cells #[.bool d0, .bool d1] 58), .blk b2 (.cells #[.int .i64 n0, .int .i64 n1, .int .i64 n2] 57)] _) => ?_)
                        clear hS126
                        refine hK _ _ ⟨⟨trivial, fun _ _ => by first | exact q_load1 rfl (by kernel_rfl) (hS139.cell (i := 11) rfl rfl)⟩, fun _ _ => by first | exact q_load1 rfl (by kernel_rfl) (hS139.cell (i := 11) rfl rfl)⟩ ?_; clear hK K
                        refine o_eff (i := 2) (by kernel_rfl) rfl (goes0 rfl) (fun K hK => ?_)
                        refine e_call (by kernel_rfl) (whole_R n0 _) rfl (after_R hS139 (fun v140 w140 hv140 hS140 => ?_))
                        clear hS139
                        obtain rfl := hv140
                        refine hK _ _ ⟨⟨trivial, fun h => absurd h (by decide)⟩, fun _ _ => by first | exact q_load1 rfl (by kernel_rfl) (hS140.cell (i := 11) rfl rfl)⟩ ?_; clear hK K
                        refine o_eff (i := 5) (by kernel_rfl) rfl (goes0 rfl) (fun K hK => ?_)
                        refine e_call (by kernel_rfl) (whole_R n1 _) rfl (after_R hS140 (fun v141 w141 hv141 hS141 => ?_))
                        clear hS140
                        obtain rfl := hv141
                        refine hK _ _ ⟨⟨trivial, fun h => absurd h (by decide)⟩, fun h => absurd h (by decide)⟩ ?_; clear hK K
                        refine o_eff (i := 6) (by kernel_rfl) rfl (goes0 rfl) (fun K hK => ?_)
                        refine e_call (by kernel_rfl) (rk_R hP.1 (num_of (.inl rfl) f0) (num_of (.inl rfl) f1) _) rfl (after_R hS141 (fun v142 w142 hv142 hS142 => ?_))
                        clear hS141
                        obtain rfl := hv142
                        refine hK _ _ ⟨⟨trivial, fun h => absurd h (by decide)⟩, fun h => absurd h (by decide)⟩ ?_; clear hK K
                        refine o_pure (i := 7) (fun j w => ⟨(fun j w => ⟨(fun _ _ => trivial) j w, fun _ h => h⟩) j w, fun _ h => h⟩) rfl rfl (by kernel_rfl) (goes0 rfl) (QOk.then QOk.body) (fun w => q_move rfl) ?_
                        refine o_pure (i := 8) (fun j w => ⟨(fun j w => ⟨(fun _ _ => trivial) j w, fun _ h => h⟩) j w, fun _ h => h⟩) rfl rfl (by kernel_rfl) (goes0 rfl) (QOk.then QOk.body) (fun w => q_extract rfl rfl) ?_
                        refine o_pure (i := 9) (fun j w => ⟨(fun j w => ⟨(fun _ _ => trivial) j w, fun _ h => h⟩) j w, fun _ h => h⟩) rfl rfl (by kernel_rfl) (goes0 rfl) (QOk.then QOk.body) (fun w => q_extract rfl rfl) ?_
                        refine o_eff (i := 11) (by kernel_rfl) rfl (goes0 rfl) (fun K hK => ?_)
                        refine e_storeA hS142 rfl rfl (by kernel_rfl) (by repeat' (first | exact trivial | refine ⟨by first | rfl | assumption | exact one_if (by assumption), ?_⟩)) (i := 0) rfl rfl (fun w143 (hS143 : St _ _ [.blk b139 (.cells #[.int .i64 (2 : Int), .int .i64 (n0 * n1), .string (bs [])] 51), .blk b71 (.cells #[.int .i64 (kD d0), .int .i64 n0, .string (bs [])] 51), .blk b67 (.cells #[.int .i64 (kD d0), .int .i64 n0, .string (bs [])] 51), .blk b63 (.cells #[.int .i64 (kD d0), .int .i64 n0, .string (bs [])] 51), .blk b53 (.cells #[.int .i64 (kD d0), .int .i64 (oneD d0), .string (bs [])] 51), .blk b49 (.cells #[.int .i64 (rK (reckM 5 (kD d1) n1 (kD d0) n0)), .int .i64 (rN (reckM 5 (kD d1) n1 (kD d0) n0)), .string (bs [])] 51), .blk b45 (.cells #[.int .i64 (rK (reckM 5 (kD d0) n0 (kD d1) n1)), .int .i64 (rN (reckM 5 (kD d0) n0 (kD d1) n1)), .string (bs [])] 51), .blk b41 (.cells #[.int .i64 (rK (reckM 3 (kD d1) n1 (kD d0) n0)), .int .i64 (rN (reckM 3 (kD d1) n1 (kD d0) n0)), .string (bs [])] 51), .blk b37 (.cells #[.int .i64 (rK (reckM 3 (kD d0) n0 (kD d1) n1)), .int .i64 (rN (reckM 3 (kD d0) n0 (kD d1) n1)), .string (bs [])] 51), .blk b5 (.cells #[.int .i64 (kD d0), .int .i64 n0, .string (bs []), .int .i64 (kD d1), .int .i64 n1, .string (bs [])] 59), .blk b3 (.cells #[.bool d0, .bool d1] 58), .blk b2 (.cells #[.int .i64 n0, .int .i64 n1, .int .i64 n2] 57)] _) => ?_)
                        clear hS142
                        refine hK _ _ ⟨⟨trivial, fun h => absurd h (by decide)⟩, fun h => absurd h (by decide)⟩ ?_; clear hK K
                        refine o_pure (i := 12) (fun j w => ⟨(fun j w => ⟨(fun _ _ => trivial) j w, fun _ h => h⟩) j w, fun _ h => h⟩) rfl rfl (by kernel_rfl) (goes0 rfl) (QOk.then QOk.body) (fun w => q_assign rfl) ?_
                        refine o_done (by kernel_rfl) ?_
                        refine hK125 _ _ (came (b139) (by repeat' (first | exact Agree.refl _ _ | refine Agree.up ?_ rfl | refine Agree.hav2 ?_ rfl | refine Agree.ups2 ?_ rfl)) (by repeat' (first | exact trivial | refine ⟨by first | rfl | exact int_succ _ | assumption, ?_⟩)) ?_)
                        exact hS143
                    ·
                      have hS125 := hJ125
                      try dsimp only at hS125 ⊢
                      refine wp_seq_k (fun K144 hK144 => ?_)
                      refine r_any (by kernel_rfl) hS125 (fun w145 hS145 => ?_)
                      clear hS125
                      refine o_held (i := 0) [4, 5, 6, 7, 8] (fun _ _ => trivial) rfl rfl (by kernel_rfl) (goes0 rfl) (QOk.then QOk.body) (q_loadA (m := 3) rfl (by kernel_rfl) (by kernel_rfl) (hS145.blk (i := 0) rfl) rfl rfl) ?_
                      refine o_pure (i := 1) (fun j w => ⟨(fun _ _ => trivial) j w, fun _ h => h⟩) rfl rfl (by kernel_rfl) (goes0 rfl) (QOk.then QOk.body) (fun w => q_indexAddrA (len := 3) (e := 2) (m := 1) rfl rfl (by kernel_rfl) (by kernel_rfl) (by decide) (by decide)) ?_
                      refine o_held (i := 2) [3, 4, 5, 6, 7, 8] (fun j w => ⟨(fun _ _ => trivial) j w, fun _ h => h⟩) rfl rfl (by kernel_rfl) (goes0 rfl) (QOk.then QOk.body) (q_load1 rfl (by kernel_rfl) (hS145.cell (i := 11) rfl rfl)) ?_
                      refine o_eff (i := 3) (by kernel_rfl) rfl (goes0 rfl) (fun K hK => ?_)
                      refine e_call (by kernel_rfl) (whole_R n2 _) rfl (after_R hS145 (fun v146 w146 hv146 hS146 => ?_))
                      clear hS145
                      obtain rfl := hv146
                      refine hK _ _ ⟨⟨trivial, fun _ _ => by first | exact q_loadA (m := 3) rfl (by kernel_rfl) (by kernel_rfl) (hS146.blk (i := 0) rfl) rfl rfl⟩, fun h => absurd h (by decide)⟩ ?_; clear hK K
                      refine o_eff (i := 4) (by kernel_rfl) rfl (goes0 rfl) (fun K hK => ?_)
                      refine e_call (by kernel_rfl) (rk_R hP.2.1 (num_of (.inl rfl) hP.2.2.2.2.1) (num_of (.inl rfl) f2) _) rfl (after_R hS146 (fun v147 w147 hv147 hS147 => ?_))
                      clear hS146
                      obtain rfl := hv147
                      refine hK _ _ ⟨⟨trivial, fun h => absurd h (by decide)⟩, fun h => absurd h (by decide)⟩ ?_; clear hK K
                      refine o_pure (i := 5) (fun j w => ⟨(fun j w => ⟨(fun _ _ => trivial) j w, fun _ h => h⟩) j w, fun _ h => h⟩) rfl rfl (by kernel_rfl) (goes0 rfl) (QOk.then QOk.body) (fun w => q_move rfl) ?_
                      refine o_pure (i := 6) (fun j w => ⟨(fun j w => ⟨(fun _ _ => trivial) j w, fun _ h => h⟩) j w, fun _ h => h⟩) rfl rfl (by kernel_rfl) (goes0 rfl) (QOk.then QOk.body) (fun w => q_extract rfl rfl) ?_
                      refine o_pure (i := 7) (fun j w => ⟨(fun j w => ⟨(fun _ _ => trivial) j w, fun _ h => h⟩) j w, fun _ h => h⟩) rfl rfl (by kernel_rfl) (goes0 rfl) (QOk.then QOk.body) (fun w => q_extract rfl rfl) ?_
                      refine o_eff (i := 8) (by kernel_rfl) rfl (goes0 rfl) (fun K hK => ?_)
                      refine e_storeA hS147 rfl rfl (by kernel_rfl) (by repeat' (first | exact trivial | refine ⟨by first | rfl | assumption | exact one_if (by assumption), ?_⟩)) (i := 0) rfl rfl (fun w148 (hS148 : St _ _ [.blk bp (.cells #[.int .i64 (2 : Int), .int .i64 (n0 * n1 * n2), .string (bs [])] 51), .blk b71 (.cells #[.int .i64 (kD d0), .int .i64 n0, .string (bs [])] 51), .blk b67 (.cells #[.int .i64 (kD d0), .int .i64 n0, .string (bs [])] 51), .blk b63 (.cells #[.int .i64 (kD d0), .int .i64 n0, .string (bs [])] 51), .blk b53 (.cells #[.int .i64 (kD d0), .int .i64 (oneD d0), .string (bs [])] 51), .blk b49 (.cells #[.int .i64 (rK (reckM 5 (kD d1) n1 (kD d0) n0)), .int .i64 (rN (reckM 5 (kD d1) n1 (kD d0) n0)), .string (bs [])] 51), .blk b45 (.cells #[.int .i64 (rK (reckM 5 (kD d0) n0 (kD d1) n1)), .int .i64 (rN (reckM 5 (kD d0) n0 (kD d1) n1)), .string (bs [])] 51), .blk b41 (.cells #[.int .i64 (rK (reckM 3 (kD d1) n1 (kD d0) n0)), .int .i64 (rN (reckM 3 (kD d1) n1 (kD d0) n0)), .string (bs [])] 51), .blk b37 (.cells #[.int .i64 (rK (reckM 3 (kD d0) n0 (kD d1) n1)), .int .i64 (rN (reckM 3 (kD d0) n0 (kD d1) n1)), .string (bs [])] 51), .blk b5 (.cells #[.int .i64 (kD d0), .int .i64 n0, .string (bs []), .int .i64 (kD d1), .int .i64 n1, .string (bs [])] 59), .blk b3 (.cells #[.bool d0, .bool d1] 58), .blk b2 (.cells #[.int .i64 n0, .int .i64 n1, .int .i64 n2] 57)] _) => ?_)
                      clear hS147
                      refine hK _ _ ⟨⟨trivial, fun h => absurd h (by decide)⟩, fun h => absurd h (by decide)⟩ ?_; clear hK K
                      refine o_done (by kernel_rfl) ?_
                      refine hK144 _ _ ?_
                      refine c_cut (τ := Nat) [(25, 26), (191, 200)] (fun x => (fun (bq : Nat) => [(25, .pointer (some ⟨bq, 0, none⟩))]) x) (fun x w' => (fun (bq : Nat) => St w (fun _ => False) [.blk bq (.cells #[.int .i64 (2 : Int), .int .i64 (n1 * n2), .string (bs [])] 51), .blk bp (.cells #[.int .i64 (2 : Int), .int .i64 (n0 * n1 * n2), .string (bs [])] 51), .blk b71 (.cells #[.int .i64 (kD d0), .int .i64 n0, .string (bs [])] 51), .blk b67 (.cells #[.int .i64 (kD d0), .int .i64 n0, .string (bs [])] 51), .blk b63 (.cells #[.int .i64 (kD d0), .int .i64 n0, .string (bs [])] 51), .blk b53 (.cells #[.int .i64 (kD d0), .int .i64 (oneD d0), .string (bs [])] 51), .blk b49 (.cells #[.int .i64 (rK (reckM 5 (kD d1) n1 (kD d0) n0)), .int .i64 (rN (reckM 5 (kD d1) n1 (kD d0) n0)), .string (bs [])] 51), .blk b45 (.cells #[.int .i64 (rK (reckM 5 (kD d0) n0 (kD d1) n1)), .int .i64 (rN (reckM 5 (kD d0) n0 (kD d1) n1)), .string (bs [])] 51), .blk b41 (.cells #[.int .i64 (rK (reckM 3 (kD d1) n1 (kD d0) n0)), .int .i64 (rN (reckM 3 (kD d1) n1 (kD d0) n0)), .string (bs [])] 51), .blk b37 (.cells #[.int .i64 (rK (reckM 3 (kD d0) n0 (kD d1) n1)), .int .i64 (rN (reckM 3 (kD d0) n0 (kD d1) n1)), .string (bs [])] 51), .blk b5 (.cells #[.int .i64 (kD d0), .int .i64 n0, .string (bs []), .int .i64 (kD d1), .int .i64 n1, .string (bs [])] 59), .blk b3 (.cells #[.bool d0, .bool d1] 58), .blk b2 (.cells #[.int .i64 n0, .int .i64 n1, .int .i64 n2] 57)] w') x) (fun K150 hK150 => ?_) (fun bq j150 w150 hJ150 => ?_)
                      ·
                        refine r_any (by kernel_rfl) hS148 (fun w151 hS151 => ?_)
                        clear hS148
                        refine o_pure (i := 0) (fun _ _ => trivial) rfl rfl (by kernel_rfl) (goes0 rfl) (QOk.then QOk.body) (fun w => q_indexAddrA (len := 3) (e := 2) (m := 1) rfl rfl (by kernel_rfl) (by kernel_rfl) (by decide) (by decide)) ?_
                        refine o_held (i := 1) [2, 5, 6, 7, 8, 9, 11, 12] (fun _ _ => trivial) rfl rfl (by kernel_rfl) (goes0 rfl) (QOk.then QOk.body) (q_load1 rfl (by kernel_rfl) (hS151.cell (i := 11) rfl rfl)) ?_
                        refine o_pure (i := 3) (fun j w => ⟨(fun _ _ => trivial) j w, fun _ h => h⟩) rfl rfl (by kernel_rfl) (goes0 rfl) (QOk.then QOk.body) (fun w => q_indexAddrA (len := 3) (e := 2) (m := 1) rfl rfl (by kernel_rfl) (by kernel_rfl) (by decide) (by decide)) ?_
                        refine o_held (i := 4) [5, 6, 7, 8, 9, 11, 12] (fun j w => ⟨(fun _ _ => trivial) j w, fun _ h => h⟩) rfl rfl (by kernel_rfl) (goes0 rfl) (QOk.then QOk.body) (q_load1 rfl (by kernel_rfl) (hS151.cell (i := 11) rfl rfl)) ?_
                        refine o_eff2 (i := 2) (j := 10) (by kernel_rfl) rfl rfl (goes0 rfl) (goes0 rfl) (fun K hK => ?_) (fun K hK => ?_)
                        ·
                          refine e_call (by kernel_rfl) (whole_R n1 _) rfl (after_R hS151 (fun v152 w152 hv152 hS152 => ?_))
                          clear hS151
                          obtain rfl := hv152
                          refine hK _ _ ⟨⟨trivial, fun h => absurd h (by decide)⟩, fun _ _ => by first | exact q_load1 rfl (by kernel_rfl) (hS152.cell (i := 11) rfl rfl)⟩ ?_; clear hK K
                          refine o_eff2 (i := 5) (j := 10) (by kernel_rfl) rfl rfl (goes0 rfl) (goes0 rfl) (fun K hK => ?_) (fun K hK => ?_)
                          ·
                            refine e_call (by kernel_rfl) (whole_R n2 _) rfl (after_R hS152 (fun v153 w153 hv153 hS153 => ?_))
                            clear hS152
                            obtain rfl := hv153
                            refine hK _ _ ⟨⟨trivial, fun h => absurd h (by decide)⟩, fun h => absurd h (by decide)⟩ ?_; clear hK K
                            refine o_eff2 (i := 6) (j := 10) (by kernel_rfl) rfl rfl (goes0 rfl) (goes0 rfl) (fun K hK => ?_) (fun K hK => ?_)
                            ·
                              refine e_call (by kernel_rfl) (rk_R hP.2.2.1 (num_of (.inl rfl) f1) (num_of (.inl rfl) f2) _) rfl (after_R hS153 (fun v154 w154 hv154 hS154 => ?_))
                              clear hS153
                              obtain rfl := hv154
                              refine hK _ _ ⟨⟨trivial, fun h => absurd h (by decide)⟩, fun h => absurd h (by decide)⟩ ?_; clear hK K
                              refine o_pure (i := 7) (fun j w => ⟨(fun j w => ⟨(fun _ _ => trivial) j w, fun _ h => h⟩) j w, fun _ h => h⟩) rfl rfl (by kernel_rfl) (goes0 rfl) (QOk.then QOk.body) (fun w => q_move rfl) ?_
                              refine o_pure (i := 8) (fun j w => ⟨(fun j w => ⟨(fun _ _ => trivial) j w, fun _ h => h⟩) j w, fun _ h => h⟩) rfl rfl (by kernel_rfl) (goes0 rfl) (QOk.then QOk.body) (fun w => q_extract rfl rfl) ?_
                              refine o_pure (i := 9) (fun j w => ⟨(fun j w => ⟨(fun _ _ => trivial) j w, fun _ h => h⟩) j w, fun _ h => h⟩) rfl rfl (by kernel_rfl) (goes0 rfl) (QOk.then QOk.body) (fun w => q_extract rfl rfl) ?_
                              refine o_eff (i := 10) (by kernel_rfl) rfl (goes0 rfl) (fun K hK => ?_)
                              refine e_alloc (zv := .agg #[.int .i64 0, .int .i64 0, .string ⟨#[]⟩]) hS154 (by kernel_rfl) (fun b155 w155 (hS155 : St _ _ [.blk b155 (.cells #[.int .i64 (0 : Int), .int .i64 (0 : Int), .string (bs [])] 51), .blk bp (.cells #[.int .i64 (2 : Int), .int .i64 (n0 * n1 * n2), .string (bs [])] 51), .blk b71 (.cells #[.int .i64 (kD d0), .int .i64 n0, .string (bs [])] 51), .blk b67 (.cells #[.int .i64 (kD d0), .int .i64 n0, .string (bs [])] 51), .blk b63 (.cells #[.int .i64 (kD d0), .int .i64 n0, .string (bs [])] 51), .blk b53 (.cells #[.int .i64 (kD d0), .int .i64 (oneD d0), .string (bs [])] 51), .blk b49 (.cells #[.int .i64 (rK (reckM 5 (kD d1) n1 (kD d0) n0)), .int .i64 (rN (reckM 5 (kD d1) n1 (kD d0) n0)), .string (bs [])] 51), .blk b45 (.cells #[.int .i64 (rK (reckM 5 (kD d0) n0 (kD d1) n1)), .int .i64 (rN (reckM 5 (kD d0) n0 (kD d1) n1)), .string (bs [])] 51), .blk b41 (.cells #[.int .i64 (rK (reckM 3 (kD d1) n1 (kD d0) n0)), .int .i64 (rN (reckM 3 (kD d1) n1 (kD d0) n0)), .string (bs [])] 51), .blk b37 (.cells #[.int .i64 (rK (reckM 3 (kD d0) n0 (kD d1) n1)), .int .i64 (rN (reckM 3 (kD d0) n0 (kD d1) n1)), .string (bs [])] 51), .blk b5 (.cells #[.int .i64 (kD d0), .int .i64 n0, .string (bs []), .int .i64 (kD d1), .int .i64 n1, .string (bs [])] 59), .blk b3 (.cells #[.bool d0, .bool d1] 58), .blk b2 (.cells #[.int .i64 n0, .int .i64 n1, .int .i64 n2] 57)] _) => ?_)
                              clear hS154
                              refine hK _ _ ⟨⟨trivial, fun _ _ => by first | exact q_load1 rfl (by kernel_rfl) (hS155.cell (i := 12) rfl rfl)⟩, fun _ _ => by first | exact q_load1 rfl (by kernel_rfl) (hS155.cell (i := 12) rfl rfl)⟩ ?_; clear hK K
                              refine o_eff (i := 11) (by kernel_rfl) rfl (goes0 rfl) (fun K hK => ?_)
                              refine e_storeA hS155 rfl rfl (by kernel_rfl) (by repeat' (first | exact trivial | refine ⟨by first | rfl | assumption | exact one_if (by assumption), ?_⟩)) (i := 0) rfl rfl (fun w156 (hS156 : St _ _ [.blk b155 (.cells #[.int .i64 (2 : Int), .int .i64 (n1 * n2), .string (bs [])] 51), .blk bp (.cells #[.int .i64 (2 : Int), .int .i64 (n0 * n1 * n2), .string (bs [])] 51), .blk b71 (.cells #[.int .i64 (kD d0), .int .i64 n0, .string (bs [])] 51), .blk b67 (.cells #[.int .i64 (kD d0), .int .i64 n0, .string (bs [])] 51), .blk b63 (.cells #[.int .i64 (kD d0), .int .i64 n0, .string (bs [])] 51), .blk b53 (.cells #[.int .i64 (kD d0), .int .i64 (oneD d0), .string (bs [])] 51), .blk b49 (.cells #[.int .i64 (rK (reckM 5 (kD d1) n1 (kD d0) n0)), .int .i64 (rN (reckM 5 (kD d1) n1 (kD d0) n0)), .string (bs [])] 51), .blk b45 (.cells #[.int .i64 (rK (reckM 5 (kD d0) n0 (kD d1) n1)), .int .i64 (rN (reckM 5 (kD d0) n0 (kD d1) n1)), .string (bs [])] 51), .blk b41 (.cells #[.int .i64 (rK (reckM 3 (kD d1) n1 (kD d0) n0)), .int .i64 (rN (reckM 3 (kD d1) n1 (kD d0) n0)), .string (bs [])] 51), .blk b37 (.cells #[.int .i64 (rK (reckM 3 (kD d0) n0 (kD d1) n1)), .int .i64 (rN (reckM 3 (kD d0) n0 (kD d1) n1)), .string (bs [])] 51), .blk b5 (.cells #[.int .i64 (kD d0), .int .i64 n0, .string (bs []), .int .i64 (kD d1), .int .i64 n1, .string (bs [])] 59), .blk b3 (.cells #[.bool d0, .bool d1] 58), .blk b2 (.cells #[.int .i64 n0, .int .i64 n1, .int .i64 n2] 57)] _) => ?_)
                              clear hS155
                              refine hK _ _ ⟨⟨trivial, fun h => absurd h (by decide)⟩, fun h => absurd h (by decide)⟩ ?_; clear hK K
                              refine o_pure (i := 12) (fun j w => ⟨(fun j w => ⟨(fun _ _ => trivial) j w, fun _ h => h⟩) j w, fun _ h => h⟩) rfl rfl (by kernel_rfl) (goes0 rfl) (QOk.then QOk.body) (fun w => q_assign rfl) ?_
                              refine o_done (by kernel_rfl) ?_
                              refine hK150 _ _ (came (b155) (by repeat' (first | exact Agree.refl _ _ | refine Agree.up ?_ rfl | refine Agree.hav2 ?_ rfl | refine Agree.ups2 ?_ rfl)) (by repeat' (first | exact trivial | refine ⟨by first | rfl | exact int_succ _ | assumption, ?_⟩)) ?_)
                              exact hS156
                            ·
                              refine e_alloc (zv := .agg #[.int .i64 0, .int .i64 0, .string ⟨#[]⟩]) hS153 (by kernel_rfl) (fun b157 w157 (hS157 : St _ _ [.blk b157 (.cells #[.int .i64 (0 : Int), .int .i64 (0 : Int), .string (bs [])] 51), .blk bp (.cells #[.int .i64 (2 : Int), .int .i64 (n0 * n1 * n2), .string (bs [])] 51), .blk b71 (.cells #[.int .i64 (kD d0), .int .i64 n0, .string (bs [])] 51), .blk b67 (.cells #[.int .i64 (kD d0), .int .i64 n0, .string (bs [])] 51), .blk b63 (.cells #[.int .i64 (kD d0), .int .i64 n0, .string (bs [])] 51), .blk b53 (.cells #[.int .i64 (kD d0), .int .i64 (oneD d0), .string (bs [])] 51), .blk b49 (.cells #[.int .i64 (rK (reckM 5 (kD d1) n1 (kD d0) n0)), .int .i64 (rN (reckM 5 (kD d1) n1 (kD d0) n0)), .string (bs [])] 51), .blk b45 (.cells #[.int .i64 (rK (reckM 5 (kD d0) n0 (kD d1) n1)), .int .i64 (rN (reckM 5 (kD d0) n0 (kD d1) n1)), .string (bs [])] 51), .blk b41 (.cells #[.int .i64 (rK (reckM 3 (kD d1) n1 (kD d0) n0)), .int .i64 (rN (reckM 3 (kD d1) n1 (kD d0) n0)), .string (bs [])] 51), .blk b37 (.cells #[.int .i64 (rK (reckM 3 (kD d0) n0 (kD d1) n1)), .int .i64 (rN (reckM 3 (kD d0) n0 (kD d1) n1)), .string (bs [])] 51), .blk b5 (.cells #[.int .i64 (kD d0), .int .i64 n0, .string (bs []), .int .i64 (kD d1), .int .i64 n1, .string (bs [])] 59), .blk b3 (.cells #[.bool d0, .bool d1] 58), .blk b2 (.cells #[.int .i64 n0, .int .i64 n1, .int .i64 n2] 57)] _) => ?_)
                              clear hS153
                              refine hK _ _ ⟨⟨trivial, fun _ _ => by first | exact q_load1 rfl (by kernel_rfl) (hS157.cell (i := 12) rfl rfl)⟩, fun _ _ => by first | exact q_load1 rfl (by kernel_rfl) (hS157.cell (i := 12) rfl rfl)⟩ ?_; clear hK K
                              refine o_eff (i := 6) (by kernel_rfl) rfl (goes0 rfl) (fun K hK => ?_)
                              refine e_call (by kernel_rfl) (rk_R hP.2.2.1 (num_of (.inl rfl) f1) (num_of (.inl rfl) f2) _) rfl (after_R hS157 (fun v158 w158 hv158 hS158 => ?_))
                              clear hS157
                              obtain rfl := hv158
                              refine hK _ _ ⟨⟨trivial, fun h => absurd h (by decide)⟩, fun h => absurd h (by decide)⟩ ?_; clear hK K
                              refine o_pure (i := 7) (fun j w => ⟨(fun j w => ⟨(fun _ _ => trivial) j w, fun _ h => h⟩) j w, fun _ h => h⟩) rfl rfl (by kernel_rfl) (goes0 rfl) (QOk.then QOk.body) (fun w => q_move rfl) ?_
                              refine o_pure (i := 8) (fun j w => ⟨(fun j w => ⟨(fun _ _ => trivial) j w, fun _ h => h⟩) j w, fun _ h => h⟩) rfl rfl (by kernel_rfl) (goes0 rfl) (QOk.then QOk.body) (fun w => q_extract rfl rfl) ?_
                              refine o_pure (i := 9) (fun j w => ⟨(fun j w => ⟨(fun _ _ => trivial) j w, fun _ h => h⟩) j w, fun _ h => h⟩) rfl rfl (by kernel_rfl) (goes0 rfl) (QOk.then QOk.body) (fun w => q_extract rfl rfl) ?_
                              refine o_eff (i := 11) (by kernel_rfl) rfl (goes0 rfl) (fun K hK => ?_)
                              refine e_storeA hS158 rfl rfl (by kernel_rfl) (by repeat' (first | exact trivial | refine ⟨by first | rfl | assumption | exact one_if (by assumption), ?_⟩)) (i := 0) rfl rfl (fun w159 (hS159 : St _ _ [.blk b157 (.cells #[.int .i64 (2 : Int), .int .i64 (n1 * n2), .string (bs [])] 51), .blk bp (.cells #[.int .i64 (2 : Int), .int .i64 (n0 * n1 * n2), .string (bs [])] 51), .blk b71 (.cells #[.int .i64 (kD d0), .int .i64 n0, .string (bs [])] 51), .blk b67 (.cells #[.int .i64 (kD d0), .int .i64 n0, .string (bs [])] 51), .blk b63 (.cells #[.int .i64 (kD d0), .int .i64 n0, .string (bs [])] 51), .blk b53 (.cells #[.int .i64 (kD d0), .int .i64 (oneD d0), .string (bs [])] 51), .blk b49 (.cells #[.int .i64 (rK (reckM 5 (kD d1) n1 (kD d0) n0)), .int .i64 (rN (reckM 5 (kD d1) n1 (kD d0) n0)), .string (bs [])] 51), .blk b45 (.cells #[.int .i64 (rK (reckM 5 (kD d0) n0 (kD d1) n1)), .int .i64 (rN (reckM 5 (kD d0) n0 (kD d1) n1)), .string (bs [])] 51), .blk b41 (.cells #[.int .i64 (rK (reckM 3 (kD d1) n1 (kD d0) n0)), .int .i64 (rN (reckM 3 (kD d1) n1 (kD d0) n0)), .string (bs [])] 51), .blk b37 (.cells #[.int .i64 (rK (reckM 3 (kD d0) n0 (kD d1) n1)), .int .i64 (rN (reckM 3 (kD d0) n0 (kD d1) n1)), .string (bs [])] 51), .blk b5 (.cells #[.int .i64 (kD d0), .int .i64 n0, .string (bs []), .int .i64 (kD d1), .int .i64 n1, .string (bs [])] 59), .blk b3 (.cells #[.bool d0, .bool d1] 58), .blk b2 (.cells #[.int .i64 n0, .int .i64 n1, .int .i64 n2] 57)] _) => ?_)
                              clear hS158
                              refine hK _ _ ⟨⟨trivial, fun h => absurd h (by decide)⟩, fun h => absurd h (by decide)⟩ ?_; clear hK K
                              refine o_pure (i := 12) (fun j w => ⟨(fun j w => ⟨(fun _ _ => trivial) j w, fun _ h => h⟩) j w, fun _ h => h⟩) rfl rfl (by kernel_rfl) (goes0 rfl) (QOk.then QOk.body) (fun w => q_assign rfl) ?_
                              refine o_done (by kernel_rfl) ?_
                              refine hK150 _ _ (came (b157) (by repeat' (first | exact Agree.refl _ _ | refine Agree.up ?_ rfl | refine Agree.hav2 ?_ rfl | refine Agree.ups2 ?_ rfl)) (by repeat' (first | exact trivial | refine ⟨by first | rfl | exact int_succ _ | assumption, ?_⟩)) ?_)
                              exact hS159
                          ·
                            refine e_alloc (zv := .agg #[.int .i64 0, .int .i64 0, .string ⟨#[]⟩]) hS152 (by kernel_rfl) (fun b160 w160 (hS160 : St _ _ [.blk b160 (.cells #[.int .i64 (0 : Int), .int .i64 (0 : Int), .string (bs [])] 51), .blk bp (.cells #[.int .i64 (2 : Int), .int .i64 (n0 * n1 * n2), .string (bs [])] 51), .blk b71 (.cells #[.int .i64 (kD d0), .int .i64 n0, .string (bs [])] 51), .blk b67 (.cells #[.int .i64 (kD d0), .int .i64 n0, .string (bs [])] 51), .blk b63 (.cells #[.int .i64 (kD d0), .int .i64 n0, .string (bs [])] 51), .blk b53 (.cells #[.int .i64 (kD d0), .int .i64 (oneD d0), .string (bs [])] 51), .blk b49 (.cells #[.int .i64 (rK (reckM 5 (kD d1) n1 (kD d0) n0)), .int .i64 (rN (reckM 5 (kD d1) n1 (kD d0) n0)), .string (bs [])] 51), .blk b45 (.cells #[.int .i64 (rK (reckM 5 (kD d0) n0 (kD d1) n1)), .int .i64 (rN (reckM 5 (kD d0) n0 (kD d1) n1)), .string (bs [])] 51), .blk b41 (.cells #[.int .i64 (rK (reckM 3 (kD d1) n1 (kD d0) n0)), .int .i64 (rN (reckM 3 (kD d1) n1 (kD d0) n0)), .string (bs [])] 51), .blk b37 (.cells #[.int .i64 (rK (reckM 3 (kD d0) n0 (kD d1) n1)), .int .i64 (rN (reckM 3 (kD d0) n0 (kD d1) n1)), .string (bs [])] 51), .blk b5 (.cells #[.int .i64 (kD d0), .int .i64 n0, .string (bs []), .int .i64 (kD d1), .int .i64 n1, .string (bs [])] 59), .blk b3 (.cells #[.bool d0, .bool d1] 58), .blk b2 (.cells #[.int .i64 n0, .int .i64 n1, .int .i64 n2] 57)] _) => ?_)
                            clear hS152
                            refine hK _ _ ⟨⟨trivial, fun _ _ => by first | exact q_load1 rfl (by kernel_rfl) (hS160.cell (i := 12) rfl rfl)⟩, fun _ _ => by first | exact q_load1 rfl (by kernel_rfl) (hS160.cell (i := 12) rfl rfl)⟩ ?_; clear hK K
                            refine o_eff (i := 5) (by kernel_rfl) rfl (goes0 rfl) (fun K hK => ?_)
                            refine e_call (by kernel_rfl) (whole_R n2 _) rfl (after_R hS160 (fun v161 w161 hv161 hS161 => ?_))
                            clear hS160
                            obtain rfl := hv161
                            refine hK _ _ ⟨⟨trivial, fun h => absurd h (by decide)⟩, fun h => absurd h (by decide)⟩ ?_; clear hK K
                            refine o_eff (i := 6) (by kernel_rfl) rfl (goes0 rfl) (fun K hK => ?_)
                            refine e_call (by kernel_rfl) (rk_R hP.2.2.1 (num_of (.inl rfl) f1) (num_of (.inl rfl) f2) _) rfl (after_R hS161 (fun v162 w162 hv162 hS162 => ?_))
                            clear hS161
                            obtain rfl := hv162
                            refine hK _ _ ⟨⟨trivial, fun h => absurd h (by decide)⟩, fun h => absurd h (by decide)⟩ ?_; clear hK K
                            refine o_pure (i := 7) (fun j w => ⟨(fun j w => ⟨(fun _ _ => trivial) j w, fun _ h => h⟩) j w, fun _ h => h⟩) rfl rfl (by kernel_rfl) (goes0 rfl) (QOk.then QOk.body) (fun w => q_move rfl) ?_
                            refine o_pure (i := 8) (fun j w => ⟨(fun j w => ⟨(fun _ _ => trivial) j w, fun _ h => h⟩) j w, fun _ h => h⟩) rfl rfl (by kernel_rfl) (goes0 rfl) (QOk.then QOk.body) (fun w => q_extract rfl rfl) ?_
                            refine o_pure (i := 9) (fun j w => ⟨(fun j w => ⟨(fun _ _ => trivial) j w, fun _ h => h⟩) j w, fun _ h => h⟩) rfl rfl (by kernel_rfl) (goes0 rfl) (QOk.then QOk.body) (fun w => q_extract rfl rfl) ?_
                            refine o_eff (i := 11) (by kernel_rfl) rfl (goes0 rfl) (fun K hK => ?_)
                            refine e_storeA hS162 rfl rfl (by kernel_rfl) (by repeat' (first | exact trivial | refine ⟨by first | rfl | assumption | exact one_if (by assumption), ?_⟩)) (i := 0) rfl rfl (fun w163 (hS163 : St _ _ [.blk b160 (.cells #[.int .i64 (2 : Int), .int .i64 (n1 * n2), .string (bs [])] 51), .blk bp (.cells #[.int .i64 (2 : Int), .int .i64 (n0 * n1 * n2), .string (bs [])] 51), .blk b71 (.cells #[.int .i64 (kD d0), .int .i64 n0, .string (bs [])] 51), .blk b67 (.cells #[.int .i64 (kD d0), .int .i64 n0, .string (bs [])] 51), .blk b63 (.cells #[.int .i64 (kD d0), .int .i64 n0, .string (bs [])] 51), .blk b53 (.cells #[.int .i64 (kD d0), .int .i64 (oneD d0), .string (bs [])] 51), .blk b49 (.cells #[.int .i64 (rK (reckM 5 (kD d1) n1 (kD d0) n0)), .int .i64 (rN (reckM 5 (kD d1) n1 (kD d0) n0)), .string (bs [])] 51), .blk b45 (.cells #[.int .i64 (rK (reckM 5 (kD d0) n0 (kD d1) n1)), .int .i64 (rN (reckM 5 (kD d0) n0 (kD d1) n1)), .string (bs [])] 51), .blk b41 (.cells #[.int .i64 (rK (reckM 3 (kD d1) n1 (kD d0) n0)), .int .i64 (rN (reckM 3 (kD d1) n1 (kD d0) n0)), .string (bs [])] 51), .blk b37 (.cells #[.int .i64 (rK (reckM 3 (kD d0) n0 (kD d1) n1)), .int .i64 (rN (reckM 3 (kD d0) n0 (kD d1) n1)), .string (bs [])] 51), .blk b5 (.cells #[.int .i64 (kD d0), .int .i64 n0, .string (bs []), .int .i64 (kD d1), .int .i64 n1, .string (bs [])] 59), .blk b3 (.cells #[.bool d0, .bool d1] 58), .blk b2 (.cells #[.int .i64 n0, .int .i64 n1, .int .i64 n2] 57)] _) => ?_)
                            clear hS162
                            refine hK _ _ ⟨⟨trivial, fun h => absurd h (by decide)⟩, fun h => absurd h (by decide)⟩ ?_; clear hK K
                            refine o_pure (i := 12) (fun j w => ⟨(fun j w => ⟨(fun _ _ => trivial) j w, fun _ h => h⟩) j w, fun _ h => h⟩) rfl rfl (by kernel_rfl) (goes0 rfl) (QOk.then QOk.body) (fun w => q_assign rfl) ?_
                            refine o_done (by kernel_rfl) ?_
                            refine hK150 _ _ (came (b160) (by repeat' (first | exact Agree.refl _ _ | refine Agree.up ?_ rfl | refine Agree.hav2 ?_ rfl | refine Agree.ups2 ?_ rfl)) (by repeat' (first | exact trivial | refine ⟨by first | rfl | exact int_succ _ | assumption, ?_⟩)) ?_)
                            exact hS163
                        ·
                          refine e_alloc (zv := .agg #[.int .i64 0, .int .i64 0, .string ⟨#[]⟩]) hS151 (by kernel_rfl) (fun b164 w164 (hS164 : St _ _ [.blk b164 (.cells #[.int .i64 (0 : Int), .int .i64 (0 : Int), .string (bs [])] 51), .blk bp (.cells #[.int .i64 (2 : Int), .int .i64 (n0 * n1 * n2), .string (bs [])] 51), .blk b71 (.cells #[.int .i64 (kD d0), .int .i64 n0, .string (bs [])] 51), .blk b67 (.cells #[.int .i64 (kD d0), .int .i64 n0, .string (bs [])] 51), .blk b63 (.cells #[.int .i64 (kD d0), .int .i64 n0, .string (bs [])] 51), .blk b53 (.cells #[.int .i64 (kD d0), .int .i64 (oneD d0), .string (bs [])] 51), .blk b49 (.cells #[.int .i64 (rK (reckM 5 (kD d1) n1 (kD d0) n0)), .int .i64 (rN (reckM 5 (kD d1) n1 (kD d0) n0)), .string (bs [])] 51), .blk b45 (.cells #[.int .i64 (rK (reckM 5 (kD d0) n0 (kD d1) n1)), .int .i64 (rN (reckM 5 (kD d0) n0 (kD d1) n1)), .string (bs [])] 51), .blk b41 (.cells #[.int .i64 (rK (reckM 3 (kD d1) n1 (kD d0) n0)), .int .i64 (rN (reckM 3 (kD d1) n1 (kD d0) n0)), .string (bs [])] 51), .blk b37 (.cells #[.int .i64 (rK (reckM 3 (kD d0) n0 (kD d1) n1)), .int .i64 (rN (reckM 3 (kD d0) n0 (kD d1) n1)), .string (bs [])] 51), .blk b5 (.cells #[.int .i64 (kD d0), .int .i64 n0, .string (bs []), .int .i64 (kD d1), .int .i64 n1, .string (bs [])] 59), .blk b3 (.cells #[.bool d0, .bool d1] 58), .blk b2 (.cells #[.int .i64 n0, .int .i64 n1, .int .i64 n2] 57)] _) => ?_)
                          clear hS151
                          refine hK _ _ ⟨⟨trivial, fun _ _ => by first | exact q_load1 rfl (by kernel_rfl) (hS164.cell (i := 12) rfl rfl)⟩, fun _ _ => by first | exact q_load1 rfl (by kernel_rfl) (hS164.cell (i := 12) rfl rfl)⟩ ?_; clear hK K
                          refine o_eff (i := 2) (by kernel_rfl) rfl (goes0 rfl) (fun K hK => ?_)
                          refine e_call (by kernel_rfl) (whole_R n1 _) rfl (after_R hS164 (fun v165 w165 hv165 hS165 => ?_))
                          clear hS164
                          obtain rfl := hv165
                          refine hK _ _ ⟨⟨trivial, fun h => absurd h (by decide)⟩, fun _ _ => by first | exact q_load1 rfl (by kernel_rfl) (hS165.cell (i := 12) rfl rfl)⟩ ?_; clear hK K
                          refine o_eff (i := 5) (by kernel_rfl) rfl (goes0 rfl) (fun K hK => ?_)
                          refine e_call (by kernel_rfl) (whole_R n2 _) rfl (after_R hS165 (fun v166 w166 hv166 hS166 => ?_))
                          clear hS165
                          obtain rfl := hv166
                          refine hK _ _ ⟨⟨trivial, fun h => absurd h (by decide)⟩, fun h => absurd h (by decide)⟩ ?_; clear hK K
                          refine o_eff (i := 6) (by kernel_rfl) rfl (goes0 rfl) (fun K hK => ?_)
                          refine e_call (by kernel_rfl) (rk_R hP.2.2.1 (num_of (.inl rfl) f1) (num_of (.inl rfl) f2) _) rfl (after_R hS166 (fun v167 w167 hv167 hS167 => ?_))
                          clear hS166
                          obtain rfl := hv167
                          refine hK _ _ ⟨⟨trivial, fun h => absurd h (by decide)⟩, fun h => absurd h (by decide)⟩ ?_; clear hK K
                          refine o_pure (i := 7) (fun j w => ⟨(fun j w => ⟨(fun _ _ => trivial) j w, fun _ h => h⟩) j w, fun _ h => h⟩) rfl rfl (by kernel_rfl) (goes0 rfl) (QOk.then QOk.body) (fun w => q_move rfl) ?_
                          refine o_pure (i := 8) (fun j w => ⟨(fun j w => ⟨(fun _ _ => trivial) j w, fun _ h => h⟩) j w, fun _ h => h⟩) rfl rfl (by kernel_rfl) (goes0 rfl) (QOk.then QOk.body) (fun w => q_extract rfl rfl) ?_
                          refine o_pure (i := 9) (fun j w => ⟨(fun j w => ⟨(fun _ _ => trivial) j w, fun _ h => h⟩) j w, fun _ h => h⟩) rfl rfl (by kernel_rfl) (goes0 rfl) (QOk.then QOk.body) (fun w => q_extract rfl rfl) ?_
                          refine o_eff (i := 11) (by kernel_rfl) rfl (goes0 rfl) (fun K hK => ?_)
                          refine e_storeA hS167 rfl rfl (by kernel_rfl) (by repeat' (first | exact trivial | refine ⟨by first | rfl | assumption | exact one_if (by assumption), ?_⟩)) (i := 0) rfl rfl (fun w168 (hS168 : St _ _ [.blk b164 (.cells #[.int .i64 (2 : Int), .int .i64 (n1 * n2), .string (bs [])] 51), .blk bp (.cells #[.int .i64 (2 : Int), .int .i64 (n0 * n1 * n2), .string (bs [])] 51), .blk b71 (.cells #[.int .i64 (kD d0), .int .i64 n0, .string (bs [])] 51), .blk b67 (.cells #[.int .i64 (kD d0), .int .i64 n0, .string (bs [])] 51), .blk b63 (.cells #[.int .i64 (kD d0), .int .i64 n0, .string (bs [])] 51), .blk b53 (.cells #[.int .i64 (kD d0), .int .i64 (oneD d0), .string (bs [])] 51), .blk b49 (.cells #[.int .i64 (rK (reckM 5 (kD d1) n1 (kD d0) n0)), .int .i64 (rN (reckM 5 (kD d1) n1 (kD d0) n0)), .string (bs [])] 51), .blk b45 (.cells #[.int .i64 (rK (reckM 5 (kD d0) n0 (kD d1) n1)), .int .i64 (rN (reckM 5 (kD d0) n0 (kD d1) n1)), .string (bs [])] 51), .blk b41 (.cells #[.int .i64 (rK (reckM 3 (kD d1) n1 (kD d0) n0)), .int .i64 (rN (reckM 3 (kD d1) n1 (kD d0) n0)), .string (bs [])] 51), .blk b37 (.cells #[.int .i64 (rK (reckM 3 (kD d0) n0 (kD d1) n1)), .int .i64 (rN (reckM 3 (kD d0) n0 (kD d1) n1)), .string (bs [])] 51), .blk b5 (.cells #[.int .i64 (kD d0), .int .i64 n0, .string (bs []), .int .i64 (kD d1), .int .i64 n1, .string (bs [])] 59), .blk b3 (.cells #[.bool d0, .bool d1] 58), .blk b2 (.cells #[.int .i64 n0, .int .i64 n1, .int .i64 n2] 57)] _) => ?_)
                          clear hS167
                          refine hK _ _ ⟨⟨trivial, fun h => absurd h (by decide)⟩, fun h => absurd h (by decide)⟩ ?_; clear hK K
                          refine o_pure (i := 12) (fun j w => ⟨(fun j w => ⟨(fun _ _ => trivial) j w, fun _ h => h⟩) j w, fun _ h => h⟩) rfl rfl (by kernel_rfl) (goes0 rfl) (QOk.then QOk.body) (fun w => q_assign rfl) ?_
                          refine o_done (by kernel_rfl) ?_
                          refine hK150 _ _ (came (b164) (by repeat' (first | exact Agree.refl _ _ | refine Agree.up ?_ rfl | refine Agree.hav2 ?_ rfl | refine Agree.ups2 ?_ rfl)) (by repeat' (first | exact trivial | refine ⟨by first | rfl | exact int_succ _ | assumption, ?_⟩)) ?_)
                          exact hS168
                      ·
                        have hS150 := hJ150
                        try dsimp only at hS150 ⊢
                        refine wp_seq_k (fun K169 hK169 => ?_)
                        refine r_any (by kernel_rfl) hS150 (fun w170 hS170 => ?_)
                        clear hS150
                        refine o_pure (i := 0) (fun _ _ => trivial) rfl rfl (by kernel_rfl) (goes0 rfl) (QOk.then QOk.body) (fun w => q_indexAddrA (len := 3) (e := 2) (m := 1) rfl rfl (by kernel_rfl) (by kernel_rfl) (by decide) (by decide)) ?_
                        refine o_held (i := 1) [2, 4, 5, 6, 7, 8] (fun _ _ => trivial) rfl rfl (by kernel_rfl) (goes0 rfl) (QOk.then QOk.body) (q_load1 rfl (by kernel_rfl) (hS170.cell (i := 12) rfl rfl)) ?_
                        refine o_held (i := 3) [4, 5, 6, 7, 8] (fun j w => ⟨(fun _ _ => trivial) j w, fun _ h => h⟩) rfl rfl (by kernel_rfl) (goes0 rfl) (QOk.then QOk.body) (q_loadA (m := 3) rfl (by kernel_rfl) (by kernel_rfl) (hS170.blk (i := 0) rfl) rfl rfl) ?_
                        refine o_eff (i := 2) (by kernel_rfl) rfl (goes0 rfl) (fun K hK => ?_)
                        refine e_call (by kernel_rfl) (whole_R n0 _) rfl (after_R hS170 (fun v171 w171 hv171 hS171 => ?_))
                        clear hS170
                        obtain rfl := hv171
                        refine hK _ _ ⟨⟨trivial, fun h => absurd h (by decide)⟩, fun _ _ => by first | exact q_loadA (m := 3) rfl (by kernel_rfl) (by kernel_rfl) (hS171.blk (i := 0) rfl) rfl rfl⟩ ?_; clear hK K
                        refine o_eff (i := 4) (by kernel_rfl) rfl (goes0 rfl) (fun K hK => ?_)
                        refine e_call (by kernel_rfl) (rk_R hP.2.2.2.1 (num_of (.inl rfl) f0) (num_of (.inl rfl) hP.2.2.2.2.2.1) _) rfl (after_R hS171 (fun v172 w172 hv172 hS172 => ?_))
                        clear hS171
                        obtain rfl := hv172
                        refine hK _ _ ⟨⟨trivial, fun h => absurd h (by decide)⟩, fun h => absurd h (by decide)⟩ ?_; clear hK K
                        refine o_pure (i := 5) (fun j w => ⟨(fun j w => ⟨(fun _ _ => trivial) j w, fun _ h => h⟩) j w, fun _ h => h⟩) rfl rfl (by kernel_rfl) (goes0 rfl) (QOk.then QOk.body) (fun w => q_move rfl) ?_
                        refine o_pure (i := 6) (fun j w => ⟨(fun j w => ⟨(fun _ _ => trivial) j w, fun _ h => h⟩) j w, fun _ h => h⟩) rfl rfl (by kernel_rfl) (goes0 rfl) (QOk.then QOk.body) (fun w => q_extract rfl rfl) ?_
                        refine o_pure (i := 7) (fun j w => ⟨(fun j w => ⟨(fun _ _ => trivial) j w, fun _ h => h⟩) j w, fun _ h => h⟩) rfl rfl (by kernel_rfl) (goes0 rfl) (QOk.then QOk.body) (fun w => q_extract rfl rfl) ?_
                        refine o_eff (i := 8) (by kernel_rfl) rfl (goes0 rfl) (fun K hK => ?_)
                        refine e_storeA hS172 rfl rfl (by kernel_rfl) (by repeat' (first | exact trivial | refine ⟨by first | rfl | assumption | exact one_if (by assumption), ?_⟩)) (i := 0) rfl rfl (fun w173 (hS173 : St _ _ [.blk bq (.cells #[.int .i64 (2 : Int), .int .i64 (n0 * (n1 * n2)), .string (bs [])] 51), .blk bp (.cells #[.int .i64 (2 : Int), .int .i64 (n0 * n1 * n2), .string (bs [])] 51), .blk b71 (.cells #[.int .i64 (kD d0), .int .i64 n0, .string (bs [])] 51), .blk b67 (.cells #[.int .i64 (kD d0), .int .i64 n0, .string (bs [])] 51), .blk b63 (.cells #[.int .i64 (kD d0), .int .i64 n0, .string (bs [])] 51), .blk b53 (.cells #[.int .i64 (kD d0), .int .i64 (oneD d0), .string (bs [])] 51), .blk b49 (.cells #[.int .i64 (rK (reckM 5 (kD d1) n1 (kD d0) n0)), .int .i64 (rN (reckM 5 (kD d1) n1 (kD d0) n0)), .string (bs [])] 51), .blk b45 (.cells #[.int .i64 (rK (reckM 5 (kD d0) n0 (kD d1) n1)), .int .i64 (rN (reckM 5 (kD d0) n0 (kD d1) n1)), .string (bs [])] 51), .blk b41 (.cells #[.int .i64 (rK (reckM 3 (kD d1) n1 (kD d0) n0)), .int .i64 (rN (reckM 3 (kD d1) n1 (kD d0) n0)), .string (bs [])] 51), .blk b37 (.cells #[.int .i64 (rK (reckM 3 (kD d0) n0 (kD d1) n1)), .int .i64 (rN (reckM 3 (kD d0) n0 (kD d1) n1)), .string (bs [])] 51), .blk b5 (.cells #[.int .i64 (kD d0), .int .i64 n0, .string (bs []), .int .i64 (kD d1), .int .i64 n1, .string (bs [])] 59), .blk b3 (.cells #[.bool d0, .bool d1] 58), .blk b2 (.cells #[.int .i64 n0, .int .i64 n1, .int .i64 n2] 57)] _) => ?_)
                        clear hS172
                        refine hK _ _ ⟨⟨trivial, fun h => absurd h (by decide)⟩, fun h => absurd h (by decide)⟩ ?_; clear hK K
                        refine o_done (by kernel_rfl) ?_
                        refine hK169 _ _ ?_
                        refine wp_seq_k (fun K174 hK174 => ?_)
                        refine wp_region_lit ?_
                        refine l_e rfl (fun K hK => ?_)
                        refine e_call (by kernel_rfl) (alive_R _ (hl.keepS hS173)) rfl (after_R hS173 (fun v175 w175 hv175 hS175 => ?_))
                        clear hS173
                        obtain rfl := hv175
                        refine hK _ _ ?_; clear hK K
                        refine l_q rfl rfl (q_moveB rfl) ?_
                        refine l_on rfl rfl rfl ?_
                        refine l_q rfl rfl (q_loadA (m := 3) rfl (by kernel_rfl) (by kernel_rfl) (hS175.blk (i := 1) rfl) rfl rfl) ?_
                        refine l_on rfl rfl rfl ?_
                        refine l_q rfl rfl (q_loadA (m := 3) rfl (by kernel_rfl) (by kernel_rfl) (hS175.blk (i := 0) rfl) rfl rfl) ?_
                        refine l_on rfl rfl rfl ?_
                        refine l_q rfl rfl (q_iis_eql (a := (2 : Int)) (b := (n0 * n1 * n2)) (l := []) (a' := (2 : Int)) (b' := (n0 * (n1 * n2))) (l' := []) rfl rfl (by kernel_rfl) Bytes.nil Bytes.nil) ?_
                        refine l_q rfl rfl (q_pickT rfl rfl rfl) ?_
                        refine l_q rfl rfl (q_moveB rfl) ?_
                        refine l_on rfl rfl (eqV_true rfl (Int.mul_assoc n0 n1 n2)) ?_
                        refine l_q rfl rfl (q_fieldAddr (ft := 2) (o := 1) rfl (by kernel_rfl)) ?_
                        refine l_on rfl rfl (eqV_true rfl (Int.mul_assoc n0 n1 n2)) ?_
                        refine l_q rfl rfl (q_load1 rfl (by kernel_rfl) (hS175.cell (i := 1) rfl rfl)) ?_
                        refine l_on rfl rfl (eqV_true rfl (Int.mul_assoc n0 n1 n2)) ?_
                        refine l_q rfl rfl (q_indexAddrA (len := 3) (e := 2) (m := 1) rfl rfl (by kernel_rfl) (by kernel_rfl) (by decide) (by decide)) ?_
                        refine l_on rfl rfl (eqV_true rfl (Int.mul_assoc n0 n1 n2)) ?_
                        refine l_q rfl rfl (q_load1 rfl (by kernel_rfl) (hS175.cell (i := 12) rfl rfl)) ?_
                        refine l_on rfl rfl (eqV_true rfl (Int.mul_assoc n0 n1 n2)) ?_
                        refine l_q rfl rfl (q_indexAddrA (len := 3) (e := 2) (m := 1) rfl rfl (by kernel_rfl) (by kernel_rfl) (by decide) (by decide)) ?_
                        refine l_on rfl rfl (eqV_true rfl (Int.mul_assoc n0 n1 n2)) ?_
                        refine l_q rfl rfl (q_load1 rfl (by kernel_rfl) (hS175.cell (i := 12) rfl rfl)) ?_
                        refine l_on rfl rfl (eqV_true rfl (Int.mul_assoc n0 n1 n2)) ?_
                        refine l_q rfl rfl (q_mulx rfl rfl hP.2.2.2.2.2.2.1.1 hP.2.2.2.2.2.2.1.2) ?_
                        refine l_on rfl rfl (eqV_true rfl (Int.mul_assoc n0 n1 n2)) ?_
                        refine l_q rfl rfl (q_indexAddrA (len := 3) (e := 2) (m := 1) rfl rfl (by kernel_rfl) (by kernel_rfl) (by decide) (by decide)) ?_
                        refine l_on rfl rfl (eqV_true rfl (Int.mul_assoc n0 n1 n2)) ?_
                        refine l_q rfl rfl (q_load1 rfl (by kernel_rfl) (hS175.cell (i := 12) rfl rfl)) ?_
                        refine l_on rfl rfl (eqV_true rfl (Int.mul_assoc n0 n1 n2)) ?_
                        refine l_q rfl rfl (q_mulx rfl rfl hP.2.2.2.2.2.2.2.1 hP.2.2.2.2.2.2.2.2) ?_
                        refine l_on rfl rfl (eqV_true rfl (Int.mul_assoc n0 n1 n2)) ?_
                        refine l_q rfl rfl (q_eql rfl rfl) ?_
                        refine l_q rfl rfl (q_pickT rfl (eqV_true rfl (Int.mul_assoc n0 n1 n2)) rfl) ?_
                        refine l_q rfl rfl (q_assignB rfl) ?_
                        refine l_nil ?_
                        refine hK174 _ _ ?_
                        refine wp_ret ?_
                        refine c_ret1 rfl rfl ?_
                        exact ⟨_, rfl, by first | rfl | exact congrArg Value.bool (decide_eq_true rfl), hS175.drop⟩

end Go.Proofs.YtdlmcgflgdmjgaaDoor
