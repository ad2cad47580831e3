/- The document's scaled, fine, Sign. -/
import Derived.Test.YtdlmcgflgdmjgaaDoorQ5
set_option linter.unusedVariables false
set_option linter.unusedSimpArgs false
namespace Go.Proofs.YtdlmcgflgdmjgaaDoor
open Go.RowKit
section
variable {P : Program} {n : Nat} {f : Nat → Value} {w : World}
theorem c_retTC {fn : Func} {R : Ending → World → Prop} {t u : Tmp} {T : TypeId} {m b : Nat} {arr : Array Value} {v : Value} {T2 : TypeId} {fz : Nat × Nat} (hr : fn.results = #[.tmp u, .cell t T]) (ht : aggB P T = true) (hz : szB P T = some m) (hv : ev n f (.tmp t) = .pointer (some ⟨b, 0, none⟩)) (hb : w.heap[b]? = some (.cells arr T2 fz)) (hm : Nat.beq arr.size m = true) (hu : ev n f (.tmp u) = v)
    (h : R (.returned (.tuple #[v, .agg arr])) w) : bodyPost P fn R .ret (E n f) w := by
  have hm' : arr.size = m := Nat.eq_of_beq_eq_true hm
  refine ⟨rfl, .tuple #[v, .agg arr], ?_, h⟩
  have h1 : (E n f).tmps.getD t undef = .pointer (some ⟨b, 0, none⟩) := by rw [E_get]; exact hv
  have h4 : (E n f).tmps.getD u undef = v := by rw [E_get]; exact hu
  have h2 := run_loadCellsFrom (P := P) hb 0 m 0 #[] (by omega)
  have h3 : #[] ++ arr.extract (0 + 0) (0 + 0 + m) = arr := by subst hm'; simp
  rw [h3] at h2
  simp only [Array.getD_eq_getD_getElem?] at h1 h4
  simp [results, hr, h1, h4, asAddr, loadVar, run_isAggT ht, Go.Proofs.YtdlmcgflgdmjgaaDoor.run_sizeOf hz, loadCells, h2, Sem.run]
theorem c_retCC {fn : Func} {R : Ending → World → Prop} {t t' : Tmp} {T T' : TypeId} {m m2 b b' : Nat} {arr arr' : Array Value} {T2 T3 : TypeId} {fz fz' : Nat × Nat} (hr : fn.results = #[.cell t T, .cell t' T']) (ht : aggB P T = true) (hz : szB P T = some m) (ht' : aggB P T' = true) (hz' : szB P T' = some m2) (hv : ev n f (.tmp t) = .pointer (some ⟨b, 0, none⟩)) (hv' : ev n f (.tmp t') = .pointer (some ⟨b', 0, none⟩)) (hb : w.heap[b]? = some (.cells arr T2 fz)) (hb' : w.heap[b']? = some (.cells arr' T3 fz')) (hm : Nat.beq arr.size m = true) (hm2 : Nat.beq arr'.size m2 = true)
    (h : R (.returned (.tuple #[.agg arr, .agg arr'])) w) : bodyPost P fn R .ret (E n f) w := by
  have e1 : arr.size = m := Nat.eq_of_beq_eq_true hm
  have e2 : arr'.size = m2 := Nat.eq_of_beq_eq_true hm2
  refine ⟨rfl, .tuple #[.agg arr, .agg arr'], ?_, h⟩
  have h1 : (E n f).tmps.getD t undef = .pointer (some ⟨b, 0, none⟩) := by rw [E_get]; exact hv
  have h4 : (E n f).tmps.getD t' undef = .pointer (some ⟨b', 0, none⟩) := by rw [E_get]; exact hv'
  have h2 := run_loadCellsFrom (P := P) hb 0 m 0 #[] (by omega)
  have h5 := run_loadCellsFrom (P := P) hb' 0 m2 0 #[] (by omega)
  have h3 : #[] ++ arr.extract (0 + 0) (0 + 0 + m) = arr := by subst e1; simp
  have h6 : #[] ++ arr'.extract (0 + 0) (0 + 0 + m2) = arr' := by subst e2; simp
  rw [h3] at h2; rw [h6] at h5
  simp only [Array.getD_eq_getD_getElem?] at h1 h4
  simp [results, hr, h1, h4, asAddr, loadVar, run_isAggT ht, run_isAggT ht', Go.Proofs.YtdlmcgflgdmjgaaDoor.run_sizeOf hz, Go.Proofs.YtdlmcgflgdmjgaaDoor.run_sizeOf hz', loadCells, h2, h5, Sem.run]
end
/-- A number in ten-thousandths. -/
def sclQ (a : Vl) : Int := if a.1 = 2 then a.2.1 * 10000 else a.2.1
theorem sv_of {n : Int} {d e : Nat} (h : d + 4294967296 * e = n.natAbs) : sv (decide (n < 0)) (dv d e 0 0 0 0) = n := by
  have : dv d e 0 0 0 0 = n.natAbs := by unfold dv; omega
  rw [this]; unfold sv
  by_cases h : n < 0
  · rw [if_pos (decide_eq_true h)]; omega
  · rw [if_neg (by simp; omega)]; omega
theorem sv_not (m1 m : Bool) (k j : Nat) : sv m1 k + sv (!m) j = sv m1 k - sv m j := by
  cases m <;> simp [sv] <;> omega
/-- What Sign comes to: the order, the fault's code, its place. -/
def sg03 (a b : Vl) : Int × Int × Int :=
  if rightQ a = false ∨ a.1 = 0 then (0, 22, 0)
  else if rightQ b = false ∨ b.1 = 0 ∨ (a.1 ≠ b.1 ∧ ¬((a.1 = 2 ∨ a.1 = 3) ∧ (b.1 = 2 ∨ b.1 = 3))) then (0, 22, 1)
  else if a.1 = 2 ∨ a.1 = 3 then (sgn (sclQ a - sclQ b), 0, -1) else (vcmp a b, 0, -1)
theorem sg_1 {a b : Vl} (h : rightQ a = false ∨ a.1 = 0) : sg03 a b = (0, 22, 0) := if_pos h
theorem sg_2 {a b : Vl} (h : ¬(rightQ a = false ∨ a.1 = 0)) (h2 : rightQ b = false ∨ b.1 = 0 ∨ (a.1 ≠ b.1 ∧ ¬((a.1 = 2 ∨ a.1 = 3) ∧ (b.1 = 2 ∨ b.1 = 3)))) : sg03 a b = (0, 22, 1) := (if_neg h).trans (if_pos h2)
theorem sg_3 {a b : Vl} (h : ¬(rightQ a = false ∨ a.1 = 0)) (h2 : ¬(rightQ b = false ∨ b.1 = 0 ∨ (a.1 ≠ b.1 ∧ ¬((a.1 = 2 ∨ a.1 = 3) ∧ (b.1 = 2 ∨ b.1 = 3))))) (h3 : a.1 = 2 ∨ a.1 = 3) : sg03 a b = (sgn (sclQ a - sclQ b), 0, -1) := (if_neg h).trans ((if_neg h2).trans (if_pos h3))
theorem sg_4 {a b : Vl} (h : ¬(rightQ a = false ∨ a.1 = 0)) (h2 : ¬(rightQ b = false ∨ b.1 = 0 ∨ (a.1 ≠ b.1 ∧ ¬((a.1 = 2 ∨ a.1 = 3) ∧ (b.1 = 2 ∨ b.1 = 3))))) (h3 : ¬(a.1 = 2 ∨ a.1 = 3)) : sg03 a b = (vcmp a b, 0, -1) := (if_neg h).trans ((if_neg h2).trans (if_neg h3))
theorem no_or {p : Bool} {Q : Prop} (h : p = true) (hq : ¬Q) : ¬(p = false ∨ Q) := fun e => e.elim (fun e => by rw [h] at e; cases e) hq
attribute [local irreducible] Oper.wp Sem.run Code.wp wpList wpAnyO callFunc execOp Calls
attribute [local irreducible] rightQ cmpZ cmB orL vcmp
attribute [local irreducible] toU dv sv sgn sclQ

set_option maxRecDepth 100000 in
theorem scaled_ok (a : Vl) (haB : Bytes a.2.2) (hn0 : -9223372036854775808 ≤ a.2.1) (hn1 : a.2.1 ≤ 9223372036854775807) (hk : a.1 = 2 ∨ a.1 = 3) (w : World) : Calls Tryd.prog 58 #[.agg (vl a).toArray] w (PostR w fun v => MulP (sclQ a) v) := by
 have hS := St.start w
 refine c_enter Tryd.func58 rfl rfl rfl ?_
 refine wp_seq_k (fun K1 hK1 => ?_)
 refine wp_region_lit ?_
 refine l_e rfl (fun K hK => ?_)
 refine e_boxA hS rfl (fun b2 w2 (hS2 : St _ _ [.blk b2 (.cells #[.int .i64 a.1, .int .i64 a.2.1, .string (bs a.2.2)] 51)] _) => ?_)
 clear hS
 refine hK _ _ ?_; clear hK K
 refine l_e rfl (fun K hK => ?_)
 refine e_alloc (zv := .agg #[.bool false, .int .u64 0, .int .u64 0, .int .u64 0, .int .u64 0, .int .u64 0, .int .u64 0]) hS2 (by kernel_rfl) (fun b3 w3 (hS3 : St _ _ [.blk b3 (.cells #[.bool false, .int .u64 (0 : Int), .int .u64 (0 : Int), .int .u64 (0 : Int), .int .u64 (0 : Int), .int .u64 (0 : Int), .int .u64 (0 : Int)] 108), _] _) => ?_)
 clear hS2
 refine hK _ _ ?_; clear hK K
 refine l_nil ?_
 refine hK1 _ _ ?_
 refine wp_seq_k (fun K4 hK4 => ?_)
 refine wp_seq_k (fun K5 hK5 => ?_)
 refine wp_region_lit ?_
 refine l_q rfl rfl (q_fieldAddr (ft := 49) (o := 0) rfl (by kernel_rfl)) ?_
 refine l_q rfl rfl (q_load1 rfl (by kernel_rfl) (hS3.cell (i := 1) rfl rfl)) ?_
 refine l_q rfl rfl (q_eql rfl rfl) ?_
 refine l_nil ?_
 refine hK5 _ _ ?_
 refine c_cond rfl (fun hc6 => ?_) (fun hc6 => ?_)
 ·
  have hc6b := hc6
  try simp only [decide_eq_true_eq, decide_eq_false_iff_not, Bool.not_eq_true', Bool.not_eq_false', Bool.and_eq_true, Bool.or_eq_true, Int.not_lt, Int.not_le, ne_eq, Decidable.not_not] at hc6
  refine wp_seq_k (fun K7 hK7 => ?_)
  refine wp_region_lit ?_
  refine l_q rfl rfl (q_fieldAddr (ft := 2) (o := 1) rfl (by kernel_rfl)) ?_
  refine l_q rfl rfl (q_load1 rfl (by kernel_rfl) (hS3.cell (i := 1) rfl rfl)) ?_
  refine l_e rfl (fun K hK => ?_)
  refine e_call (by kernel_rfl) (of_ok a.2.1 hn0 hn1 _) rfl (after_R hS3 (fun v8 w8 hv8 hS8 => ?_))
  clear hS3
  obtain ⟨d8, e8, rfl, hd8, he8, hn8⟩ := hv8
  refine hK _ _ ?_; clear hK K
  refine l_e rfl (fun K hK => ?_)
  refine e_call (by kernel_rfl) (of_ok 10000 (by omega) (by omega) _) rfl (after_R hS8 (fun v9 w9 hv9 hS9 => ?_))
  clear hS8
  obtain ⟨d9, e9, rfl, hd9, he9, hn9⟩ := hv9
  obtain ⟨rfl, rfl⟩ : d9 = 10000 ∧ e9 = 0 := by omega
  refine hK _ _ ?_; clear hK K
  refine l_e rfl (fun K hK => ?_)
  refine e_call (by kernel_rfl) (mulQ_ok (decide (a.2.1 < 0)) d8 e8 (by omega) (by omega) _) rfl (after_R hS9 (fun v10 w10 hv10 hS10 => ?_))
  clear hS9
  obtain ⟨m10, p10, q10, r10, s10, t10, rfl, hp10, hq10, hr10, hs10, ht10, hz10⟩ := hv10
  refine hK _ _ ?_; clear hK K
  refine l_e rfl (fun K hK => ?_)
  refine e_storeA hS10 rfl rfl (by kernel_rfl) (by repeat' (first | exact trivial | refine ⟨by first | rfl | assumption | exact one_if (by assumption), ?_⟩)) (i := 0) rfl rfl (fun w11 (hS11 : St _ _ [.blk b3 (.cells #[.bool m10, .int .u64 (p10 : Int), .int .u64 (q10 : Int), .int .u64 (r10 : Int), .int .u64 (s10 : Int), .int .u64 (t10 : Int), .int .u64 (0 : Int)] 108), _] _) => ?_)
  clear hS10
  refine hK _ _ ?_; clear hK K
  refine l_nil ?_
  refine hK7 _ _ ?_
  refine wp_ret ?_
  refine c_retC (m := 7) rfl (by kernel_rfl) (by kernel_rfl) rfl (by first | exact hS11.blk (i := 0) rfl | exact hS11.blk (i := 1) rfl | exact hS11.blk (i := 2) rfl | exact hS11.blk (i := 3) rfl | exact hS11.blk (i := 4) rfl) rfl ?_
  exact ⟨_, rfl, ⟨m10, p10, q10, r10, s10, t10, rfl, hp10, hq10, hr10, hs10, ht10, by rw [hz10, sv_of hn8]; unfold sclQ; rw [if_pos (by omega)]⟩, hS11.drop⟩
 ·
  have hc6b := hc6
  try simp only [decide_eq_true_eq, decide_eq_false_iff_not, Bool.not_eq_true', Bool.not_eq_false', Bool.and_eq_true, Bool.or_eq_true, Int.not_lt, Int.not_le, ne_eq, Decidable.not_not] at hc6
  refine wp_skip ?_
  refine hK4 _ _ ?_
  refine wp_seq_k (fun K12 hK12 => ?_)
  refine wp_region_lit ?_
  refine l_q rfl rfl (q_fieldAddr (ft := 2) (o := 1) rfl (by kernel_rfl)) ?_
  refine l_q rfl rfl (q_load1 rfl (by kernel_rfl) (hS3.cell (i := 1) rfl rfl)) ?_
  refine l_e rfl (fun K hK => ?_)
  refine e_call (by kernel_rfl) (of_ok a.2.1 hn0 hn1 _) rfl (after_R hS3 (fun v13 w13 hv13 hS13 => ?_))
  clear hS3
  obtain ⟨d13, e13, rfl, hd13, he13, hn13⟩ := hv13
  refine hK _ _ ?_; clear hK K
  refine l_e rfl (fun K hK => ?_)
  refine e_storeA hS13 rfl rfl (by kernel_rfl) (by repeat' (first | exact trivial | refine ⟨by first | rfl | assumption | exact one_if (by assumption), ?_⟩)) (i := 0) rfl rfl (fun w14 (hS14 : St _ _ [.blk b3 (.cells #[.bool (decide (a.2.1 < 0)), .int .u64 (d13 : Int), .int .u64 (e13 : Int), .int .u64 (0 : Int), .int .u64 (0 : Int), .int .u64 (0 : Int), .int .u64 (0 : Int)] 108), _] _) => ?_)
  clear hS13
  refine hK _ _ ?_; clear hK K
  refine l_nil ?_
  refine hK12 _ _ ?_
  refine wp_ret ?_
  refine c_retC (m := 7) rfl (by kernel_rfl) (by kernel_rfl) rfl (by first | exact hS14.blk (i := 0) rfl | exact hS14.blk (i := 1) rfl | exact hS14.blk (i := 2) rfl | exact hS14.blk (i := 3) rfl | exact hS14.blk (i := 4) rfl) rfl ?_
  exact ⟨_, rfl, ⟨_, d13, e13, 0, 0, 0, rfl, by omega, by omega, by omega, by omega, by omega, by rw [sv_of hn13]; unfold sclQ; rw [if_neg (by omega)]⟩, hS14.drop⟩

set_option maxRecDepth 100000 in
theorem fine_ok (w : World) : Calls Tryd.prog 56 #[] w (PostR w fun v => v = .agg #[.int .i64 0, .int .i64 (-1)]) := by
 have hS := St.start w
 refine c_enter Tryd.func56 rfl rfl rfl ?_
 refine wp_seq_k (fun K1 hK1 => ?_)
 refine wp_region_lit ?_
 refine l_e rfl (fun K hK => ?_)
 refine e_alloc (zv := .agg #[.int .i64 0, .int .i64 0]) hS (by kernel_rfl) (fun b2 w2 (hS2 : St _ _ [.blk b2 (.cells #[.int .i64 (0 : Int), .int .i64 (0 : Int)] 72)] _) => ?_)
 clear hS
 refine hK _ _ ?_; clear hK K
 refine l_nil ?_
 refine hK1 _ _ ?_
 refine wp_seq_k (fun K3 hK3 => ?_)
 refine wp_region_lit ?_
 refine l_q rfl rfl (q_build (ps := [(0, 1), (1, 1)]) (zv := .agg #[.int .i64 0, .int .i64 0]) (by kernel_rfl) (by kernel_rfl) rfl (by repeat' (first | exact trivial | refine ⟨fun _ => by first | rfl | assumption | exact one_if (by assumption), ?_⟩ | refine ⟨fun ⟨_, h⟩ => by simp at h, ?_⟩)) rfl) ?_
 refine l_e rfl (fun K hK => ?_)
 refine e_storeA hS2 rfl rfl (by kernel_rfl) (by repeat' (first | exact trivial | refine ⟨by first | rfl | assumption | exact one_if (by assumption), ?_⟩)) (i := 0) rfl rfl (fun w4 (hS4 : St _ _ [.blk b2 (.cells #[.int .i64 (0 : Int), .int .i64 (-1 : Int)] 72)] _) => ?_)
 clear hS2
 refine hK _ _ ?_; clear hK K
 refine l_nil ?_
 refine hK3 _ _ ?_
 refine wp_ret ?_
 refine c_retC (m := 2) rfl (by kernel_rfl) (by kernel_rfl) rfl (by first | exact hS4.blk (i := 0) rfl | exact hS4.blk (i := 1) rfl | exact hS4.blk (i := 2) rfl | exact hS4.blk (i := 3) rfl | exact hS4.blk (i := 4) rfl) rfl ?_
 exact ⟨_, rfl, rfl, hS4.drop⟩

set_option maxHeartbeats 2000000 in
set_option maxRecDepth 100000 in
theorem rsign_ok (a b : Vl) (haB : Bytes a.2.2) (hbB : Bytes b.2.2) (han0 : -9223372036854775808 ≤ a.2.1) (han1 : a.2.1 ≤ 9223372036854775807) (hbn0 : -9223372036854775808 ≤ b.2.1) (hbn1 : b.2.1 ≤ 9223372036854775807) (w : World) : Calls Tryd.prog 36 #[.agg (vl a).toArray, .agg (vl b).toArray] w (PostR w fun v => v = .tuple #[.int .i64 (sg03 a b).1, .agg #[.int .i64 (sg03 a b).2.1, .int .i64 (sg03 a b).2.2]]) := by
 have hS := St.start w
 refine c_enter Tryd.func36 rfl rfl rfl ?_
 refine wp_seq_k (fun K1 hK1 => ?_)
 refine wp_region_lit ?_
 refine l_e rfl (fun K hK => ?_)
 refine e_boxA hS rfl (fun b2 w2 (hS2 : St _ _ [.blk b2 (.cells #[.int .i64 a.1, .int .i64 a.2.1, .string (bs a.2.2)] 51)] _) => ?_)
 clear hS
 refine hK _ _ ?_; clear hK K
 refine l_e rfl (fun K hK => ?_)
 refine e_boxA hS2 rfl (fun b3 w3 (hS3 : St _ _ [.blk b3 (.cells #[.int .i64 b.1, .int .i64 b.2.1, .string (bs b.2.2)] 51), _] _) => ?_)
 clear hS2
 refine hK _ _ ?_; clear hK K
 refine l_q rfl rfl (q_assignI rfl) ?_
 refine l_e rfl (fun K hK => ?_)
 refine e_alloc (zv := .agg #[.int .i64 0, .int .i64 0]) hS3 (by kernel_rfl) (fun b4 w4 (hS4 : St _ _ [.blk b4 (.cells #[.int .i64 (0 : Int), .int .i64 (0 : Int)] 72), _, _] _) => ?_)
 clear hS3
 refine hK _ _ ?_; clear hK K
 refine l_nil ?_
 refine hK1 _ _ ?_
 refine wp_seq_k (fun K5 hK5 => ?_)
 refine wp_region_lit ?_
 refine l_q rfl rfl (q_loadA (m := 3) rfl (by kernel_rfl) (by kernel_rfl) (hS4.blk (i := 2) rfl) rfl rfl) ?_
 refine l_e rfl (fun K hK => ?_)
 refine e_call (by kernel_rfl) (rright_ok a haB _) rfl (after_R hS4 (fun v6 w6 hv6 hS6 => ?_))
 clear hS4
 obtain rfl := hv6
 refine hK _ _ ?_; clear hK K
 refine l_q rfl rfl (q_assignB rfl) ?_
 refine l_nil ?_
 refine hK5 _ _ ?_
 refine wp_seq_k (fun K7 hK7 => ?_)
 refine wp_region_lit ?_
 refine l_q rfl rfl (q_loadA (m := 3) rfl (by kernel_rfl) (by kernel_rfl) (hS6.blk (i := 1) rfl) rfl rfl) ?_
 refine l_e rfl (fun K hK => ?_)
 refine e_call (by kernel_rfl) (rright_ok b hbB _) rfl (after_R hS6 (fun v8 w8 hv8 hS8 => ?_))
 clear hS6
 obtain rfl := hv8
 refine hK _ _ ?_; clear hK K
 refine l_q rfl rfl (q_assignB rfl) ?_
 refine l_nil ?_
 refine hK7 _ _ ?_
 refine wp_seq_k (fun K9 hK9 => ?_)
 refine wp_region_lit ?_
 refine l_q rfl rfl (q_fieldAddr (ft := 49) (o := 0) rfl (by kernel_rfl)) ?_
 refine l_q rfl rfl (q_load1 rfl (by kernel_rfl) (hS8.cell (i := 2) rfl rfl)) ?_
 refine l_q rfl rfl (q_eql rfl rfl) ?_
 refine l_q rfl rfl (q_moveB rfl) ?_
 refine g_splitL (t := 18) rfl (fun hg10 => ?_) (fun hg10 => ?_)
 ·
  have hg10b := hg10
  try simp only [decide_eq_true_eq, decide_eq_false_iff_not, Bool.not_eq_true', Bool.not_eq_false', Bool.and_eq_true, Bool.or_eq_true, Int.not_lt, Int.not_le, ne_eq, Decidable.not_not] at hg10
  refine l_off rfl rfl rfl hg10b ?_
  refine l_off rfl rfl rfl hg10b ?_
  refine l_off rfl rfl rfl hg10b ?_
  refine l_q rfl rfl (q_pickT rfl hg10b rfl) ?_
  refine l_q rfl rfl (q_assignB rfl) ?_
  refine l_nil ?_
  refine hK9 _ _ ?_
  refine wp_seq_k (fun K11 hK11 => ?_)
  refine wp_region_lit ?_
  refine l_q rfl rfl (q_fieldAddr (ft := 49) (o := 0) rfl (by kernel_rfl)) ?_
  refine l_q rfl rfl (q_load1 rfl (by kernel_rfl) (hS8.cell (i := 1) rfl rfl)) ?_
  refine l_q rfl rfl (q_eql rfl rfl) ?_
  refine l_q rfl rfl (q_moveB rfl) ?_
  refine g_splitL (t := 26) rfl (fun hg12 => ?_) (fun hg12 => ?_)
  ·
   have hg12b := hg12
   try simp only [decide_eq_true_eq, decide_eq_false_iff_not, Bool.not_eq_true', Bool.not_eq_false', Bool.and_eq_true, Bool.or_eq_true, Int.not_lt, Int.not_le, ne_eq, Decidable.not_not] at hg12
   refine l_off rfl rfl rfl hg12b ?_
   refine l_off rfl rfl rfl hg12b ?_
   refine l_off rfl rfl rfl hg12b ?_
   refine l_q rfl rfl (q_pickT rfl hg12b rfl) ?_
   refine l_q rfl rfl (q_assignB rfl) ?_
   refine l_nil ?_
   refine hK11 _ _ ?_
   refine wp_seq_k (fun K13 hK13 => ?_)
   refine wp_block ?_
   refine wp_seq_k (fun K14 hK14 => ?_)
   refine wp_region_lit ?_
   refine l_q rfl rfl (q_moveB rfl) ?_
   refine l_q rfl rfl (q_not rfl) ?_
   refine l_q rfl rfl (q_moveB rfl) ?_
   refine g_splitL (t := 34) rfl (fun hg15 => ?_) (fun hg15 => ?_)
   ·
    have hg15b := hg15
    try simp only [decide_eq_true_eq, decide_eq_false_iff_not, Bool.not_eq_true', Bool.not_eq_false', Bool.and_eq_true, Bool.or_eq_true, Int.not_lt, Int.not_le, ne_eq, Decidable.not_not] at hg15
    refine l_off rfl rfl rfl hg15b ?_
    refine l_off rfl rfl rfl hg15b ?_
    refine l_off rfl rfl rfl hg15b ?_
    refine l_q rfl rfl (q_pickT rfl hg15b rfl) ?_
    refine l_q rfl rfl (q_assignB rfl) ?_
    refine l_nil ?_
    refine hK14 _ _ ?_
    refine c_condT rfl rfl ?_
    refine wp_seq_k (fun K17 hK17 => ?_)
    refine wp_region_lit ?_
    refine l_q rfl rfl (q_build (ps := [(0, 1), (1, 1)]) (zv := .agg #[.int .i64 0, .int .i64 0]) (by kernel_rfl) (by kernel_rfl) rfl (by repeat' (first | exact trivial | refine ⟨fun _ => by first | rfl | assumption | exact one_if (by assumption), ?_⟩ | refine ⟨fun ⟨_, h⟩ => by simp at h, ?_⟩)) rfl) ?_
    refine l_q rfl rfl (q_assignI rfl) ?_
    refine l_e rfl (fun K hK => ?_)
    refine e_storeA hS8 rfl rfl (by kernel_rfl) (by repeat' (first | exact trivial | refine ⟨by first | rfl | assumption | exact one_if (by assumption), ?_⟩)) (i := 0) rfl rfl (fun w18 (hS18 : St _ _ [.blk b4 (.cells #[.int .i64 (22 : Int), .int .i64 (0 : Int)] 72), _, _] _) => ?_)
    clear hS8
    refine hK _ _ ?_; clear hK K
    refine l_nil ?_
    refine hK17 _ _ ?_
    refine wp_ret ?_
    refine c_retTC (m := 2) rfl (by kernel_rfl) (by kernel_rfl) rfl (hS18.blk (i := 0) rfl) rfl rfl ?_
    exact ⟨_, rfl, (by rw [sg_1 (by first | exact .inl (by assumption) | exact .inr (by omega))]; rfl), hS18.drop⟩
   ·
    have hg15b := hg15
    try simp only [decide_eq_true_eq, decide_eq_false_iff_not, Bool.not_eq_true', Bool.not_eq_false', Bool.and_eq_true, Bool.or_eq_true, Int.not_lt, Int.not_le, ne_eq, Decidable.not_not] at hg15
    refine l_on rfl rfl hg15b ?_
    refine l_q rfl rfl (q_fieldAddr (ft := 49) (o := 0) rfl (by kernel_rfl)) ?_
    refine l_on rfl rfl hg15b ?_
    refine l_q rfl rfl (q_load1 rfl (by kernel_rfl) (hS8.cell (i := 2) rfl rfl)) ?_
    refine l_on rfl rfl hg15b ?_
    refine l_q rfl rfl (q_eql rfl rfl) ?_
    refine l_q rfl rfl (q_pickF rfl hg15b rfl) ?_
    refine l_q rfl rfl (q_assignB rfl) ?_
    refine l_nil ?_
    refine hK14 _ _ ?_
    refine c_cond rfl (fun hc19 => ?_) (fun hc19 => ?_)
    ·
     have hc19b := hc19
     try simp only [decide_eq_true_eq, decide_eq_false_iff_not, Bool.not_eq_true', Bool.not_eq_false', Bool.and_eq_true, Bool.or_eq_true, Int.not_lt, Int.not_le, ne_eq, Decidable.not_not] at hc19
     refine wp_seq_k (fun K20 hK20 => ?_)
     refine wp_region_lit ?_
     refine l_q rfl rfl (q_build (ps := [(0, 1), (1, 1)]) (zv := .agg #[.int .i64 0, .int .i64 0]) (by kernel_rfl) (by kernel_rfl) rfl (by repeat' (first | exact trivial | refine ⟨fun _ => by first | rfl | assumption | exact one_if (by assumption), ?_⟩ | refine ⟨fun ⟨_, h⟩ => by simp at h, ?_⟩)) rfl) ?_
     refine l_q rfl rfl (q_assignI rfl) ?_
     refine l_e rfl (fun K hK => ?_)
     refine e_storeA hS8 rfl rfl (by kernel_rfl) (by repeat' (first | exact trivial | refine ⟨by first | rfl | assumption | exact one_if (by assumption), ?_⟩)) (i := 0) rfl rfl (fun w21 (hS21 : St _ _ [_, _, _] _) => ?_)
     clear hS8
     refine hK _ _ ?_; clear hK K
     refine l_nil ?_
     refine hK20 _ _ ?_
     refine wp_ret ?_
     refine c_retTC (m := 2) rfl (by kernel_rfl) (by kernel_rfl) rfl (hS21.blk (i := 0) rfl) rfl rfl ?_
     exact ⟨_, rfl, (by rw [sg_1 (by first | exact .inl (by assumption) | exact .inr (by omega))]; rfl), hS21.drop⟩
    ·
     have hc19b := hc19
     try simp only [decide_eq_true_eq, decide_eq_false_iff_not, Bool.not_eq_true', Bool.not_eq_false', Bool.and_eq_true, Bool.or_eq_true, Int.not_lt, Int.not_le, ne_eq, Decidable.not_not] at hc19
     refine wp_seq_k (fun K22 hK22 => ?_)
     refine wp_region_lit ?_
     refine l_q rfl rfl (q_moveB rfl) ?_
     refine l_q rfl rfl (q_not rfl) ?_
     refine l_q rfl rfl (q_moveB rfl) ?_
     refine g_splitL (t := 43) rfl (fun hg23 => ?_) (fun hg23 => ?_)
     ·
      have hg23b := hg23
      try simp only [decide_eq_true_eq, decide_eq_false_iff_not, Bool.not_eq_true', Bool.not_eq_false', Bool.and_eq_true, Bool.or_eq_true, Int.not_lt, Int.not_le, ne_eq, Decidable.not_not] at hg23
      refine l_off rfl rfl rfl hg23b ?_
      refine l_off rfl rfl rfl hg23b ?_
      refine l_off rfl rfl rfl hg23b ?_
      refine l_q rfl rfl (q_pickT rfl hg23b rfl) ?_
      refine l_q rfl rfl (q_moveB rfl) ?_
      refine l_off rfl rfl rfl rfl ?_
      refine l_off rfl rfl rfl rfl ?_
      refine l_off rfl rfl rfl rfl ?_
      refine l_off rfl rfl rfl rfl ?_
      refine l_off rfl rfl rfl rfl ?_
      refine l_off rfl rfl rfl rfl ?_
      refine l_offN rfl rfl rfl ?_
      refine l_offN rfl rfl rfl ?_
      refine l_offN rfl rfl rfl ?_
      refine l_offN rfl rfl rfl ?_
      refine l_offN rfl rfl rfl ?_
      refine l_offN rfl rfl rfl ?_
      refine l_off rfl rfl rfl rfl ?_
      refine l_q rfl rfl (q_pickT rfl rfl rfl) ?_
      refine l_q rfl rfl (q_assignB rfl) ?_
      refine l_nil ?_
      refine hK22 _ _ ?_
      refine c_condT rfl rfl ?_
      refine wp_seq_k (fun K25 hK25 => ?_)
      refine wp_region_lit ?_
      refine l_q rfl rfl (q_build (ps := [(0, 1), (1, 1)]) (zv := .agg #[.int .i64 0, .int .i64 0]) (by kernel_rfl) (by kernel_rfl) rfl (by repeat' (first | exact trivial | refine ⟨fun _ => by first | rfl | assumption | exact one_if (by assumption), ?_⟩ | refine ⟨fun ⟨_, h⟩ => by simp at h, ?_⟩)) rfl) ?_
      refine l_q rfl rfl (q_assignI rfl) ?_
      refine l_e rfl (fun K hK => ?_)
      refine e_storeA hS8 rfl rfl (by kernel_rfl) (by repeat' (first | exact trivial | refine ⟨by first | rfl | assumption | exact one_if (by assumption), ?_⟩)) (i := 0) rfl rfl (fun w26 (hS26 : St _ _ [.blk b4 (.cells #[.int .i64 (22 : Int), .int .i64 (1 : Int)] 72), _, _] _) => ?_)
      clear hS8
      refine hK _ _ ?_; clear hK K
      refine l_nil ?_
      refine hK25 _ _ ?_
      refine wp_ret ?_
      refine c_retTC (m := 2) rfl (by kernel_rfl) (by kernel_rfl) rfl (hS26.blk (i := 0) rfl) rfl rfl ?_
      exact ⟨_, rfl, (by rw [sg_2 (no_or (by assumption) (by omega)) (by first | exact .inl (by assumption) | exact .inr (by omega))]; rfl), hS26.drop⟩
     ·
      have hg23b := hg23
      try simp only [decide_eq_true_eq, decide_eq_false_iff_not, Bool.not_eq_true', Bool.not_eq_false', Bool.and_eq_true, Bool.or_eq_true, Int.not_lt, Int.not_le, ne_eq, Decidable.not_not] at hg23
      refine l_on rfl rfl hg23b ?_
      refine l_q rfl rfl (q_fieldAddr (ft := 49) (o := 0) rfl (by kernel_rfl)) ?_
      refine l_on rfl rfl hg23b ?_
      refine l_q rfl rfl (q_load1 rfl (by kernel_rfl) (hS8.cell (i := 1) rfl rfl)) ?_
      refine l_on rfl rfl hg23b ?_
      refine l_q rfl rfl (q_eql rfl rfl) ?_
      refine l_q rfl rfl (q_pickF rfl hg23b rfl) ?_
      refine l_q rfl rfl (q_moveB rfl) ?_
      refine g_splitL (t := 48) rfl (fun hg27 => ?_) (fun hg27 => ?_)
      ·
       have hg27b := hg27
       try simp only [decide_eq_true_eq, decide_eq_false_iff_not, Bool.not_eq_true', Bool.not_eq_false', Bool.and_eq_true, Bool.or_eq_true, Int.not_lt, Int.not_le, ne_eq, Decidable.not_not] at hg27
       refine l_off rfl rfl rfl hg27b ?_
       refine l_off rfl rfl rfl hg27b ?_
       refine l_off rfl rfl rfl hg27b ?_
       refine l_off rfl rfl rfl hg27b ?_
       refine l_off rfl rfl rfl hg27b ?_
       refine l_off rfl rfl rfl hg27b ?_
       refine l_offN rfl rfl rfl ?_
       refine l_offN rfl rfl rfl ?_
       refine l_offN rfl rfl rfl ?_
       refine l_offN rfl rfl rfl ?_
       refine l_offN rfl rfl rfl ?_
       refine l_offN rfl rfl rfl ?_
       refine l_off rfl rfl rfl hg27b ?_
       refine l_q rfl rfl (q_pickT rfl hg27b rfl) ?_
       refine l_q rfl rfl (q_assignB rfl) ?_
       refine l_nil ?_
       refine hK22 _ _ ?_
       refine c_condT rfl rfl ?_
       refine wp_seq_k (fun K29 hK29 => ?_)
       refine wp_region_lit ?_
       refine l_q rfl rfl (q_build (ps := [(0, 1), (1, 1)]) (zv := .agg #[.int .i64 0, .int .i64 0]) (by kernel_rfl) (by kernel_rfl) rfl (by repeat' (first | exact trivial | refine ⟨fun _ => by first | rfl | assumption | exact one_if (by assumption), ?_⟩ | refine ⟨fun ⟨_, h⟩ => by simp at h, ?_⟩)) rfl) ?_
       refine l_q rfl rfl (q_assignI rfl) ?_
       refine l_e rfl (fun K hK => ?_)
       refine e_storeA hS8 rfl rfl (by kernel_rfl) (by repeat' (first | exact trivial | refine ⟨by first | rfl | assumption | exact one_if (by assumption), ?_⟩)) (i := 0) rfl rfl (fun w30 (hS30 : St _ _ [_, _, _] _) => ?_)
       clear hS8
       refine hK _ _ ?_; clear hK K
       refine l_nil ?_
       refine hK29 _ _ ?_
       refine wp_ret ?_
       refine c_retTC (m := 2) rfl (by kernel_rfl) (by kernel_rfl) rfl (hS30.blk (i := 0) rfl) rfl rfl ?_
       exact ⟨_, rfl, (by rw [sg_2 (no_or (by assumption) (by omega)) (by first | exact .inl (by assumption) | exact .inr (by omega))]; rfl), hS30.drop⟩
      ·
       have hg27b := hg27
       try simp only [decide_eq_true_eq, decide_eq_false_iff_not, Bool.not_eq_true', Bool.not_eq_false', Bool.and_eq_true, Bool.or_eq_true, Int.not_lt, Int.not_le, ne_eq, Decidable.not_not] at hg27
       refine l_on rfl rfl hg27b ?_
       refine l_q rfl rfl (q_fieldAddr (ft := 49) (o := 0) rfl (by kernel_rfl)) ?_
       refine l_on rfl rfl hg27b ?_
       refine l_q rfl rfl (q_load1 rfl (by kernel_rfl) (hS8.cell (i := 2) rfl rfl)) ?_
       refine l_on rfl rfl hg27b ?_
       refine l_q rfl rfl (q_fieldAddr (ft := 49) (o := 0) rfl (by kernel_rfl)) ?_
       refine l_on rfl rfl hg27b ?_
       refine l_q rfl rfl (q_load1 rfl (by kernel_rfl) (hS8.cell (i := 1) rfl rfl)) ?_
       refine l_on rfl rfl hg27b ?_
       refine l_q rfl rfl (q_neq rfl rfl) ?_
       refine l_on rfl rfl hg27b ?_
       refine l_q rfl rfl (q_moveB rfl) ?_
       refine g_splitL (t := 54) rfl (fun hg31 => ?_) (fun hg31 => ?_)
       ·
        have hg31b := hg31
        try simp only [decide_eq_true_eq, decide_eq_false_iff_not, Bool.not_eq_true', Bool.not_eq_false', Bool.and_eq_true, Bool.or_eq_true, Int.not_lt, Int.not_le, ne_eq, Decidable.not_not] at hg31
        refine l_on rfl rfl hg31b ?_
        refine l_q rfl rfl (q_moveB rfl) ?_
        refine l_on rfl rfl hg31b ?_
        refine l_q rfl rfl (q_not rfl) ?_
        refine l_on rfl rfl hg31b ?_
        refine l_q rfl rfl (q_moveB rfl) ?_
        refine l_on rfl rfl rfl ?_
        refine l_q rfl rfl (q_moveB rfl) ?_
        refine l_on rfl rfl rfl ?_
        refine l_q rfl rfl (q_not rfl) ?_
        refine l_on rfl rfl hg31b ?_
        refine l_q rfl rfl (q_pickF rfl rfl rfl) ?_
        refine l_on rfl rfl hg27b ?_
        refine l_q rfl rfl (q_pickT rfl hg31b rfl) ?_
        refine l_q rfl rfl (q_pickF rfl hg27b rfl) ?_
        refine l_q rfl rfl (q_assignB rfl) ?_
        refine l_nil ?_
        refine hK22 _ _ ?_
        refine c_condF rfl rfl ?_
        refine wp_seq_k (fun K33 hK33 => ?_)
        refine wp_region_lit ?_
        refine l_q rfl rfl (q_moveB rfl) ?_
        refine l_q rfl rfl (q_assignB rfl) ?_
        refine l_nil ?_
        refine hK33 _ _ ?_
        refine c_condT rfl rfl ?_
        refine wp_seq_k (fun K35 hK35 => ?_)
        refine wp_region_lit ?_
        refine l_q rfl rfl (q_loadA (m := 3) rfl (by kernel_rfl) (by kernel_rfl) (hS8.blk (i := 1) rfl) rfl rfl) ?_
        refine l_e rfl (fun K hK => ?_)
        refine e_call (by kernel_rfl) (scaled_ok b hbB hbn0 hbn1 (by first | assumption | omega) _) rfl (after_R hS8 (fun v36 w36 hv36 hS36 => ?_))
        clear hS8
        obtain ⟨m36, p36, q36, r36, s36, t36, rfl, hp36, hq36, hr36, hs36, ht36, hz36⟩ := hv36
        refine hK _ _ ?_; clear hK K
        refine l_e rfl (fun K hK => ?_)
        refine e_alloc (zv := .agg #[.bool false, .int .u64 0, .int .u64 0, .int .u64 0, .int .u64 0, .int .u64 0, .int .u64 0]) hS36 (by kernel_rfl) (fun b37 w37 (hS37 : St _ _ [.blk b37 (.cells #[.bool false, .int .u64 (0 : Int), .int .u64 (0 : Int), .int .u64 (0 : Int), .int .u64 (0 : Int), .int .u64 (0 : Int), .int .u64 (0 : Int)] 108), _, _, _] _) => ?_)
        clear hS36
        refine hK _ _ ?_; clear hK K
        refine l_e rfl (fun K hK => ?_)
        refine e_storeA hS37 rfl rfl (by kernel_rfl) (by repeat' (first | exact trivial | refine ⟨by first | rfl | assumption | exact one_if (by assumption), ?_⟩)) (i := 0) rfl rfl (fun w38 (hS38 : St _ _ [.blk b37 (.cells #[.bool m36, .int .u64 (p36 : Int), .int .u64 (q36 : Int), .int .u64 (r36 : Int), .int .u64 (s36 : Int), .int .u64 (t36 : Int), .int .u64 (0 : Int)] 108), _, _, _] _) => ?_)
        clear hS37
        refine hK _ _ ?_; clear hK K
        refine l_nil ?_
        refine hK35 _ _ ?_
        refine wp_seq_k (fun K39 hK39 => ?_)
        refine wp_region_lit ?_
        refine l_q rfl rfl (q_fieldAddr (ft := 4) (o := 0) rfl (by kernel_rfl)) ?_
        refine l_q rfl rfl (q_load1 rfl (by kernel_rfl) (hS38.cell (i := 0) rfl rfl)) ?_
        refine l_q rfl rfl (q_not rfl) ?_
        refine l_q rfl rfl (q_fieldAddr (ft := 4) (o := 0) rfl (by kernel_rfl)) ?_
        refine l_e rfl (fun K hK => ?_)
        refine e_store1 hS38 rfl rfl (by kernel_rfl) (by first | rfl | assumption) (i := 0) rfl rfl (fun w40 (hS40 : St _ _ [.blk b37 (.cells #[_, .int .u64 (p36 : Int), .int .u64 (q36 : Int), .int .u64 (r36 : Int), .int .u64 (s36 : Int), .int .u64 (t36 : Int), .int .u64 (0 : Int)] 108), _, _, _] _) => ?_)
        clear hS38
        refine hK _ _ ?_; clear hK K
        refine l_nil ?_
        refine hK39 _ _ ?_
        refine wp_seq_k (fun K41 hK41 => ?_)
        refine r_any (by kernel_rfl) hS40 (fun w42 hS42 => ?_)
        clear hS40
        refine o_held (i := 0) [1, 3, 4, 5, 6, 7] (fun _ _ => trivial) rfl rfl (by kernel_rfl) (goes0 rfl) (QOk.then (QOk.inBlock (QOk.then QOk.body))) (q_loadA (m := 3) rfl (by kernel_rfl) (by kernel_rfl) (hS42.blk (i := 3) rfl) rfl rfl) ?_
        refine o_held (i := 2) [3, 4, 5, 6, 7] (fun j w => ⟨(fun _ _ => trivial) j w, fun _ h => h⟩) rfl rfl (by kernel_rfl) (goes0 rfl) (QOk.then (QOk.inBlock (QOk.then QOk.body))) (q_loadA (m := 7) rfl (by kernel_rfl) (by kernel_rfl) (hS42.blk (i := 0) rfl) rfl rfl) ?_
        refine o_eff (i := 1) (by kernel_rfl) rfl (goes0 rfl) (fun K hK => ?_)
        refine e_call (by kernel_rfl) (scaled_ok a haB han0 han1 (by first | assumption | omega) _) rfl (after_R hS42 (fun v43 w43 hv43 hS43 => ?_))
        clear hS42
        obtain ⟨m43, p43, q43, r43, s43, t43, rfl, hp43, hq43, hr43, hs43, ht43, hz43⟩ := hv43
        refine hK _ _ ⟨⟨trivial, fun h => absurd h (by decide)⟩, fun _ _ => by first | exact q_loadA (m := 7) rfl (by kernel_rfl) (by kernel_rfl) (hS43.blk (i := 0) rfl) rfl rfl⟩ ?_; clear hK K
        refine o_eff (i := 3) (by kernel_rfl) rfl (goes0 rfl) (fun K hK => ?_)
        refine e_call (by kernel_rfl) (addQ_ok m43 (!m36) p43 q43 r43 s43 t43 0 p36 q36 r36 s36 t36 0 (by omega) (by omega) (by omega) (by omega) (by omega) (by omega) (by omega) (by omega) (by omega) (by omega) (by omega) (by omega) (by omega) (by omega) _) rfl (after_R hS43 (fun v44 w44 hv44 hS44 => ?_))
        clear hS43
        obtain ⟨m44, p44, q44, r44, s44, t44, u44, rfl, hp44, hq44, hr44, hs44, ht44, hu44, hz44⟩ := hv44
        refine hK _ _ ⟨⟨trivial, fun h => absurd h (by decide)⟩, fun h => absurd h (by decide)⟩ ?_; clear hK K
        refine o_eff (i := 4) (by kernel_rfl) rfl (goes0 rfl) (fun K hK => ?_)
        refine e_call (by kernel_rfl) (bsign_ok m44 p44 q44 r44 s44 t44 u44 _) rfl (after_R hS44 (fun v45 w45 hv45 hS45 => ?_))
        clear hS44
        obtain rfl := hv45
        have hsg : sgn (sv m44 (dv p44 q44 r44 s44 t44 u44)) = sgn (sclQ a - sclQ b) := by rw [hz44, sv_not, hz43, hz36]
        refine hK _ _ ⟨⟨trivial, fun h => absurd h (by decide)⟩, fun h => absurd h (by decide)⟩ ?_; clear hK K
        refine o_eff (i := 5) (by kernel_rfl) rfl (goes0 rfl) (fun K hK => ?_)
        refine e_call (by kernel_rfl) (fine_ok _) rfl (after_R hS45 (fun v46 w46 hv46 hS46 => ?_))
        clear hS45
        obtain rfl := hv46
        refine hK _ _ ⟨⟨trivial, fun h => absurd h (by decide)⟩, fun h => absurd h (by decide)⟩ ?_; clear hK K
        refine o_pure (i := 6) (fun j w => ⟨(fun j w => ⟨(fun _ _ => trivial) j w, fun _ h => h⟩) j w, fun _ h => h⟩) rfl rfl (by kernel_rfl) (goes0 rfl) (QOk.then (QOk.inBlock (QOk.then QOk.body))) (fun w => q_assignI rfl) ?_
        refine o_eff (i := 7) (by kernel_rfl) rfl (goes0 rfl) (fun K hK => ?_)
        refine e_storeA hS46 rfl rfl (by kernel_rfl) (by repeat' (first | exact trivial | refine ⟨by first | rfl | assumption | exact one_if (by assumption), ?_⟩)) (i := 1) rfl rfl (fun w47 (hS47 : St _ _ [_, .blk b4 (.cells #[.int .i64 (0 : Int), .int .i64 (-1 : Int)] 72), _, _] _) => ?_)
        clear hS46
        refine hK _ _ ⟨⟨trivial, fun h => absurd h (by decide)⟩, fun h => absurd h (by decide)⟩ ?_; clear hK K
        refine o_done (by kernel_rfl) ?_
        refine hK41 _ _ ?_
        refine wp_ret ?_
        refine c_retTC (m := 2) rfl (by kernel_rfl) (by kernel_rfl) rfl (hS47.blk (i := 1) rfl) rfl rfl ?_
        rw [hsg]
        exact ⟨_, rfl, (by rw [sg_3 (no_or (by assumption) (by omega)) (no_or (by assumption) (by omega)) (by omega)]; rfl), hS47.drop⟩
       ·
        have hg31b := hg31
        try simp only [decide_eq_true_eq, decide_eq_false_iff_not, Bool.not_eq_true', Bool.not_eq_false', Bool.and_eq_true, Bool.or_eq_true, Int.not_lt, Int.not_le, ne_eq, Decidable.not_not] at hg31
        refine l_off rfl rfl rfl hg31b ?_
        refine l_off rfl rfl rfl hg31b ?_
        refine l_off rfl rfl rfl hg31b ?_
        refine l_offN rfl rfl rfl ?_
        refine l_offN rfl rfl rfl ?_
        refine l_off rfl rfl rfl hg31b ?_
        refine l_on rfl rfl hg27b ?_
        refine l_q rfl rfl (q_pickF rfl hg31b rfl) ?_
        refine l_q rfl rfl (q_pickF rfl hg27b rfl) ?_
        refine l_q rfl rfl (q_assignB rfl) ?_
        refine l_nil ?_
        refine hK22 _ _ ?_
        refine c_condF rfl rfl ?_
        refine wp_seq_k (fun K49 hK49 => ?_)
        refine wp_region_lit ?_
        refine l_q rfl rfl (q_moveB rfl) ?_
        refine l_q rfl rfl (q_assignB rfl) ?_
        refine l_nil ?_
        refine hK49 _ _ ?_
        refine c_condT rfl rfl ?_
        refine wp_seq_k (fun K51 hK51 => ?_)
        refine wp_region_lit ?_
        refine l_q rfl rfl (q_loadA (m := 3) rfl (by kernel_rfl) (by kernel_rfl) (hS8.blk (i := 1) rfl) rfl rfl) ?_
        refine l_e rfl (fun K hK => ?_)
        refine e_call (by kernel_rfl) (scaled_ok b hbB hbn0 hbn1 (by first | assumption | omega) _) rfl (after_R hS8 (fun v52 w52 hv52 hS52 => ?_))
        clear hS8
        obtain ⟨m52, p52, q52, r52, s52, t52, rfl, hp52, hq52, hr52, hs52, ht52, hz52⟩ := hv52
        refine hK _ _ ?_; clear hK K
        refine l_e rfl (fun K hK => ?_)
        refine e_alloc (zv := .agg #[.bool false, .int .u64 0, .int .u64 0, .int .u64 0, .int .u64 0, .int .u64 0, .int .u64 0]) hS52 (by kernel_rfl) (fun b53 w53 (hS53 : St _ _ [.blk b53 (.cells #[.bool false, .int .u64 (0 : Int), .int .u64 (0 : Int), .int .u64 (0 : Int), .int .u64 (0 : Int), .int .u64 (0 : Int), .int .u64 (0 : Int)] 108), _, _, _] _) => ?_)
        clear hS52
        refine hK _ _ ?_; clear hK K
        refine l_e rfl (fun K hK => ?_)
        refine e_storeA hS53 rfl rfl (by kernel_rfl) (by repeat' (first | exact trivial | refine ⟨by first | rfl | assumption | exact one_if (by assumption), ?_⟩)) (i := 0) rfl rfl (fun w54 (hS54 : St _ _ [.blk b53 (.cells #[.bool m52, .int .u64 (p52 : Int), .int .u64 (q52 : Int), .int .u64 (r52 : Int), .int .u64 (s52 : Int), .int .u64 (t52 : Int), .int .u64 (0 : Int)] 108), _, _, _] _) => ?_)
        clear hS53
        refine hK _ _ ?_; clear hK K
        refine l_nil ?_
        refine hK51 _ _ ?_
        refine wp_seq_k (fun K55 hK55 => ?_)
        refine wp_region_lit ?_
        refine l_q rfl rfl (q_fieldAddr (ft := 4) (o := 0) rfl (by kernel_rfl)) ?_
        refine l_q rfl rfl (q_load1 rfl (by kernel_rfl) (hS54.cell (i := 0) rfl rfl)) ?_
        refine l_q rfl rfl (q_not rfl) ?_
        refine l_q rfl rfl (q_fieldAddr (ft := 4) (o := 0) rfl (by kernel_rfl)) ?_
        refine l_e rfl (fun K hK => ?_)
        refine e_store1 hS54 rfl rfl (by kernel_rfl) (by first | rfl | assumption) (i := 0) rfl rfl (fun w56 (hS56 : St _ _ [.blk b53 (.cells #[_, .int .u64 (p52 : Int), .int .u64 (q52 : Int), .int .u64 (r52 : Int), .int .u64 (s52 : Int), .int .u64 (t52 : Int), .int .u64 (0 : Int)] 108), _, _, _] _) => ?_)
        clear hS54
        refine hK _ _ ?_; clear hK K
        refine l_nil ?_
        refine hK55 _ _ ?_
        refine wp_seq_k (fun K57 hK57 => ?_)
        refine r_any (by kernel_rfl) hS56 (fun w58 hS58 => ?_)
        clear hS56
        refine o_held (i := 0) [1, 3, 4, 5, 6, 7] (fun _ _ => trivial) rfl rfl (by kernel_rfl) (goes0 rfl) (QOk.then (QOk.inBlock (QOk.then QOk.body))) (q_loadA (m := 3) rfl (by kernel_rfl) (by kernel_rfl) (hS58.blk (i := 3) rfl) rfl rfl) ?_
        refine o_held (i := 2) [3, 4, 5, 6, 7] (fun j w => ⟨(fun _ _ => trivial) j w, fun _ h => h⟩) rfl rfl (by kernel_rfl) (goes0 rfl) (QOk.then (QOk.inBlock (QOk.then QOk.body))) (q_loadA (m := 7) rfl (by kernel_rfl) (by kernel_rfl) (hS58.blk (i := 0) rfl) rfl rfl) ?_
        refine o_eff (i := 1) (by kernel_rfl) rfl (goes0 rfl) (fun K hK => ?_)
        refine e_call (by kernel_rfl) (scaled_ok a haB han0 han1 (by first | assumption | omega) _) rfl (after_R hS58 (fun v59 w59 hv59 hS59 => ?_))
        clear hS58
        obtain ⟨m59, p59, q59, r59, s59, t59, rfl, hp59, hq59, hr59, hs59, ht59, hz59⟩ := hv59
        refine hK _ _ ⟨⟨trivial, fun h => absurd h (by decide)⟩, fun _ _ => by first | exact q_loadA (m := 7) rfl (by kernel_rfl) (by kernel_rfl) (hS59.blk (i := 0) rfl) rfl rfl⟩ ?_; clear hK K
        refine o_eff (i := 3) (by kernel_rfl) rfl (goes0 rfl) (fun K hK => ?_)
        refine e_call (by kernel_rfl) (addQ_ok m59 (!m52) p59 q59 r59 s59 t59 0 p52 q52 r52 s52 t52 0 (by omega) (by omega) (by omega) (by omega) (by omega) (by omega) (by omega) (by omega) (by omega) (by omega) (by omega) (by omega) (by omega) (by omega) _) rfl (after_R hS59 (fun v60 w60 hv60 hS60 => ?_))
        clear hS59
        obtain ⟨m60, p60, q60, r60, s60, t60, u60, rfl, hp60, hq60, hr60, hs60, ht60, hu60, hz60⟩ := hv60
        refine hK _ _ ⟨⟨trivial, fun h => absurd h (by decide)⟩, fun h => absurd h (by decide)⟩ ?_; clear hK K
        refine o_eff (i := 4) (by kernel_rfl) rfl (goes0 rfl) (fun K hK => ?_)
        refine e_call (by kernel_rfl) (bsign_ok m60 p60 q60 r60 s60 t60 u60 _) rfl (after_R hS60 (fun v61 w61 hv61 hS61 => ?_))
        clear hS60
        obtain rfl := hv61
        have hsg : sgn (sv m60 (dv p60 q60 r60 s60 t60 u60)) = sgn (sclQ a - sclQ b) := by rw [hz60, sv_not, hz59, hz52]
        refine hK _ _ ⟨⟨trivial, fun h => absurd h (by decide)⟩, fun h => absurd h (by decide)⟩ ?_; clear hK K
        refine o_eff (i := 5) (by kernel_rfl) rfl (goes0 rfl) (fun K hK => ?_)
        refine e_call (by kernel_rfl) (fine_ok _) rfl (after_R hS61 (fun v62 w62 hv62 hS62 => ?_))
        clear hS61
        obtain rfl := hv62
        refine hK _ _ ⟨⟨trivial, fun h => absurd h (by decide)⟩, fun h => absurd h (by decide)⟩ ?_; clear hK K
        refine o_pure (i := 6) (fun j w => ⟨(fun j w => ⟨(fun _ _ => trivial) j w, fun _ h => h⟩) j w, fun _ h => h⟩) rfl rfl (by kernel_rfl) (goes0 rfl) (QOk.then (QOk.inBlock (QOk.then QOk.body))) (fun w => q_assignI rfl) ?_
        refine o_eff (i := 7) (by kernel_rfl) rfl (goes0 rfl) (fun K hK => ?_)
        refine e_storeA hS62 rfl rfl (by kernel_rfl) (by repeat' (first | exact trivial | refine ⟨by first | rfl | assumption | exact one_if (by assumption), ?_⟩)) (i := 1) rfl rfl (fun w63 (hS63 : St _ _ [_, _, _, _] _) => ?_)
        clear hS62
        refine hK _ _ ⟨⟨trivial, fun h => absurd h (by decide)⟩, fun h => absurd h (by decide)⟩ ?_; clear hK K
        refine o_done (by kernel_rfl) ?_
        refine hK57 _ _ ?_
        refine wp_ret ?_
        refine c_retTC (m := 2) rfl (by kernel_rfl) (by kernel_rfl) rfl (hS63.blk (i := 1) rfl) rfl rfl ?_
        rw [hsg]
        exact ⟨_, rfl, (by rw [sg_3 (no_or (by assumption) (by omega)) (no_or (by assumption) (by omega)) (by omega)]; rfl), hS63.drop⟩
  ·
   have hg12b := hg12
   try simp only [decide_eq_true_eq, decide_eq_false_iff_not, Bool.not_eq_true', Bool.not_eq_false', Bool.and_eq_true, Bool.or_eq_true, Int.not_lt, Int.not_le, ne_eq, Decidable.not_not] at hg12
   refine l_on rfl rfl hg12b ?_
   refine l_q rfl rfl (q_fieldAddr (ft := 49) (o := 0) rfl (by kernel_rfl)) ?_
   refine l_on rfl rfl hg12b ?_
   refine l_q rfl rfl (q_load1 rfl (by kernel_rfl) (hS8.cell (i := 1) rfl rfl)) ?_
   refine l_on rfl rfl hg12b ?_
   refine l_q rfl rfl (q_eql rfl rfl) ?_
   refine l_q rfl rfl (q_pickF rfl hg12b rfl) ?_
   refine l_q rfl rfl (q_assignB rfl) ?_
   refine l_nil ?_
   refine hK11 _ _ ?_
   refine wp_seq_k (fun K64 hK64 => ?_)
   refine wp_block ?_
   refine wp_seq_k (fun K65 hK65 => ?_)
   refine wp_region_lit ?_
   refine l_q rfl rfl (q_moveB rfl) ?_
   refine l_q rfl rfl (q_not rfl) ?_
   refine l_q rfl rfl (q_moveB rfl) ?_
   refine g_splitL (t := 34) rfl (fun hg66 => ?_) (fun hg66 => ?_)
   ·
    have hg66b := hg66
    try simp only [decide_eq_true_eq, decide_eq_false_iff_not, Bool.not_eq_true', Bool.not_eq_false', Bool.and_eq_true, Bool.or_eq_true, Int.not_lt, Int.not_le, ne_eq, Decidable.not_not] at hg66
    refine l_off rfl rfl rfl hg66b ?_
    refine l_off rfl rfl rfl hg66b ?_
    refine l_off rfl rfl rfl hg66b ?_
    refine l_q rfl rfl (q_pickT rfl hg66b rfl) ?_
    refine l_q rfl rfl (q_assignB rfl) ?_
    refine l_nil ?_
    refine hK65 _ _ ?_
    refine c_condT rfl rfl ?_
    refine wp_seq_k (fun K68 hK68 => ?_)
    refine wp_region_lit ?_
    refine l_q rfl rfl (q_build (ps := [(0, 1), (1, 1)]) (zv := .agg #[.int .i64 0, .int .i64 0]) (by kernel_rfl) (by kernel_rfl) rfl (by repeat' (first | exact trivial | refine ⟨fun _ => by first | rfl | assumption | exact one_if (by assumption), ?_⟩ | refine ⟨fun ⟨_, h⟩ => by simp at h, ?_⟩)) rfl) ?_
    refine l_q rfl rfl (q_assignI rfl) ?_
    refine l_e rfl (fun K hK => ?_)
    refine e_storeA hS8 rfl rfl (by kernel_rfl) (by repeat' (first | exact trivial | refine ⟨by first | rfl | assumption | exact one_if (by assumption), ?_⟩)) (i := 0) rfl rfl (fun w69 (hS69 : St _ _ [_, _, _] _) => ?_)
    clear hS8
    refine hK _ _ ?_; clear hK K
    refine l_nil ?_
    refine hK68 _ _ ?_
    refine wp_ret ?_
    refine c_retTC (m := 2) rfl (by kernel_rfl) (by kernel_rfl) rfl (hS69.blk (i := 0) rfl) rfl rfl ?_
    exact ⟨_, rfl, (by rw [sg_1 (by first | exact .inl (by assumption) | exact .inr (by omega))]; rfl), hS69.drop⟩
   ·
    have hg66b := hg66
    try simp only [decide_eq_true_eq, decide_eq_false_iff_not, Bool.not_eq_true', Bool.not_eq_false', Bool.and_eq_true, Bool.or_eq_true, Int.not_lt, Int.not_le, ne_eq, Decidable.not_not] at hg66
    refine l_on rfl rfl hg66b ?_
    refine l_q rfl rfl (q_fieldAddr (ft := 49) (o := 0) rfl (by kernel_rfl)) ?_
    refine l_on rfl rfl hg66b ?_
    refine l_q rfl rfl (q_load1 rfl (by kernel_rfl) (hS8.cell (i := 2) rfl rfl)) ?_
    refine l_on rfl rfl hg66b ?_
    refine l_q rfl rfl (q_eql rfl rfl) ?_
    refine l_q rfl rfl (q_pickF rfl hg66b rfl) ?_
    refine l_q rfl rfl (q_assignB rfl) ?_
    refine l_nil ?_
    refine hK65 _ _ ?_
    refine c_cond rfl (fun hc70 => ?_) (fun hc70 => ?_)
    ·
     have hc70b := hc70
     try simp only [decide_eq_true_eq, decide_eq_false_iff_not, Bool.not_eq_true', Bool.not_eq_false', Bool.and_eq_true, Bool.or_eq_true, Int.not_lt, Int.not_le, ne_eq, Decidable.not_not] at hc70
     refine wp_seq_k (fun K71 hK71 => ?_)
     refine wp_region_lit ?_
     refine l_q rfl rfl (q_build (ps := [(0, 1), (1, 1)]) (zv := .agg #[.int .i64 0, .int .i64 0]) (by kernel_rfl) (by kernel_rfl) rfl (by repeat' (first | exact trivial | refine ⟨fun _ => by first | rfl | assumption | exact one_if (by assumption), ?_⟩ | refine ⟨fun ⟨_, h⟩ => by simp at h, ?_⟩)) rfl) ?_
     refine l_q rfl rfl (q_assignI rfl) ?_
     refine l_e rfl (fun K hK => ?_)
     refine e_storeA hS8 rfl rfl (by kernel_rfl) (by repeat' (first | exact trivial | refine ⟨by first | rfl | assumption | exact one_if (by assumption), ?_⟩)) (i := 0) rfl rfl (fun w72 (hS72 : St _ _ [_, _, _] _) => ?_)
     clear hS8
     refine hK _ _ ?_; clear hK K
     refine l_nil ?_
     refine hK71 _ _ ?_
     refine wp_ret ?_
     refine c_retTC (m := 2) rfl (by kernel_rfl) (by kernel_rfl) rfl (hS72.blk (i := 0) rfl) rfl rfl ?_
     exact ⟨_, rfl, (by rw [sg_1 (by first | exact .inl (by assumption) | exact .inr (by omega))]; rfl), hS72.drop⟩
    ·
     have hc70b := hc70
     try simp only [decide_eq_true_eq, decide_eq_false_iff_not, Bool.not_eq_true', Bool.not_eq_false', Bool.and_eq_true, Bool.or_eq_true, Int.not_lt, Int.not_le, ne_eq, Decidable.not_not] at hc70
     refine wp_seq_k (fun K73 hK73 => ?_)
     refine wp_region_lit ?_
     refine l_q rfl rfl (q_moveB rfl) ?_
     refine l_q rfl rfl (q_not rfl) ?_
     refine l_q rfl rfl (q_moveB rfl) ?_
     refine g_splitL (t := 43) rfl (fun hg74 => ?_) (fun hg74 => ?_)
     ·
      have hg74b := hg74
      try simp only [decide_eq_true_eq, decide_eq_false_iff_not, Bool.not_eq_true', Bool.not_eq_false', Bool.and_eq_true, Bool.or_eq_true, Int.not_lt, Int.not_le, ne_eq, Decidable.not_not] at hg74
      refine l_off rfl rfl rfl hg74b ?_
      refine l_off rfl rfl rfl hg74b ?_
      refine l_off rfl rfl rfl hg74b ?_
      refine l_q rfl rfl (q_pickT rfl hg74b rfl) ?_
      refine l_q rfl rfl (q_moveB rfl) ?_
      refine l_off rfl rfl rfl rfl ?_
      refine l_off rfl rfl rfl rfl ?_
      refine l_off rfl rfl rfl rfl ?_
      refine l_off rfl rfl rfl rfl ?_
      refine l_off rfl rfl rfl rfl ?_
      refine l_off rfl rfl rfl rfl ?_
      refine l_offN rfl rfl rfl ?_
      refine l_offN rfl rfl rfl ?_
      refine l_offN rfl rfl rfl ?_
      refine l_offN rfl rfl rfl ?_
      refine l_offN rfl rfl rfl ?_
      refine l_offN rfl rfl rfl ?_
      refine l_off rfl rfl rfl rfl ?_
      refine l_q rfl rfl (q_pickT rfl rfl rfl) ?_
      refine l_q rfl rfl (q_assignB rfl) ?_
      refine l_nil ?_
      refine hK73 _ _ ?_
      refine c_condT rfl rfl ?_
      refine wp_seq_k (fun K76 hK76 => ?_)
      refine wp_region_lit ?_
      refine l_q rfl rfl (q_build (ps := [(0, 1), (1, 1)]) (zv := .agg #[.int .i64 0, .int .i64 0]) (by kernel_rfl) (by kernel_rfl) rfl (by repeat' (first | exact trivial | refine ⟨fun _ => by first | rfl | assumption | exact one_if (by assumption), ?_⟩ | refine ⟨fun ⟨_, h⟩ => by simp at h, ?_⟩)) rfl) ?_
      refine l_q rfl rfl (q_assignI rfl) ?_
      refine l_e rfl (fun K hK => ?_)
      refine e_storeA hS8 rfl rfl (by kernel_rfl) (by repeat' (first | exact trivial | refine ⟨by first | rfl | assumption | exact one_if (by assumption), ?_⟩)) (i := 0) rfl rfl (fun w77 (hS77 : St _ _ [_, _, _] _) => ?_)
      clear hS8
      refine hK _ _ ?_; clear hK K
      refine l_nil ?_
      refine hK76 _ _ ?_
      refine wp_ret ?_
      refine c_retTC (m := 2) rfl (by kernel_rfl) (by kernel_rfl) rfl (hS77.blk (i := 0) rfl) rfl rfl ?_
      exact ⟨_, rfl, (by rw [sg_2 (no_or (by assumption) (by omega)) (by first | exact .inl (by assumption) | exact .inr (by omega))]; rfl), hS77.drop⟩
     ·
      have hg74b := hg74
      try simp only [decide_eq_true_eq, decide_eq_false_iff_not, Bool.not_eq_true', Bool.not_eq_false', Bool.and_eq_true, Bool.or_eq_true, Int.not_lt, Int.not_le, ne_eq, Decidable.not_not] at hg74
      refine l_on rfl rfl hg74b ?_
      refine l_q rfl rfl (q_fieldAddr (ft := 49) (o := 0) rfl (by kernel_rfl)) ?_
      refine l_on rfl rfl hg74b ?_
      refine l_q rfl rfl (q_load1 rfl (by kernel_rfl) (hS8.cell (i := 1) rfl rfl)) ?_
      refine l_on rfl rfl hg74b ?_
      refine l_q rfl rfl (q_eql rfl rfl) ?_
      refine l_q rfl rfl (q_pickF rfl hg74b rfl) ?_
      refine l_q rfl rfl (q_moveB rfl) ?_
      refine g_splitL (t := 48) rfl (fun hg78 => ?_) (fun hg78 => ?_)
      ·
       have hg78b := hg78
       try simp only [decide_eq_true_eq, decide_eq_false_iff_not, Bool.not_eq_true', Bool.not_eq_false', Bool.and_eq_true, Bool.or_eq_true, Int.not_lt, Int.not_le, ne_eq, Decidable.not_not] at hg78
       refine l_off rfl rfl rfl hg78b ?_
       refine l_off rfl rfl rfl hg78b ?_
       refine l_off rfl rfl rfl hg78b ?_
       refine l_off rfl rfl rfl hg78b ?_
       refine l_off rfl rfl rfl hg78b ?_
       refine l_off rfl rfl rfl hg78b ?_
       refine l_offN rfl rfl rfl ?_
       refine l_offN rfl rfl rfl ?_
       refine l_offN rfl rfl rfl ?_
       refine l_offN rfl rfl rfl ?_
       refine l_offN rfl rfl rfl ?_
       refine l_offN rfl rfl rfl ?_
       refine l_off rfl rfl rfl hg78b ?_
       refine l_q rfl rfl (q_pickT rfl hg78b rfl) ?_
       refine l_q rfl rfl (q_assignB rfl) ?_
       refine l_nil ?_
       refine hK73 _ _ ?_
       refine c_condT rfl rfl ?_
       refine wp_seq_k (fun K80 hK80 => ?_)
       refine wp_region_lit ?_
       refine l_q rfl rfl (q_build (ps := [(0, 1), (1, 1)]) (zv := .agg #[.int .i64 0, .int .i64 0]) (by kernel_rfl) (by kernel_rfl) rfl (by repeat' (first | exact trivial | refine ⟨fun _ => by first | rfl | assumption | exact one_if (by assumption), ?_⟩ | refine ⟨fun ⟨_, h⟩ => by simp at h, ?_⟩)) rfl) ?_
       refine l_q rfl rfl (q_assignI rfl) ?_
       refine l_e rfl (fun K hK => ?_)
       refine e_storeA hS8 rfl rfl (by kernel_rfl) (by repeat' (first | exact trivial | refine ⟨by first | rfl | assumption | exact one_if (by assumption), ?_⟩)) (i := 0) rfl rfl (fun w81 (hS81 : St _ _ [_, _, _] _) => ?_)
       clear hS8
       refine hK _ _ ?_; clear hK K
       refine l_nil ?_
       refine hK80 _ _ ?_
       refine wp_ret ?_
       refine c_retTC (m := 2) rfl (by kernel_rfl) (by kernel_rfl) rfl (hS81.blk (i := 0) rfl) rfl rfl ?_
       exact ⟨_, rfl, (by rw [sg_2 (no_or (by assumption) (by omega)) (by first | exact .inl (by assumption) | exact .inr (by omega))]; rfl), hS81.drop⟩
      ·
       have hg78b := hg78
       try simp only [decide_eq_true_eq, decide_eq_false_iff_not, Bool.not_eq_true', Bool.not_eq_false', Bool.and_eq_true, Bool.or_eq_true, Int.not_lt, Int.not_le, ne_eq, Decidable.not_not] at hg78
       refine l_on rfl rfl hg78b ?_
       refine l_q rfl rfl (q_fieldAddr (ft := 49) (o := 0) rfl (by kernel_rfl)) ?_
       refine l_on rfl rfl hg78b ?_
       refine l_q rfl rfl (q_load1 rfl (by kernel_rfl) (hS8.cell (i := 2) rfl rfl)) ?_
       refine l_on rfl rfl hg78b ?_
       refine l_q rfl rfl (q_fieldAddr (ft := 49) (o := 0) rfl (by kernel_rfl)) ?_
       refine l_on rfl rfl hg78b ?_
       refine l_q rfl rfl (q_load1 rfl (by kernel_rfl) (hS8.cell (i := 1) rfl rfl)) ?_
       refine l_on rfl rfl hg78b ?_
       refine l_q rfl rfl (q_neq rfl rfl) ?_
       refine l_on rfl rfl hg78b ?_
       refine l_q rfl rfl (q_moveB rfl) ?_
       refine g_splitL (t := 54) rfl (fun hg82 => ?_) (fun hg82 => ?_)
       ·
        have hg82b := hg82
        try simp only [decide_eq_true_eq, decide_eq_false_iff_not, Bool.not_eq_true', Bool.not_eq_false', Bool.and_eq_true, Bool.or_eq_true, Int.not_lt, Int.not_le, ne_eq, Decidable.not_not] at hg82
        refine l_on rfl rfl hg82b ?_
        refine l_q rfl rfl (q_moveB rfl) ?_
        refine l_on rfl rfl hg82b ?_
        refine l_q rfl rfl (q_not rfl) ?_
        refine l_on rfl rfl hg82b ?_
        refine l_q rfl rfl (q_moveB rfl) ?_
        refine l_on rfl rfl rfl ?_
        refine l_q rfl rfl (q_moveB rfl) ?_
        refine l_on rfl rfl rfl ?_
        refine l_q rfl rfl (q_not rfl) ?_
        refine l_on rfl rfl hg82b ?_
        refine l_q rfl rfl (q_pickF rfl rfl rfl) ?_
        refine l_on rfl rfl hg78b ?_
        refine l_q rfl rfl (q_pickT rfl hg82b rfl) ?_
        refine l_q rfl rfl (q_pickF rfl hg78b rfl) ?_
        refine l_q rfl rfl (q_assignB rfl) ?_
        refine l_nil ?_
        refine hK73 _ _ ?_
        refine c_cond rfl (fun hc83 => ?_) (fun hc83 => ?_)
        ·
         have hc83b := hc83
         try simp only [decide_eq_true_eq, decide_eq_false_iff_not, Bool.not_eq_true', Bool.not_eq_false', Bool.and_eq_true, Bool.or_eq_true, Int.not_lt, Int.not_le, ne_eq, Decidable.not_not] at hc83
         refine wp_seq_k (fun K84 hK84 => ?_)
         refine wp_region_lit ?_
         refine l_q rfl rfl (q_build (ps := [(0, 1), (1, 1)]) (zv := .agg #[.int .i64 0, .int .i64 0]) (by kernel_rfl) (by kernel_rfl) rfl (by repeat' (first | exact trivial | refine ⟨fun _ => by first | rfl | assumption | exact one_if (by assumption), ?_⟩ | refine ⟨fun ⟨_, h⟩ => by simp at h, ?_⟩)) rfl) ?_
         refine l_q rfl rfl (q_assignI rfl) ?_
         refine l_e rfl (fun K hK => ?_)
         refine e_storeA hS8 rfl rfl (by kernel_rfl) (by repeat' (first | exact trivial | refine ⟨by first | rfl | assumption | exact one_if (by assumption), ?_⟩)) (i := 0) rfl rfl (fun w85 (hS85 : St _ _ [_, _, _] _) => ?_)
         clear hS8
         refine hK _ _ ?_; clear hK K
         refine l_nil ?_
         refine hK84 _ _ ?_
         refine wp_ret ?_
         refine c_retTC (m := 2) rfl (by kernel_rfl) (by kernel_rfl) rfl (hS85.blk (i := 0) rfl) rfl rfl ?_
         exact ⟨_, rfl, (by rw [sg_2 (no_or (by assumption) (by omega)) (by first | exact .inl (by assumption) | exact .inr (by omega))]; rfl), hS85.drop⟩
        ·
         have hc83b := hc83
         try simp only [decide_eq_true_eq, decide_eq_false_iff_not, Bool.not_eq_true', Bool.not_eq_false', Bool.and_eq_true, Bool.or_eq_true, Int.not_lt, Int.not_le, ne_eq, Decidable.not_not] at hc83
         refine wp_seq_k (fun K86 hK86 => ?_)
         refine wp_region_lit ?_
         refine l_q rfl rfl (q_moveB rfl) ?_
         refine l_q rfl rfl (q_assignB rfl) ?_
         refine l_nil ?_
         refine hK86 _ _ ?_
         refine c_condT rfl rfl ?_
         refine wp_seq_k (fun K88 hK88 => ?_)
         refine wp_region_lit ?_
         refine l_q rfl rfl (q_loadA (m := 3) rfl (by kernel_rfl) (by kernel_rfl) (hS8.blk (i := 1) rfl) rfl rfl) ?_
         refine l_e rfl (fun K hK => ?_)
         refine e_call (by kernel_rfl) (scaled_ok b hbB hbn0 hbn1 (by first | assumption | omega) _) rfl (after_R hS8 (fun v89 w89 hv89 hS89 => ?_))
         clear hS8
         obtain ⟨m89, p89, q89, r89, s89, t89, rfl, hp89, hq89, hr89, hs89, ht89, hz89⟩ := hv89
         refine hK _ _ ?_; clear hK K
         refine l_e rfl (fun K hK => ?_)
         refine e_alloc (zv := .agg #[.bool false, .int .u64 0, .int .u64 0, .int .u64 0, .int .u64 0, .int .u64 0, .int .u64 0]) hS89 (by kernel_rfl) (fun b90 w90 (hS90 : St _ _ [.blk b90 (.cells #[.bool false, .int .u64 (0 : Int), .int .u64 (0 : Int), .int .u64 (0 : Int), .int .u64 (0 : Int), .int .u64 (0 : Int), .int .u64 (0 : Int)] 108), _, _, _] _) => ?_)
         clear hS89
         refine hK _ _ ?_; clear hK K
         refine l_e rfl (fun K hK => ?_)
         refine e_storeA hS90 rfl rfl (by kernel_rfl) (by repeat' (first | exact trivial | refine ⟨by first | rfl | assumption | exact one_if (by assumption), ?_⟩)) (i := 0) rfl rfl (fun w91 (hS91 : St _ _ [.blk b90 (.cells #[.bool m89, .int .u64 (p89 : Int), .int .u64 (q89 : Int), .int .u64 (r89 : Int), .int .u64 (s89 : Int), .int .u64 (t89 : Int), .int .u64 (0 : Int)] 108), _, _, _] _) => ?_)
         clear hS90
         refine hK _ _ ?_; clear hK K
         refine l_nil ?_
         refine hK88 _ _ ?_
         refine wp_seq_k (fun K92 hK92 => ?_)
         refine wp_region_lit ?_
         refine l_q rfl rfl (q_fieldAddr (ft := 4) (o := 0) rfl (by kernel_rfl)) ?_
         refine l_q rfl rfl (q_load1 rfl (by kernel_rfl) (hS91.cell (i := 0) rfl rfl)) ?_
         refine l_q rfl rfl (q_not rfl) ?_
         refine l_q rfl rfl (q_fieldAddr (ft := 4) (o := 0) rfl (by kernel_rfl)) ?_
         refine l_e rfl (fun K hK => ?_)
         refine e_store1 hS91 rfl rfl (by kernel_rfl) (by first | rfl | assumption) (i := 0) rfl rfl (fun w93 (hS93 : St _ _ [.blk b90 (.cells #[_, .int .u64 (p89 : Int), .int .u64 (q89 : Int), .int .u64 (r89 : Int), .int .u64 (s89 : Int), .int .u64 (t89 : Int), .int .u64 (0 : Int)] 108), _, _, _] _) => ?_)
         clear hS91
         refine hK _ _ ?_; clear hK K
         refine l_nil ?_
         refine hK92 _ _ ?_
         refine wp_seq_k (fun K94 hK94 => ?_)
         refine r_any (by kernel_rfl) hS93 (fun w95 hS95 => ?_)
         clear hS93
         refine o_held (i := 0) [1, 3, 4, 5, 6, 7] (fun _ _ => trivial) rfl rfl (by kernel_rfl) (goes0 rfl) (QOk.then (QOk.inBlock (QOk.then QOk.body))) (q_loadA (m := 3) rfl (by kernel_rfl) (by kernel_rfl) (hS95.blk (i := 3) rfl) rfl rfl) ?_
         refine o_held (i := 2) [3, 4, 5, 6, 7] (fun j w => ⟨(fun _ _ => trivial) j w, fun _ h => h⟩) rfl rfl (by kernel_rfl) (goes0 rfl) (QOk.then (QOk.inBlock (QOk.then QOk.body))) (q_loadA (m := 7) rfl (by kernel_rfl) (by kernel_rfl) (hS95.blk (i := 0) rfl) rfl rfl) ?_
         refine o_eff (i := 1) (by kernel_rfl) rfl (goes0 rfl) (fun K hK => ?_)
         refine e_call (by kernel_rfl) (scaled_ok a haB han0 han1 (by first | assumption | omega) _) rfl (after_R hS95 (fun v96 w96 hv96 hS96 => ?_))
         clear hS95
         obtain ⟨m96, p96, q96, r96, s96, t96, rfl, hp96, hq96, hr96, hs96, ht96, hz96⟩ := hv96
         refine hK _ _ ⟨⟨trivial, fun h => absurd h (by decide)⟩, fun _ _ => by first | exact q_loadA (m := 7) rfl (by kernel_rfl) (by kernel_rfl) (hS96.blk (i := 0) rfl) rfl rfl⟩ ?_; clear hK K
         refine o_eff (i := 3) (by kernel_rfl) rfl (goes0 rfl) (fun K hK => ?_)
         refine e_call (by kernel_rfl) (addQ_ok m96 (!m89) p96 q96 r96 s96 t96 0 p89 q89 r89 s89 t89 0 (by omega) (by omega) (by omega) (by omega) (by omega) (by omega) (by omega) (by omega) (by omega) (by omega) (by omega) (by omega) (by omega) (by omega) _) rfl (after_R hS96 (fun v97 w97 hv97 hS97 => ?_))
         clear hS96
         obtain ⟨m97, p97, q97, r97, s97, t97, u97, rfl, hp97, hq97, hr97, hs97, ht97, hu97, hz97⟩ := hv97
         refine hK _ _ ⟨⟨trivial, fun h => absurd h (by decide)⟩, fun h => absurd h (by decide)⟩ ?_; clear hK K
         refine o_eff (i := 4) (by kernel_rfl) rfl (goes0 rfl) (fun K hK => ?_)
         refine e_call (by kernel_rfl) (bsign_ok m97 p97 q97 r97 s97 t97 u97 _) rfl (after_R hS97 (fun v98 w98 hv98 hS98 => ?_))
         clear hS97
         obtain rfl := hv98
         have hsg : sgn (sv m97 (dv p97 q97 r97 s97 t97 u97)) = sgn (sclQ a - sclQ b) := by rw [hz97, sv_not, hz96, hz89]
         refine hK _ _ ⟨⟨trivial, fun h => absurd h (by decide)⟩, fun h => absurd h (by decide)⟩ ?_; clear hK K
         refine o_eff (i := 5) (by kernel_rfl) rfl (goes0 rfl) (fun K hK => ?_)
         refine e_call (by kernel_rfl) (fine_ok _) rfl (after_R hS98 (fun v99 w99 hv99 hS99 => ?_))
         clear hS98
         obtain rfl := hv99
         refine hK _ _ ⟨⟨trivial, fun h => absurd h (by decide)⟩, fun h => absurd h (by decide)⟩ ?_; clear hK K
         refine o_pure (i := 6) (fun j w => ⟨(fun j w => ⟨(fun _ _ => trivial) j w, fun _ h => h⟩) j w, fun _ h => h⟩) rfl rfl (by kernel_rfl) (goes0 rfl) (QOk.then (QOk.inBlock (QOk.then QOk.body))) (fun w => q_assignI rfl) ?_
         refine o_eff (i := 7) (by kernel_rfl) rfl (goes0 rfl) (fun K hK => ?_)
         refine e_storeA hS99 rfl rfl (by kernel_rfl) (by repeat' (first | exact trivial | refine ⟨by first | rfl | assumption | exact one_if (by assumption), ?_⟩)) (i := 1) rfl rfl (fun w100 (hS100 : St _ _ [_, _, _, _] _) => ?_)
         clear hS99
         refine hK _ _ ⟨⟨trivial, fun h => absurd h (by decide)⟩, fun h => absurd h (by decide)⟩ ?_; clear hK K
         refine o_done (by kernel_rfl) ?_
         refine hK94 _ _ ?_
         refine wp_ret ?_
         refine c_retTC (m := 2) rfl (by kernel_rfl) (by kernel_rfl) rfl (hS100.blk (i := 1) rfl) rfl rfl ?_
         rw [hsg]
         exact ⟨_, rfl, (by rw [sg_3 (no_or (by assumption) (by omega)) (no_or (by assumption) (by omega)) (by omega)]; rfl), hS100.drop⟩
       ·
        have hg82b := hg82
        try simp only [decide_eq_true_eq, decide_eq_false_iff_not, Bool.not_eq_true', Bool.not_eq_false', Bool.and_eq_true, Bool.or_eq_true, Int.not_lt, Int.not_le, ne_eq, Decidable.not_not] at hg82
        refine l_off rfl rfl rfl hg82b ?_
        refine l_off rfl rfl rfl hg82b ?_
        refine l_off rfl rfl rfl hg82b ?_
        refine l_offN rfl rfl rfl ?_
        refine l_offN rfl rfl rfl ?_
        refine l_off rfl rfl rfl hg82b ?_
        refine l_on rfl rfl hg78b ?_
        refine l_q rfl rfl (q_pickF rfl hg82b rfl) ?_
        refine l_q rfl rfl (q_pickF rfl hg78b rfl) ?_
        refine l_q rfl rfl (q_assignB rfl) ?_
        refine l_nil ?_
        refine hK73 _ _ ?_
        refine c_condF rfl rfl ?_
        refine wp_seq_k (fun K102 hK102 => ?_)
        refine wp_region_lit ?_
        refine l_q rfl rfl (q_moveB rfl) ?_
        refine l_q rfl rfl (q_assignB rfl) ?_
        refine l_nil ?_
        refine hK102 _ _ ?_
        refine c_condT rfl rfl ?_
        refine wp_seq_k (fun K104 hK104 => ?_)
        refine wp_region_lit ?_
        refine l_q rfl rfl (q_loadA (m := 3) rfl (by kernel_rfl) (by kernel_rfl) (hS8.blk (i := 1) rfl) rfl rfl) ?_
        refine l_e rfl (fun K hK => ?_)
        refine e_call (by kernel_rfl) (scaled_ok b hbB hbn0 hbn1 (by first | assumption | omega) _) rfl (after_R hS8 (fun v105 w105 hv105 hS105 => ?_))
        clear hS8
        obtain ⟨m105, p105, q105, r105, s105, t105, rfl, hp105, hq105, hr105, hs105, ht105, hz105⟩ := hv105
        refine hK _ _ ?_; clear hK K
        refine l_e rfl (fun K hK => ?_)
        refine e_alloc (zv := .agg #[.bool false, .int .u64 0, .int .u64 0, .int .u64 0, .int .u64 0, .int .u64 0, .int .u64 0]) hS105 (by kernel_rfl) (fun b106 w106 (hS106 : St _ _ [.blk b106 (.cells #[.bool false, .int .u64 (0 : Int), .int .u64 (0 : Int), .int .u64 (0 : Int), .int .u64 (0 : Int), .int .u64 (0 : Int), .int .u64 (0 : Int)] 108), _, _, _] _) => ?_)
        clear hS105
        refine hK _ _ ?_; clear hK K
        refine l_e rfl (fun K hK => ?_)
        refine e_storeA hS106 rfl rfl (by kernel_rfl) (by repeat' (first | exact trivial | refine ⟨by first | rfl | assumption | exact one_if (by assumption), ?_⟩)) (i := 0) rfl rfl (fun w107 (hS107 : St _ _ [.blk b106 (.cells #[.bool m105, .int .u64 (p105 : Int), .int .u64 (q105 : Int), .int .u64 (r105 : Int), .int .u64 (s105 : Int), .int .u64 (t105 : Int), .int .u64 (0 : Int)] 108), _, _, _] _) => ?_)
        clear hS106
        refine hK _ _ ?_; clear hK K
        refine l_nil ?_
        refine hK104 _ _ ?_
        refine wp_seq_k (fun K108 hK108 => ?_)
        refine wp_region_lit ?_
        refine l_q rfl rfl (q_fieldAddr (ft := 4) (o := 0) rfl (by kernel_rfl)) ?_
        refine l_q rfl rfl (q_load1 rfl (by kernel_rfl) (hS107.cell (i := 0) rfl rfl)) ?_
        refine l_q rfl rfl (q_not rfl) ?_
        refine l_q rfl rfl (q_fieldAddr (ft := 4) (o := 0) rfl (by kernel_rfl)) ?_
        refine l_e rfl (fun K hK => ?_)
        refine e_store1 hS107 rfl rfl (by kernel_rfl) (by first | rfl | assumption) (i := 0) rfl rfl (fun w109 (hS109 : St _ _ [.blk b106 (.cells #[_, .int .u64 (p105 : Int), .int .u64 (q105 : Int), .int .u64 (r105 : Int), .int .u64 (s105 : Int), .int .u64 (t105 : Int), .int .u64 (0 : Int)] 108), _, _, _] _) => ?_)
        clear hS107
        refine hK _ _ ?_; clear hK K
        refine l_nil ?_
        refine hK108 _ _ ?_
        refine wp_seq_k (fun K110 hK110 => ?_)
        refine r_any (by kernel_rfl) hS109 (fun w111 hS111 => ?_)
        clear hS109
        refine o_held (i := 0) [1, 3, 4, 5, 6, 7] (fun _ _ => trivial) rfl rfl (by kernel_rfl) (goes0 rfl) (QOk.then (QOk.inBlock (QOk.then QOk.body))) (q_loadA (m := 3) rfl (by kernel_rfl) (by kernel_rfl) (hS111.blk (i := 3) rfl) rfl rfl) ?_
        refine o_held (i := 2) [3, 4, 5, 6, 7] (fun j w => ⟨(fun _ _ => trivial) j w, fun _ h => h⟩) rfl rfl (by kernel_rfl) (goes0 rfl) (QOk.then (QOk.inBlock (QOk.then QOk.body))) (q_loadA (m := 7) rfl (by kernel_rfl) (by kernel_rfl) (hS111.blk (i := 0) rfl) rfl rfl) ?_
        refine o_eff (i := 1) (by kernel_rfl) rfl (goes0 rfl) (fun K hK => ?_)
        refine e_call (by kernel_rfl) (scaled_ok a haB han0 han1 (by first | assumption | omega) _) rfl (after_R hS111 (fun v112 w112 hv112 hS112 => ?_))
        clear hS111
        obtain ⟨m112, p112, q112, r112, s112, t112, rfl, hp112, hq112, hr112, hs112, ht112, hz112⟩ := hv112
        refine hK _ _ ⟨⟨trivial, fun h => absurd h (by decide)⟩, fun _ _ => by first | exact q_loadA (m := 7) rfl (by kernel_rfl) (by kernel_rfl) (hS112.blk (i := 0) rfl) rfl rfl⟩ ?_; clear hK K
        refine o_eff (i := 3) (by kernel_rfl) rfl (goes0 rfl) (fun K hK => ?_)
        refine e_call (by kernel_rfl) (addQ_ok m112 (!m105) p112 q112 r112 s112 t112 0 p105 q105 r105 s105 t105 0 (by omega) (by omega) (by omega) (by omega) (by omega) (by omega) (by omega) (by omega) (by omega) (by omega) (by omega) (by omega) (by omega) (by omega) _) rfl (after_R hS112 (fun v113 w113 hv113 hS113 => ?_))
        clear hS112
        obtain ⟨m113, p113, q113, r113, s113, t113, u113, rfl, hp113, hq113, hr113, hs113, ht113, hu113, hz113⟩ := hv113
        refine hK _ _ ⟨⟨trivial, fun h => absurd h (by decide)⟩, fun h => absurd h (by decide)⟩ ?_; clear hK K
        refine o_eff (i := 4) (by kernel_rfl) rfl (goes0 rfl) (fun K hK => ?_)
        refine e_call (by kernel_rfl) (bsign_ok m113 p113 q113 r113 s113 t113 u113 _) rfl (after_R hS113 (fun v114 w114 hv114 hS114 => ?_))
        clear hS113
        obtain rfl := hv114
        have hsg : sgn (sv m113 (dv p113 q113 r113 s113 t113 u113)) = sgn (sclQ a - sclQ b) := by rw [hz113, sv_not, hz112, hz105]
        refine hK _ _ ⟨⟨trivial, fun h => absurd h (by decide)⟩, fun h => absurd h (by decide)⟩ ?_; clear hK K
        refine o_eff (i := 5) (by kernel_rfl) rfl (goes0 rfl) (fun K hK => ?_)
        refine e_call (by kernel_rfl) (fine_ok _) rfl (after_R hS114 (fun v115 w115 hv115 hS115 => ?_))
        clear hS114
        obtain rfl := hv115
        refine hK _ _ ⟨⟨trivial, fun h => absurd h (by decide)⟩, fun h => absurd h (by decide)⟩ ?_; clear hK K
        refine o_pure (i := 6) (fun j w => ⟨(fun j w => ⟨(fun _ _ => trivial) j w, fun _ h => h⟩) j w, fun _ h => h⟩) rfl rfl (by kernel_rfl) (goes0 rfl) (QOk.then (QOk.inBlock (QOk.then QOk.body))) (fun w => q_assignI rfl) ?_
        refine o_eff (i := 7) (by kernel_rfl) rfl (goes0 rfl) (fun K hK => ?_)
        refine e_storeA hS115 rfl rfl (by kernel_rfl) (by repeat' (first | exact trivial | refine ⟨by first | rfl | assumption | exact one_if (by assumption), ?_⟩)) (i := 1) rfl rfl (fun w116 (hS116 : St _ _ [_, _, _, _] _) => ?_)
        clear hS115
        refine hK _ _ ⟨⟨trivial, fun h => absurd h (by decide)⟩, fun h => absurd h (by decide)⟩ ?_; clear hK K
        refine o_done (by kernel_rfl) ?_
        refine hK110 _ _ ?_
        refine wp_ret ?_
        refine c_retTC (m := 2) rfl (by kernel_rfl) (by kernel_rfl) rfl (hS116.blk (i := 1) rfl) rfl rfl ?_
        rw [hsg]
        exact ⟨_, rfl, (by rw [sg_3 (no_or (by assumption) (by omega)) (no_or (by assumption) (by omega)) (by omega)]; rfl), hS116.drop⟩
 ·
  have hg10b := hg10
  try simp only [decide_eq_true_eq, decide_eq_false_iff_not, Bool.not_eq_true', Bool.not_eq_false', Bool.and_eq_true, Bool.or_eq_true, Int.not_lt, Int.not_le, ne_eq, Decidable.not_not] at hg10
  refine l_on rfl rfl hg10b ?_
  refine l_q rfl rfl (q_fieldAddr (ft := 49) (o := 0) rfl (by kernel_rfl)) ?_
  refine l_on rfl rfl hg10b ?_
  refine l_q rfl rfl (q_load1 rfl (by kernel_rfl) (hS8.cell (i := 2) rfl rfl)) ?_
  refine l_on rfl rfl hg10b ?_
  refine l_q rfl rfl (q_eql rfl rfl) ?_
  refine l_q rfl rfl (q_pickF rfl hg10b rfl) ?_
  refine l_q rfl rfl (q_assignB rfl) ?_
  refine l_nil ?_
  refine hK9 _ _ ?_
  refine wp_seq_k (fun K117 hK117 => ?_)
  refine wp_region_lit ?_
  refine l_q rfl rfl (q_fieldAddr (ft := 49) (o := 0) rfl (by kernel_rfl)) ?_
  refine l_q rfl rfl (q_load1 rfl (by kernel_rfl) (hS8.cell (i := 1) rfl rfl)) ?_
  refine l_q rfl rfl (q_eql rfl rfl) ?_
  refine l_q rfl rfl (q_moveB rfl) ?_
  refine g_splitL (t := 26) rfl (fun hg118 => ?_) (fun hg118 => ?_)
  ·
   have hg118b := hg118
   try simp only [decide_eq_true_eq, decide_eq_false_iff_not, Bool.not_eq_true', Bool.not_eq_false', Bool.and_eq_true, Bool.or_eq_true, Int.not_lt, Int.not_le, ne_eq, Decidable.not_not] at hg118
   refine l_off rfl rfl rfl hg118b ?_
   refine l_off rfl rfl rfl hg118b ?_
   refine l_off rfl rfl rfl hg118b ?_
   refine l_q rfl rfl (q_pickT rfl hg118b rfl) ?_
   refine l_q rfl rfl (q_assignB rfl) ?_
   refine l_nil ?_
   refine hK117 _ _ ?_
   refine wp_seq_k (fun K119 hK119 => ?_)
   refine wp_block ?_
   refine wp_seq_k (fun K120 hK120 => ?_)
   refine wp_region_lit ?_
   refine l_q rfl rfl (q_moveB rfl) ?_
   refine l_q rfl rfl (q_not rfl) ?_
   refine l_q rfl rfl (q_moveB rfl) ?_
   refine g_splitL (t := 34) rfl (fun hg121 => ?_) (fun hg121 => ?_)
   ·
    have hg121b := hg121
    try simp only [decide_eq_true_eq, decide_eq_false_iff_not, Bool.not_eq_true', Bool.not_eq_false', Bool.and_eq_true, Bool.or_eq_true, Int.not_lt, Int.not_le, ne_eq, Decidable.not_not] at hg121
    refine l_off rfl rfl rfl hg121b ?_
    refine l_off rfl rfl rfl hg121b ?_
    refine l_off rfl rfl rfl hg121b ?_
    refine l_q rfl rfl (q_pickT rfl hg121b rfl) ?_
    refine l_q rfl rfl (q_assignB rfl) ?_
    refine l_nil ?_
    refine hK120 _ _ ?_
    refine c_condT rfl rfl ?_
    refine wp_seq_k (fun K123 hK123 => ?_)
    refine wp_region_lit ?_
    refine l_q rfl rfl (q_build (ps := [(0, 1), (1, 1)]) (zv := .agg #[.int .i64 0, .int .i64 0]) (by kernel_rfl) (by kernel_rfl) rfl (by repeat' (first | exact trivial | refine ⟨fun _ => by first | rfl | assumption | exact one_if (by assumption), ?_⟩ | refine ⟨fun ⟨_, h⟩ => by simp at h, ?_⟩)) rfl) ?_
    refine l_q rfl rfl (q_assignI rfl) ?_
    refine l_e rfl (fun K hK => ?_)
    refine e_storeA hS8 rfl rfl (by kernel_rfl) (by repeat' (first | exact trivial | refine ⟨by first | rfl | assumption | exact one_if (by assumption), ?_⟩)) (i := 0) rfl rfl (fun w124 (hS124 : St _ _ [_, _, _] _) => ?_)
    clear hS8
    refine hK _ _ ?_; clear hK K
    refine l_nil ?_
    refine hK123 _ _ ?_
    refine wp_ret ?_
    refine c_retTC (m := 2) rfl (by kernel_rfl) (by kernel_rfl) rfl (hS124.blk (i := 0) rfl) rfl rfl ?_
    exact ⟨_, rfl, (by rw [sg_1 (by first | exact .inl (by assumption) | exact .inr (by omega))]; rfl), hS124.drop⟩
   ·
    have hg121b := hg121
    try simp only [decide_eq_true_eq, decide_eq_false_iff_not, Bool.not_eq_true', Bool.not_eq_false', Bool.and_eq_true, Bool.or_eq_true, Int.not_lt, Int.not_le, ne_eq, Decidable.not_not] at hg121
    refine l_on rfl rfl hg121b ?_
    refine l_q rfl rfl (q_fieldAddr (ft := 49) (o := 0) rfl (by kernel_rfl)) ?_
    refine l_on rfl rfl hg121b ?_
    refine l_q rfl rfl (q_load1 rfl (by kernel_rfl) (hS8.cell (i := 2) rfl rfl)) ?_
    refine l_on rfl rfl hg121b ?_
    refine l_q rfl rfl (q_eql rfl rfl) ?_
    refine l_q rfl rfl (q_pickF rfl hg121b rfl) ?_
    refine l_q rfl rfl (q_assignB rfl) ?_
    refine l_nil ?_
    refine hK120 _ _ ?_
    refine c_cond rfl (fun hc125 => ?_) (fun hc125 => ?_)
    ·
     have hc125b := hc125
     try simp only [decide_eq_true_eq, decide_eq_false_iff_not, Bool.not_eq_true', Bool.not_eq_false', Bool.and_eq_true, Bool.or_eq_true, Int.not_lt, Int.not_le, ne_eq, Decidable.not_not] at hc125
     refine wp_seq_k (fun K126 hK126 => ?_)
     refine wp_region_lit ?_
     refine l_q rfl rfl (q_build (ps := [(0, 1), (1, 1)]) (zv := .agg #[.int .i64 0, .int .i64 0]) (by kernel_rfl) (by kernel_rfl) rfl (by repeat' (first | exact trivial | refine ⟨fun _ => by first | rfl | assumption | exact one_if (by assumption), ?_⟩ | refine ⟨fun ⟨_, h⟩ => by simp at h, ?_⟩)) rfl) ?_
     refine l_q rfl rfl (q_assignI rfl) ?_
     refine l_e rfl (fun K hK => ?_)
     refine e_storeA hS8 rfl rfl (by kernel_rfl) (by repeat' (first | exact trivial | refine ⟨by first | rfl | assumption | exact one_if (by assumption), ?_⟩)) (i := 0) rfl rfl (fun w127 (hS127 : St _ _ [_, _, _] _) => ?_)
     clear hS8
     refine hK _ _ ?_; clear hK K
     refine l_nil ?_
     refine hK126 _ _ ?_
     refine wp_ret ?_
     refine c_retTC (m := 2) rfl (by kernel_rfl) (by kernel_rfl) rfl (hS127.blk (i := 0) rfl) rfl rfl ?_
     exact ⟨_, rfl, (by rw [sg_1 (by first | exact .inl (by assumption) | exact .inr (by omega))]; rfl), hS127.drop⟩
    ·
     have hc125b := hc125
     try simp only [decide_eq_true_eq, decide_eq_false_iff_not, Bool.not_eq_true', Bool.not_eq_false', Bool.and_eq_true, Bool.or_eq_true, Int.not_lt, Int.not_le, ne_eq, Decidable.not_not] at hc125
     refine wp_seq_k (fun K128 hK128 => ?_)
     refine wp_region_lit ?_
     refine l_q rfl rfl (q_moveB rfl) ?_
     refine l_q rfl rfl (q_not rfl) ?_
     refine l_q rfl rfl (q_moveB rfl) ?_
     refine g_splitL (t := 43) rfl (fun hg129 => ?_) (fun hg129 => ?_)
     ·
      have hg129b := hg129
      try simp only [decide_eq_true_eq, decide_eq_false_iff_not, Bool.not_eq_true', Bool.not_eq_false', Bool.and_eq_true, Bool.or_eq_true, Int.not_lt, Int.not_le, ne_eq, Decidable.not_not] at hg129
      refine l_off rfl rfl rfl hg129b ?_
      refine l_off rfl rfl rfl hg129b ?_
      refine l_off rfl rfl rfl hg129b ?_
      refine l_q rfl rfl (q_pickT rfl hg129b rfl) ?_
      refine l_q rfl rfl (q_moveB rfl) ?_
      refine l_off rfl rfl rfl rfl ?_
      refine l_off rfl rfl rfl rfl ?_
      refine l_off rfl rfl rfl rfl ?_
      refine l_off rfl rfl rfl rfl ?_
      refine l_off rfl rfl rfl rfl ?_
      refine l_off rfl rfl rfl rfl ?_
      refine l_offN rfl rfl rfl ?_
      refine l_offN rfl rfl rfl ?_
      refine l_offN rfl rfl rfl ?_
      refine l_offN rfl rfl rfl ?_
      refine l_offN rfl rfl rfl ?_
      refine l_offN rfl rfl rfl ?_
      refine l_off rfl rfl rfl rfl ?_
      refine l_q rfl rfl (q_pickT rfl rfl rfl) ?_
      refine l_q rfl rfl (q_assignB rfl) ?_
      refine l_nil ?_
      refine hK128 _ _ ?_
      refine c_condT rfl rfl ?_
      refine wp_seq_k (fun K131 hK131 => ?_)
      refine wp_region_lit ?_
      refine l_q rfl rfl (q_build (ps := [(0, 1), (1, 1)]) (zv := .agg #[.int .i64 0, .int .i64 0]) (by kernel_rfl) (by kernel_rfl) rfl (by repeat' (first | exact trivial | refine ⟨fun _ => by first | rfl | assumption | exact one_if (by assumption), ?_⟩ | refine ⟨fun ⟨_, h⟩ => by simp at h, ?_⟩)) rfl) ?_
      refine l_q rfl rfl (q_assignI rfl) ?_
      refine l_e rfl (fun K hK => ?_)
      refine e_storeA hS8 rfl rfl (by kernel_rfl) (by repeat' (first | exact trivial | refine ⟨by first | rfl | assumption | exact one_if (by assumption), ?_⟩)) (i := 0) rfl rfl (fun w132 (hS132 : St _ _ [_, _, _] _) => ?_)
      clear hS8
      refine hK _ _ ?_; clear hK K
      refine l_nil ?_
      refine hK131 _ _ ?_
      refine wp_ret ?_
      refine c_retTC (m := 2) rfl (by kernel_rfl) (by kernel_rfl) rfl (hS132.blk (i := 0) rfl) rfl rfl ?_
      exact ⟨_, rfl, (by rw [sg_2 (no_or (by assumption) (by omega)) (by first | exact .inl (by assumption) | exact .inr (by omega))]; rfl), hS132.drop⟩
     ·
      have hg129b := hg129
      try simp only [decide_eq_true_eq, decide_eq_false_iff_not, Bool.not_eq_true', Bool.not_eq_false', Bool.and_eq_true, Bool.or_eq_true, Int.not_lt, Int.not_le, ne_eq, Decidable.not_not] at hg129
      refine l_on rfl rfl hg129b ?_
      refine l_q rfl rfl (q_fieldAddr (ft := 49) (o := 0) rfl (by kernel_rfl)) ?_
      refine l_on rfl rfl hg129b ?_
      refine l_q rfl rfl (q_load1 rfl (by kernel_rfl) (hS8.cell (i := 1) rfl rfl)) ?_
      refine l_on rfl rfl hg129b ?_
      refine l_q rfl rfl (q_eql rfl rfl) ?_
      refine l_q rfl rfl (q_pickF rfl hg129b rfl) ?_
      refine l_q rfl rfl (q_moveB rfl) ?_
      refine g_splitL (t := 48) rfl (fun hg133 => ?_) (fun hg133 => ?_)
      ·
       have hg133b := hg133
       try simp only [decide_eq_true_eq, decide_eq_false_iff_not, Bool.not_eq_true', Bool.not_eq_false', Bool.and_eq_true, Bool.or_eq_true, Int.not_lt, Int.not_le, ne_eq, Decidable.not_not] at hg133
       refine l_off rfl rfl rfl hg133b ?_
       refine l_off rfl rfl rfl hg133b ?_
       refine l_off rfl rfl rfl hg133b ?_
       refine l_off rfl rfl rfl hg133b ?_
       refine l_off rfl rfl rfl hg133b ?_
       refine l_off rfl rfl rfl hg133b ?_
       refine l_offN rfl rfl rfl ?_
       refine l_offN rfl rfl rfl ?_
       refine l_offN rfl rfl rfl ?_
       refine l_offN rfl rfl rfl ?_
       refine l_offN rfl rfl rfl ?_
       refine l_offN rfl rfl rfl ?_
       refine l_off rfl rfl rfl hg133b ?_
       refine l_q rfl rfl (q_pickT rfl hg133b rfl) ?_
       refine l_q rfl rfl (q_assignB rfl) ?_
       refine l_nil ?_
       refine hK128 _ _ ?_
       refine c_condT rfl rfl ?_
       refine wp_seq_k (fun K135 hK135 => ?_)
       refine wp_region_lit ?_
       refine l_q rfl rfl (q_build (ps := [(0, 1), (1, 1)]) (zv := .agg #[.int .i64 0, .int .i64 0]) (by kernel_rfl) (by kernel_rfl) rfl (by repeat' (first | exact trivial | refine ⟨fun _ => by first | rfl | assumption | exact one_if (by assumption), ?_⟩ | refine ⟨fun ⟨_, h⟩ => by simp at h, ?_⟩)) rfl) ?_
       refine l_q rfl rfl (q_assignI rfl) ?_
       refine l_e rfl (fun K hK => ?_)
       refine e_storeA hS8 rfl rfl (by kernel_rfl) (by repeat' (first | exact trivial | refine ⟨by first | rfl | assumption | exact one_if (by assumption), ?_⟩)) (i := 0) rfl rfl (fun w136 (hS136 : St _ _ [_, _, _] _) => ?_)
       clear hS8
       refine hK _ _ ?_; clear hK K
       refine l_nil ?_
       refine hK135 _ _ ?_
       refine wp_ret ?_
       refine c_retTC (m := 2) rfl (by kernel_rfl) (by kernel_rfl) rfl (hS136.blk (i := 0) rfl) rfl rfl ?_
       exact ⟨_, rfl, (by rw [sg_2 (no_or (by assumption) (by omega)) (by first | exact .inl (by assumption) | exact .inr (by omega))]; rfl), hS136.drop⟩
      ·
       have hg133b := hg133
       try simp only [decide_eq_true_eq, decide_eq_false_iff_not, Bool.not_eq_true', Bool.not_eq_false', Bool.and_eq_true, Bool.or_eq_true, Int.not_lt, Int.not_le, ne_eq, Decidable.not_not] at hg133
       refine l_on rfl rfl hg133b ?_
       refine l_q rfl rfl (q_fieldAddr (ft := 49) (o := 0) rfl (by kernel_rfl)) ?_
       refine l_on rfl rfl hg133b ?_
       refine l_q rfl rfl (q_load1 rfl (by kernel_rfl) (hS8.cell (i := 2) rfl rfl)) ?_
       refine l_on rfl rfl hg133b ?_
       refine l_q rfl rfl (q_fieldAddr (ft := 49) (o := 0) rfl (by kernel_rfl)) ?_
       refine l_on rfl rfl hg133b ?_
       refine l_q rfl rfl (q_load1 rfl (by kernel_rfl) (hS8.cell (i := 1) rfl rfl)) ?_
       refine l_on rfl rfl hg133b ?_
       refine l_q rfl rfl (q_neq rfl rfl) ?_
       refine l_on rfl rfl hg133b ?_
       refine l_q rfl rfl (q_moveB rfl) ?_
       refine g_splitL (t := 54) rfl (fun hg137 => ?_) (fun hg137 => ?_)
       ·
        have hg137b := hg137
        try simp only [decide_eq_true_eq, decide_eq_false_iff_not, Bool.not_eq_true', Bool.not_eq_false', Bool.and_eq_true, Bool.or_eq_true, Int.not_lt, Int.not_le, ne_eq, Decidable.not_not] at hg137
        refine l_on rfl rfl hg137b ?_
        refine l_q rfl rfl (q_moveB rfl) ?_
        refine l_on rfl rfl hg137b ?_
        refine l_q rfl rfl (q_not rfl) ?_
        refine l_on rfl rfl hg137b ?_
        refine l_q rfl rfl (q_moveB rfl) ?_
        refine g_splitL (t := 57) rfl (fun hg138 => ?_) (fun hg138 => ?_)
        ·
         have hg138b := hg138
         try simp only [decide_eq_true_eq, decide_eq_false_iff_not, Bool.not_eq_true', Bool.not_eq_false', Bool.and_eq_true, Bool.or_eq_true, Int.not_lt, Int.not_le, ne_eq, Decidable.not_not] at hg138
         refine l_off rfl rfl rfl hg138b ?_
         refine l_off rfl rfl rfl hg138b ?_
         refine l_on rfl rfl hg137b ?_
         refine l_q rfl rfl (q_pickT rfl hg138b rfl) ?_
         refine l_on rfl rfl hg133b ?_
         refine l_q rfl rfl (q_pickT rfl hg137b rfl) ?_
         refine l_q rfl rfl (q_pickF rfl hg133b rfl) ?_
         refine l_q rfl rfl (q_assignB rfl) ?_
         refine l_nil ?_
         refine hK128 _ _ ?_
         refine c_condT rfl rfl ?_
         refine wp_seq_k (fun K140 hK140 => ?_)
         refine wp_region_lit ?_
         refine l_q rfl rfl (q_build (ps := [(0, 1), (1, 1)]) (zv := .agg #[.int .i64 0, .int .i64 0]) (by kernel_rfl) (by kernel_rfl) rfl (by repeat' (first | exact trivial | refine ⟨fun _ => by first | rfl | assumption | exact one_if (by assumption), ?_⟩ | refine ⟨fun ⟨_, h⟩ => by simp at h, ?_⟩)) rfl) ?_
         refine l_q rfl rfl (q_assignI rfl) ?_
         refine l_e rfl (fun K hK => ?_)
         refine e_storeA hS8 rfl rfl (by kernel_rfl) (by repeat' (first | exact trivial | refine ⟨by first | rfl | assumption | exact one_if (by assumption), ?_⟩)) (i := 0) rfl rfl (fun w141 (hS141 : St _ _ [_, _, _] _) => ?_)
         clear hS8
         refine hK _ _ ?_; clear hK K
         refine l_nil ?_
         refine hK140 _ _ ?_
         refine wp_ret ?_
         refine c_retTC (m := 2) rfl (by kernel_rfl) (by kernel_rfl) rfl (hS141.blk (i := 0) rfl) rfl rfl ?_
         exact ⟨_, rfl, (by rw [sg_2 (no_or (by assumption) (by omega)) (by first | exact .inl (by assumption) | exact .inr (by omega))]; rfl), hS141.drop⟩
        ·
         have hg138b := hg138
         try simp only [decide_eq_true_eq, decide_eq_false_iff_not, Bool.not_eq_true', Bool.not_eq_false', Bool.and_eq_true, Bool.or_eq_true, Int.not_lt, Int.not_le, ne_eq, Decidable.not_not] at hg138
         refine l_on rfl rfl hg138b ?_
         refine l_q rfl rfl (q_moveB rfl) ?_
         refine l_on rfl rfl hg138b ?_
         refine l_q rfl rfl (q_not rfl) ?_
         refine l_on rfl rfl hg137b ?_
         refine l_q rfl rfl (q_pickF rfl hg138b rfl) ?_
         refine l_on rfl rfl hg133b ?_
         refine l_q rfl rfl (q_pickT rfl hg137b rfl) ?_
         refine l_q rfl rfl (q_pickF rfl hg133b rfl) ?_
         refine l_q rfl rfl (q_assignB rfl) ?_
         refine l_nil ?_
         refine hK128 _ _ ?_
         refine c_condF rfl rfl ?_
         refine wp_seq_k (fun K143 hK143 => ?_)
         refine wp_region_lit ?_
         refine l_q rfl rfl (q_moveB rfl) ?_
         refine l_q rfl rfl (q_assignB rfl) ?_
         refine l_nil ?_
         refine hK143 _ _ ?_
         refine c_cond rfl (fun hc144 => ?_) (fun hc144 => ?_)
         ·
          have hc144b := hc144
          try simp only [decide_eq_true_eq, decide_eq_false_iff_not, Bool.not_eq_true', Bool.not_eq_false', Bool.and_eq_true, Bool.or_eq_true, Int.not_lt, Int.not_le, ne_eq, Decidable.not_not] at hc144
          refine wp_seq_k (fun K145 hK145 => ?_)
          refine wp_region_lit ?_
          refine l_q rfl rfl (q_loadA (m := 3) rfl (by kernel_rfl) (by kernel_rfl) (hS8.blk (i := 1) rfl) rfl rfl) ?_
          refine l_e rfl (fun K hK => ?_)
          refine e_call (by kernel_rfl) (scaled_ok b hbB hbn0 hbn1 (by first | assumption | omega) _) rfl (after_R hS8 (fun v146 w146 hv146 hS146 => ?_))
          clear hS8
          obtain ⟨m146, p146, q146, r146, s146, t146, rfl, hp146, hq146, hr146, hs146, ht146, hz146⟩ := hv146
          refine hK _ _ ?_; clear hK K
          refine l_e rfl (fun K hK => ?_)
          refine e_alloc (zv := .agg #[.bool false, .int .u64 0, .int .u64 0, .int .u64 0, .int .u64 0, .int .u64 0, .int .u64 0]) hS146 (by kernel_rfl) (fun b147 w147 (hS147 : St _ _ [.blk b147 (.cells #[.bool false, .int .u64 (0 : Int), .int .u64 (0 : Int), .int .u64 (0 : Int), .int .u64 (0 : Int), .int .u64 (0 : Int), .int .u64 (0 : Int)] 108), _, _, _] _) => ?_)
          clear hS146
          refine hK _ _ ?_; clear hK K
          refine l_e rfl (fun K hK => ?_)
          refine e_storeA hS147 rfl rfl (by kernel_rfl) (by repeat' (first | exact trivial | refine ⟨by first | rfl | assumption | exact one_if (by assumption), ?_⟩)) (i := 0) rfl rfl (fun w148 (hS148 : St _ _ [.blk b147 (.cells #[.bool m146, .int .u64 (p146 : Int), .int .u64 (q146 : Int), .int .u64 (r146 : Int), .int .u64 (s146 : Int), .int .u64 (t146 : Int), .int .u64 (0 : Int)] 108), _, _, _] _) => ?_)
          clear hS147
          refine hK _ _ ?_; clear hK K
          refine l_nil ?_
          refine hK145 _ _ ?_
          refine wp_seq_k (fun K149 hK149 => ?_)
          refine wp_region_lit ?_
          refine l_q rfl rfl (q_fieldAddr (ft := 4) (o := 0) rfl (by kernel_rfl)) ?_
          refine l_q rfl rfl (q_load1 rfl (by kernel_rfl) (hS148.cell (i := 0) rfl rfl)) ?_
          refine l_q rfl rfl (q_not rfl) ?_
          refine l_q rfl rfl (q_fieldAddr (ft := 4) (o := 0) rfl (by kernel_rfl)) ?_
          refine l_e rfl (fun K hK => ?_)
          refine e_store1 hS148 rfl rfl (by kernel_rfl) (by first | rfl | assumption) (i := 0) rfl rfl (fun w150 (hS150 : St _ _ [.blk b147 (.cells #[_, .int .u64 (p146 : Int), .int .u64 (q146 : Int), .int .u64 (r146 : Int), .int .u64 (s146 : Int), .int .u64 (t146 : Int), .int .u64 (0 : Int)] 108), _, _, _] _) => ?_)
          clear hS148
          refine hK _ _ ?_; clear hK K
          refine l_nil ?_
          refine hK149 _ _ ?_
          refine wp_seq_k (fun K151 hK151 => ?_)
          refine r_any (by kernel_rfl) hS150 (fun w152 hS152 => ?_)
          clear hS150
          refine o_held (i := 0) [1, 3, 4, 5, 6, 7] (fun _ _ => trivial) rfl rfl (by kernel_rfl) (goes0 rfl) (QOk.then (QOk.inBlock (QOk.then QOk.body))) (q_loadA (m := 3) rfl (by kernel_rfl) (by kernel_rfl) (hS152.blk (i := 3) rfl) rfl rfl) ?_
          refine o_held (i := 2) [3, 4, 5, 6, 7] (fun j w => ⟨(fun _ _ => trivial) j w, fun _ h => h⟩) rfl rfl (by kernel_rfl) (goes0 rfl) (QOk.then (QOk.inBlock (QOk.then QOk.body))) (q_loadA (m := 7) rfl (by kernel_rfl) (by kernel_rfl) (hS152.blk (i := 0) rfl) rfl rfl) ?_
          refine o_eff (i := 1) (by kernel_rfl) rfl (goes0 rfl) (fun K hK => ?_)
          refine e_call (by kernel_rfl) (scaled_ok a haB han0 han1 (by first | assumption | omega) _) rfl (after_R hS152 (fun v153 w153 hv153 hS153 => ?_))
          clear hS152
          obtain ⟨m153, p153, q153, r153, s153, t153, rfl, hp153, hq153, hr153, hs153, ht153, hz153⟩ := hv153
          refine hK _ _ ⟨⟨trivial, fun h => absurd h (by decide)⟩, fun _ _ => by first | exact q_loadA (m := 7) rfl (by kernel_rfl) (by kernel_rfl) (hS153.blk (i := 0) rfl) rfl rfl⟩ ?_; clear hK K
          refine o_eff (i := 3) (by kernel_rfl) rfl (goes0 rfl) (fun K hK => ?_)
          refine e_call (by kernel_rfl) (addQ_ok m153 (!m146) p153 q153 r153 s153 t153 0 p146 q146 r146 s146 t146 0 (by omega) (by omega) (by omega) (by omega) (by omega) (by omega) (by omega) (by omega) (by omega) (by omega) (by omega) (by omega) (by omega) (by omega) _) rfl (after_R hS153 (fun v154 w154 hv154 hS154 => ?_))
          clear hS153
          obtain ⟨m154, p154, q154, r154, s154, t154, u154, rfl, hp154, hq154, hr154, hs154, ht154, hu154, hz154⟩ := hv154
          refine hK _ _ ⟨⟨trivial, fun h => absurd h (by decide)⟩, fun h => absurd h (by decide)⟩ ?_; clear hK K
          refine o_eff (i := 4) (by kernel_rfl) rfl (goes0 rfl) (fun K hK => ?_)
          refine e_call (by kernel_rfl) (bsign_ok m154 p154 q154 r154 s154 t154 u154 _) rfl (after_R hS154 (fun v155 w155 hv155 hS155 => ?_))
          clear hS154
          obtain rfl := hv155
          have hsg : sgn (sv m154 (dv p154 q154 r154 s154 t154 u154)) = sgn (sclQ a - sclQ b) := by rw [hz154, sv_not, hz153, hz146]
          refine hK _ _ ⟨⟨trivial, fun h => absurd h (by decide)⟩, fun h => absurd h (by decide)⟩ ?_; clear hK K
          refine o_eff (i := 5) (by kernel_rfl) rfl (goes0 rfl) (fun K hK => ?_)
          refine e_call (by kernel_rfl) (fine_ok _) rfl (after_R hS155 (fun v156 w156 hv156 hS156 => ?_))
          clear hS155
          obtain rfl := hv156
          refine hK _ _ ⟨⟨trivial, fun h => absurd h (by decide)⟩, fun h => absurd h (by decide)⟩ ?_; clear hK K
          refine o_pure (i := 6) (fun j w => ⟨(fun j w => ⟨(fun _ _ => trivial) j w, fun _ h => h⟩) j w, fun _ h => h⟩) rfl rfl (by kernel_rfl) (goes0 rfl) (QOk.then (QOk.inBlock (QOk.then QOk.body))) (fun w => q_assignI rfl) ?_
          refine o_eff (i := 7) (by kernel_rfl) rfl (goes0 rfl) (fun K hK => ?_)
          refine e_storeA hS156 rfl rfl (by kernel_rfl) (by repeat' (first | exact trivial | refine ⟨by first | rfl | assumption | exact one_if (by assumption), ?_⟩)) (i := 1) rfl rfl (fun w157 (hS157 : St _ _ [_, _, _, _] _) => ?_)
          clear hS156
          refine hK _ _ ⟨⟨trivial, fun h => absurd h (by decide)⟩, fun h => absurd h (by decide)⟩ ?_; clear hK K
          refine o_done (by kernel_rfl) ?_
          refine hK151 _ _ ?_
          refine wp_ret ?_
          refine c_retTC (m := 2) rfl (by kernel_rfl) (by kernel_rfl) rfl (hS157.blk (i := 1) rfl) rfl rfl ?_
          rw [hsg]
          exact ⟨_, rfl, (by rw [sg_3 (no_or (by assumption) (by omega)) (no_or (by assumption) (by omega)) (by omega)]; rfl), hS157.drop⟩
         ·
          have hc144b := hc144
          try simp only [decide_eq_true_eq, decide_eq_false_iff_not, Bool.not_eq_true', Bool.not_eq_false', Bool.and_eq_true, Bool.or_eq_true, Int.not_lt, Int.not_le, ne_eq, Decidable.not_not] at hc144
          refine wp_skip ?_
          refine hK119 _ _ ?_
          refine wp_seq_k (fun K158 hK158 => ?_)
          refine wp_region_lit ?_
          refine l_q rfl rfl (q_loadA (m := 3) rfl (by kernel_rfl) (by kernel_rfl) (hS8.blk (i := 2) rfl) rfl rfl) ?_
          refine l_q rfl rfl (q_loadA (m := 3) rfl (by kernel_rfl) (by kernel_rfl) (hS8.blk (i := 1) rfl) rfl rfl) ?_
          refine l_e rfl (fun K hK => ?_)
          refine e_call (by kernel_rfl) (rorder_ok a b haB hbB _) rfl (after_R hS8 (fun v159 w159 hv159 hS159 => ?_))
          clear hS8
          obtain rfl := hv159
          refine hK _ _ ?_; clear hK K
          refine l_e rfl (fun K hK => ?_)
          refine e_call (by kernel_rfl) (fine_ok _) rfl (after_R hS159 (fun v160 w160 hv160 hS160 => ?_))
          clear hS159
          obtain rfl := hv160
          refine hK _ _ ?_; clear hK K
          refine l_q rfl rfl (q_assignI rfl) ?_
          refine l_e rfl (fun K hK => ?_)
          refine e_storeA hS160 rfl rfl (by kernel_rfl) (by repeat' (first | exact trivial | refine ⟨by first | rfl | assumption | exact one_if (by assumption), ?_⟩)) (i := 0) rfl rfl (fun w161 (hS161 : St _ _ [_, _, _] _) => ?_)
          clear hS160
          refine hK _ _ ?_; clear hK K
          refine l_nil ?_
          refine hK158 _ _ ?_
          refine wp_ret ?_
          refine c_retTC (m := 2) rfl (by kernel_rfl) (by kernel_rfl) rfl (hS161.blk (i := 0) rfl) rfl rfl ?_
          exact ⟨_, rfl, (by rw [sg_4 (no_or (by assumption) (by omega)) (no_or (by assumption) (by omega)) (by omega)]; rfl), hS161.drop⟩
       ·
        have hg137b := hg137
        try simp only [decide_eq_true_eq, decide_eq_false_iff_not, Bool.not_eq_true', Bool.not_eq_false', Bool.and_eq_true, Bool.or_eq_true, Int.not_lt, Int.not_le, ne_eq, Decidable.not_not] at hg137
        refine l_off rfl rfl rfl hg137b ?_
        refine l_off rfl rfl rfl hg137b ?_
        refine l_off rfl rfl rfl hg137b ?_
        refine l_offN rfl rfl rfl ?_
        refine l_offN rfl rfl rfl ?_
        refine l_off rfl rfl rfl hg137b ?_
        refine l_on rfl rfl hg133b ?_
        refine l_q rfl rfl (q_pickF rfl hg137b rfl) ?_
        refine l_q rfl rfl (q_pickF rfl hg133b rfl) ?_
        refine l_q rfl rfl (q_assignB rfl) ?_
        refine l_nil ?_
        refine hK128 _ _ ?_
        refine c_condF rfl rfl ?_
        refine wp_seq_k (fun K163 hK163 => ?_)
        refine wp_region_lit ?_
        refine l_q rfl rfl (q_moveB rfl) ?_
        refine l_q rfl rfl (q_assignB rfl) ?_
        refine l_nil ?_
        refine hK163 _ _ ?_
        refine c_cond rfl (fun hc164 => ?_) (fun hc164 => ?_)
        ·
         have hc164b := hc164
         try simp only [decide_eq_true_eq, decide_eq_false_iff_not, Bool.not_eq_true', Bool.not_eq_false', Bool.and_eq_true, Bool.or_eq_true, Int.not_lt, Int.not_le, ne_eq, Decidable.not_not] at hc164
         refine wp_seq_k (fun K165 hK165 => ?_)
         refine wp_region_lit ?_
         refine l_q rfl rfl (q_loadA (m := 3) rfl (by kernel_rfl) (by kernel_rfl) (hS8.blk (i := 1) rfl) rfl rfl) ?_
         refine l_e rfl (fun K hK => ?_)
         refine e_call (by kernel_rfl) (scaled_ok b hbB hbn0 hbn1 (by first | assumption | omega) _) rfl (after_R hS8 (fun v166 w166 hv166 hS166 => ?_))
         clear hS8
         obtain ⟨m166, p166, q166, r166, s166, t166, rfl, hp166, hq166, hr166, hs166, ht166, hz166⟩ := hv166
         refine hK _ _ ?_; clear hK K
         refine l_e rfl (fun K hK => ?_)
         refine e_alloc (zv := .agg #[.bool false, .int .u64 0, .int .u64 0, .int .u64 0, .int .u64 0, .int .u64 0, .int .u64 0]) hS166 (by kernel_rfl) (fun b167 w167 (hS167 : St _ _ [.blk b167 (.cells #[.bool false, .int .u64 (0 : Int), .int .u64 (0 : Int), .int .u64 (0 : Int), .int .u64 (0 : Int), .int .u64 (0 : Int), .int .u64 (0 : Int)] 108), _, _, _] _) => ?_)
         clear hS166
         refine hK _ _ ?_; clear hK K
         refine l_e rfl (fun K hK => ?_)
         refine e_storeA hS167 rfl rfl (by kernel_rfl) (by repeat' (first | exact trivial | refine ⟨by first | rfl | assumption | exact one_if (by assumption), ?_⟩)) (i := 0) rfl rfl (fun w168 (hS168 : St _ _ [.blk b167 (.cells #[.bool m166, .int .u64 (p166 : Int), .int .u64 (q166 : Int), .int .u64 (r166 : Int), .int .u64 (s166 : Int), .int .u64 (t166 : Int), .int .u64 (0 : Int)] 108), _, _, _] _) => ?_)
         clear hS167
         refine hK _ _ ?_; clear hK K
         refine l_nil ?_
         refine hK165 _ _ ?_
         refine wp_seq_k (fun K169 hK169 => ?_)
         refine wp_region_lit ?_
         refine l_q rfl rfl (q_fieldAddr (ft := 4) (o := 0) rfl (by kernel_rfl)) ?_
         refine l_q rfl rfl (q_load1 rfl (by kernel_rfl) (hS168.cell (i := 0) rfl rfl)) ?_
         refine l_q rfl rfl (q_not rfl) ?_
         refine l_q rfl rfl (q_fieldAddr (ft := 4) (o := 0) rfl (by kernel_rfl)) ?_
         refine l_e rfl (fun K hK => ?_)
         refine e_store1 hS168 rfl rfl (by kernel_rfl) (by first | rfl | assumption) (i := 0) rfl rfl (fun w170 (hS170 : St _ _ [.blk b167 (.cells #[_, .int .u64 (p166 : Int), .int .u64 (q166 : Int), .int .u64 (r166 : Int), .int .u64 (s166 : Int), .int .u64 (t166 : Int), .int .u64 (0 : Int)] 108), _, _, _] _) => ?_)
         clear hS168
         refine hK _ _ ?_; clear hK K
         refine l_nil ?_
         refine hK169 _ _ ?_
         refine wp_seq_k (fun K171 hK171 => ?_)
         refine r_any (by kernel_rfl) hS170 (fun w172 hS172 => ?_)
         clear hS170
         refine o_held (i := 0) [1, 3, 4, 5, 6, 7] (fun _ _ => trivial) rfl rfl (by kernel_rfl) (goes0 rfl) (QOk.then (QOk.inBlock (QOk.then QOk.body))) (q_loadA (m := 3) rfl (by kernel_rfl) (by kernel_rfl) (hS172.blk (i := 3) rfl) rfl rfl) ?_
         refine o_held (i := 2) [3, 4, 5, 6, 7] (fun j w => ⟨(fun _ _ => trivial) j w, fun _ h => h⟩) rfl rfl (by kernel_rfl) (goes0 rfl) (QOk.then (QOk.inBlock (QOk.then QOk.body))) (q_loadA (m := 7) rfl (by kernel_rfl) (by kernel_rfl) (hS172.blk (i := 0) rfl) rfl rfl) ?_
         refine o_eff (i := 1) (by kernel_rfl) rfl (goes0 rfl) (fun K hK => ?_)
         refine e_call (by kernel_rfl) (scaled_ok a haB han0 han1 (by first | assumption | omega) _) rfl (after_R hS172 (fun v173 w173 hv173 hS173 => ?_))
         clear hS172
         obtain ⟨m173, p173, q173, r173, s173, t173, rfl, hp173, hq173, hr173, hs173, ht173, hz173⟩ := hv173
         refine hK _ _ ⟨⟨trivial, fun h => absurd h (by decide)⟩, fun _ _ => by first | exact q_loadA (m := 7) rfl (by kernel_rfl) (by kernel_rfl) (hS173.blk (i := 0) rfl) rfl rfl⟩ ?_; clear hK K
         refine o_eff (i := 3) (by kernel_rfl) rfl (goes0 rfl) (fun K hK => ?_)
         refine e_call (by kernel_rfl) (addQ_ok m173 (!m166) p173 q173 r173 s173 t173 0 p166 q166 r166 s166 t166 0 (by omega) (by omega) (by omega) (by omega) (by omega) (by omega) (by omega) (by omega) (by omega) (by omega) (by omega) (by omega) (by omega) (by omega) _) rfl (after_R hS173 (fun v174 w174 hv174 hS174 => ?_))
         clear hS173
         obtain ⟨m174, p174, q174, r174, s174, t174, u174, rfl, hp174, hq174, hr174, hs174, ht174, hu174, hz174⟩ := hv174
         refine hK _ _ ⟨⟨trivial, fun h => absurd h (by decide)⟩, fun h => absurd h (by decide)⟩ ?_; clear hK K
         refine o_eff (i := 4) (by kernel_rfl) rfl (goes0 rfl) (fun K hK => ?_)
         refine e_call (by kernel_rfl) (bsign_ok m174 p174 q174 r174 s174 t174 u174 _) rfl (after_R hS174 (fun v175 w175 hv175 hS175 => ?_))
         clear hS174
         obtain rfl := hv175
         have hsg : sgn (sv m174 (dv p174 q174 r174 s174 t174 u174)) = sgn (sclQ a - sclQ b) := by rw [hz174, sv_not, hz173, hz166]
         refine hK _ _ ⟨⟨trivial, fun h => absurd h (by decide)⟩, fun h => absurd h (by decide)⟩ ?_; clear hK K
         refine o_eff (i := 5) (by kernel_rfl) rfl (goes0 rfl) (fun K hK => ?_)
         refine e_call (by kernel_rfl) (fine_ok _) rfl (after_R hS175 (fun v176 w176 hv176 hS176 => ?_))
         clear hS175
         obtain rfl := hv176
         refine hK _ _ ⟨⟨trivial, fun h => absurd h (by decide)⟩, fun h => absurd h (by decide)⟩ ?_; clear hK K
         refine o_pure (i := 6) (fun j w => ⟨(fun j w => ⟨(fun _ _ => trivial) j w, fun _ h => h⟩) j w, fun _ h => h⟩) rfl rfl (by kernel_rfl) (goes0 rfl) (QOk.then (QOk.inBlock (QOk.then QOk.body))) (fun w => q_assignI rfl) ?_
         refine o_eff (i := 7) (by kernel_rfl) rfl (goes0 rfl) (fun K hK => ?_)
         refine e_storeA hS176 rfl rfl (by kernel_rfl) (by repeat' (first | exact trivial | refine ⟨by first | rfl | assumption | exact one_if (by assumption), ?_⟩)) (i := 1) rfl rfl (fun w177 (hS177 : St _ _ [_, _, _, _] _) => ?_)
         clear hS176
         refine hK _ _ ⟨⟨trivial, fun h => absurd h (by decide)⟩, fun h => absurd h (by decide)⟩ ?_; clear hK K
         refine o_done (by kernel_rfl) ?_
         refine hK171 _ _ ?_
         refine wp_ret ?_
         refine c_retTC (m := 2) rfl (by kernel_rfl) (by kernel_rfl) rfl (hS177.blk (i := 1) rfl) rfl rfl ?_
         rw [hsg]
         exact ⟨_, rfl, (by rw [sg_3 (no_or (by assumption) (by omega)) (no_or (by assumption) (by omega)) (by omega)]; rfl), hS177.drop⟩
        ·
         have hc164b := hc164
         try simp only [decide_eq_true_eq, decide_eq_false_iff_not, Bool.not_eq_true', Bool.not_eq_false', Bool.and_eq_true, Bool.or_eq_true, Int.not_lt, Int.not_le, ne_eq, Decidable.not_not] at hc164
         refine wp_skip ?_
         refine hK119 _ _ ?_
         refine wp_seq_k (fun K178 hK178 => ?_)
         refine wp_region_lit ?_
         refine l_q rfl rfl (q_loadA (m := 3) rfl (by kernel_rfl) (by kernel_rfl) (hS8.blk (i := 2) rfl) rfl rfl) ?_
         refine l_q rfl rfl (q_loadA (m := 3) rfl (by kernel_rfl) (by kernel_rfl) (hS8.blk (i := 1) rfl) rfl rfl) ?_
         refine l_e rfl (fun K hK => ?_)
         refine e_call (by kernel_rfl) (rorder_ok a b haB hbB _) rfl (after_R hS8 (fun v179 w179 hv179 hS179 => ?_))
         clear hS8
         obtain rfl := hv179
         refine hK _ _ ?_; clear hK K
         refine l_e rfl (fun K hK => ?_)
         refine e_call (by kernel_rfl) (fine_ok _) rfl (after_R hS179 (fun v180 w180 hv180 hS180 => ?_))
         clear hS179
         obtain rfl := hv180
         refine hK _ _ ?_; clear hK K
         refine l_q rfl rfl (q_assignI rfl) ?_
         refine l_e rfl (fun K hK => ?_)
         refine e_storeA hS180 rfl rfl (by kernel_rfl) (by repeat' (first | exact trivial | refine ⟨by first | rfl | assumption | exact one_if (by assumption), ?_⟩)) (i := 0) rfl rfl (fun w181 (hS181 : St _ _ [_, _, _] _) => ?_)
         clear hS180
         refine hK _ _ ?_; clear hK K
         refine l_nil ?_
         refine hK178 _ _ ?_
         refine wp_ret ?_
         refine c_retTC (m := 2) rfl (by kernel_rfl) (by kernel_rfl) rfl (hS181.blk (i := 0) rfl) rfl rfl ?_
         exact ⟨_, rfl, (by rw [sg_4 (no_or (by assumption) (by omega)) (no_or (by assumption) (by omega)) (by omega)]; rfl), hS181.drop⟩
  ·
   have hg118b := hg118
   try simp only [decide_eq_true_eq, decide_eq_false_iff_not, Bool.not_eq_true', Bool.not_eq_false', Bool.and_eq_true, Bool.or_eq_true, Int.not_lt, Int.not_le, ne_eq, Decidable.not_not] at hg118
   refine l_on rfl rfl hg118b ?_
   refine l_q rfl rfl (q_fieldAddr (ft := 49) (o := 0) rfl (by kernel_rfl)) ?_
   refine l_on rfl rfl hg118b ?_
   refine l_q rfl rfl (q_load1 rfl (by kernel_rfl) (hS8.cell (i := 1) rfl rfl)) ?_
   refine l_on rfl rfl hg118b ?_
   refine l_q rfl rfl (q_eql rfl rfl) ?_
   refine l_q rfl rfl (q_pickF rfl hg118b rfl) ?_
   refine l_q rfl rfl (q_assignB rfl) ?_
   refine l_nil ?_
   refine hK117 _ _ ?_
   refine wp_seq_k (fun K182 hK182 => ?_)
   refine wp_block ?_
   refine wp_seq_k (fun K183 hK183 => ?_)
   refine wp_region_lit ?_
   refine l_q rfl rfl (q_moveB rfl) ?_
   refine l_q rfl rfl (q_not rfl) ?_
   refine l_q rfl rfl (q_moveB rfl) ?_
   refine g_splitL (t := 34) rfl (fun hg184 => ?_) (fun hg184 => ?_)
   ·
    have hg184b := hg184
    try simp only [decide_eq_true_eq, decide_eq_false_iff_not, Bool.not_eq_true', Bool.not_eq_false', Bool.and_eq_true, Bool.or_eq_true, Int.not_lt, Int.not_le, ne_eq, Decidable.not_not] at hg184
    refine l_off rfl rfl rfl hg184b ?_
    refine l_off rfl rfl rfl hg184b ?_
    refine l_off rfl rfl rfl hg184b ?_
    refine l_q rfl rfl (q_pickT rfl hg184b rfl) ?_
    refine l_q rfl rfl (q_assignB rfl) ?_
    refine l_nil ?_
    refine hK183 _ _ ?_
    refine c_condT rfl rfl ?_
    refine wp_seq_k (fun K186 hK186 => ?_)
    refine wp_region_lit ?_
    refine l_q rfl rfl (q_build (ps := [(0, 1), (1, 1)]) (zv := .agg #[.int .i64 0, .int .i64 0]) (by kernel_rfl) (by kernel_rfl) rfl (by repeat' (first | exact trivial | refine ⟨fun _ => by first | rfl | assumption | exact one_if (by assumption), ?_⟩ | refine ⟨fun ⟨_, h⟩ => by simp at h, ?_⟩)) rfl) ?_
    refine l_q rfl rfl (q_assignI rfl) ?_
    refine l_e rfl (fun K hK => ?_)
    refine e_storeA hS8 rfl rfl (by kernel_rfl) (by repeat' (first | exact trivial | refine ⟨by first | rfl | assumption | exact one_if (by assumption), ?_⟩)) (i := 0) rfl rfl (fun w187 (hS187 : St _ _ [_, _, _] _) => ?_)
    clear hS8
    refine hK _ _ ?_; clear hK K
    refine l_nil ?_
    refine hK186 _ _ ?_
    refine wp_ret ?_
    refine c_retTC (m := 2) rfl (by kernel_rfl) (by kernel_rfl) rfl (hS187.blk (i := 0) rfl) rfl rfl ?_
    exact ⟨_, rfl, (by rw [sg_1 (by first | exact .inl (by assumption) | exact .inr (by omega))]; rfl), hS187.drop⟩
   ·
    have hg184b := hg184
    try simp only [decide_eq_true_eq, decide_eq_false_iff_not, Bool.not_eq_true', Bool.not_eq_false', Bool.and_eq_true, Bool.or_eq_true, Int.not_lt, Int.not_le, ne_eq, Decidable.not_not] at hg184
    refine l_on rfl rfl hg184b ?_
    refine l_q rfl rfl (q_fieldAddr (ft := 49) (o := 0) rfl (by kernel_rfl)) ?_
    refine l_on rfl rfl hg184b ?_
    refine l_q rfl rfl (q_load1 rfl (by kernel_rfl) (hS8.cell (i := 2) rfl rfl)) ?_
    refine l_on rfl rfl hg184b ?_
    refine l_q rfl rfl (q_eql rfl rfl) ?_
    refine l_q rfl rfl (q_pickF rfl hg184b rfl) ?_
    refine l_q rfl rfl (q_assignB rfl) ?_
    refine l_nil ?_
    refine hK183 _ _ ?_
    refine c_cond rfl (fun hc188 => ?_) (fun hc188 => ?_)
    ·
     have hc188b := hc188
     try simp only [decide_eq_true_eq, decide_eq_false_iff_not, Bool.not_eq_true', Bool.not_eq_false', Bool.and_eq_true, Bool.or_eq_true, Int.not_lt, Int.not_le, ne_eq, Decidable.not_not] at hc188
     refine wp_seq_k (fun K189 hK189 => ?_)
     refine wp_region_lit ?_
     refine l_q rfl rfl (q_build (ps := [(0, 1), (1, 1)]) (zv := .agg #[.int .i64 0, .int .i64 0]) (by kernel_rfl) (by kernel_rfl) rfl (by repeat' (first | exact trivial | refine ⟨fun _ => by first | rfl | assumption | exact one_if (by assumption), ?_⟩ | refine ⟨fun ⟨_, h⟩ => by simp at h, ?_⟩)) rfl) ?_
     refine l_q rfl rfl (q_assignI rfl) ?_
     refine l_e rfl (fun K hK => ?_)
     refine e_storeA hS8 rfl rfl (by kernel_rfl) (by repeat' (first | exact trivial | refine ⟨by first | rfl | assumption | exact one_if (by assumption), ?_⟩)) (i := 0) rfl rfl (fun w190 (hS190 : St _ _ [_, _, _] _) => ?_)
     clear hS8
     refine hK _ _ ?_; clear hK K
     refine l_nil ?_
     refine hK189 _ _ ?_
     refine wp_ret ?_
     refine c_retTC (m := 2) rfl (by kernel_rfl) (by kernel_rfl) rfl (hS190.blk (i := 0) rfl) rfl rfl ?_
     exact ⟨_, rfl, (by rw [sg_1 (by first | exact .inl (by assumption) | exact .inr (by omega))]; rfl), hS190.drop⟩
    ·
     have hc188b := hc188
     try simp only [decide_eq_true_eq, decide_eq_false_iff_not, Bool.not_eq_true', Bool.not_eq_false', Bool.and_eq_true, Bool.or_eq_true, Int.not_lt, Int.not_le, ne_eq, Decidable.not_not] at hc188
     refine wp_seq_k (fun K191 hK191 => ?_)
     refine wp_region_lit ?_
     refine l_q rfl rfl (q_moveB rfl) ?_
     refine l_q rfl rfl (q_not rfl) ?_
     refine l_q rfl rfl (q_moveB rfl) ?_
     refine g_splitL (t := 43) rfl (fun hg192 => ?_) (fun hg192 => ?_)
     ·
      have hg192b := hg192
      try simp only [decide_eq_true_eq, decide_eq_false_iff_not, Bool.not_eq_true', Bool.not_eq_false', Bool.and_eq_true, Bool.or_eq_true, Int.not_lt, Int.not_le, ne_eq, Decidable.not_not] at hg192
      refine l_off rfl rfl rfl hg192b ?_
      refine l_off rfl rfl rfl hg192b ?_
      refine l_off rfl rfl rfl hg192b ?_
      refine l_q rfl rfl (q_pickT rfl hg192b rfl) ?_
      refine l_q rfl rfl (q_moveB rfl) ?_
      refine l_off rfl rfl rfl rfl ?_
      refine l_off rfl rfl rfl rfl ?_
      refine l_off rfl rfl rfl rfl ?_
      refine l_off rfl rfl rfl rfl ?_
      refine l_off rfl rfl rfl rfl ?_
      refine l_off rfl rfl rfl rfl ?_
      refine l_offN rfl rfl rfl ?_
      refine l_offN rfl rfl rfl ?_
      refine l_offN rfl rfl rfl ?_
      refine l_offN rfl rfl rfl ?_
      refine l_offN rfl rfl rfl ?_
      refine l_offN rfl rfl rfl ?_
      refine l_off rfl rfl rfl rfl ?_
      refine l_q rfl rfl (q_pickT rfl rfl rfl) ?_
      refine l_q rfl rfl (q_assignB rfl) ?_
      refine l_nil ?_
      refine hK191 _ _ ?_
      refine c_condT rfl rfl ?_
      refine wp_seq_k (fun K194 hK194 => ?_)
      refine wp_region_lit ?_
      refine l_q rfl rfl (q_build (ps := [(0, 1), (1, 1)]) (zv := .agg #[.int .i64 0, .int .i64 0]) (by kernel_rfl) (by kernel_rfl) rfl (by repeat' (first | exact trivial | refine ⟨fun _ => by first | rfl | assumption | exact one_if (by assumption), ?_⟩ | refine ⟨fun ⟨_, h⟩ => by simp at h, ?_⟩)) rfl) ?_
      refine l_q rfl rfl (q_assignI rfl) ?_
      refine l_e rfl (fun K hK => ?_)
      refine e_storeA hS8 rfl rfl (by kernel_rfl) (by repeat' (first | exact trivial | refine ⟨by first | rfl | assumption | exact one_if (by assumption), ?_⟩)) (i := 0) rfl rfl (fun w195 (hS195 : St _ _ [_, _, _] _) => ?_)
      clear hS8
      refine hK _ _ ?_; clear hK K
      refine l_nil ?_
      refine hK194 _ _ ?_
      refine wp_ret ?_
      refine c_retTC (m := 2) rfl (by kernel_rfl) (by kernel_rfl) rfl (hS195.blk (i := 0) rfl) rfl rfl ?_
      exact ⟨_, rfl, (by rw [sg_2 (no_or (by assumption) (by omega)) (by first | exact .inl (by assumption) | exact .inr (by omega))]; rfl), hS195.drop⟩
     ·
      have hg192b := hg192
      try simp only [decide_eq_true_eq, decide_eq_false_iff_not, Bool.not_eq_true', Bool.not_eq_false', Bool.and_eq_true, Bool.or_eq_true, Int.not_lt, Int.not_le, ne_eq, Decidable.not_not] at hg192
      refine l_on rfl rfl hg192b ?_
      refine l_q rfl rfl (q_fieldAddr (ft := 49) (o := 0) rfl (by kernel_rfl)) ?_
      refine l_on rfl rfl hg192b ?_
      refine l_q rfl rfl (q_load1 rfl (by kernel_rfl) (hS8.cell (i := 1) rfl rfl)) ?_
      refine l_on rfl rfl hg192b ?_
      refine l_q rfl rfl (q_eql rfl rfl) ?_
      refine l_q rfl rfl (q_pickF rfl hg192b rfl) ?_
      refine l_q rfl rfl (q_moveB rfl) ?_
      refine g_splitL (t := 48) rfl (fun hg196 => ?_) (fun hg196 => ?_)
      ·
       have hg196b := hg196
       try simp only [decide_eq_true_eq, decide_eq_false_iff_not, Bool.not_eq_true', Bool.not_eq_false', Bool.and_eq_true, Bool.or_eq_true, Int.not_lt, Int.not_le, ne_eq, Decidable.not_not] at hg196
       refine l_off rfl rfl rfl hg196b ?_
       refine l_off rfl rfl rfl hg196b ?_
       refine l_off rfl rfl rfl hg196b ?_
       refine l_off rfl rfl rfl hg196b ?_
       refine l_off rfl rfl rfl hg196b ?_
       refine l_off rfl rfl rfl hg196b ?_
       refine l_offN rfl rfl rfl ?_
       refine l_offN rfl rfl rfl ?_
       refine l_offN rfl rfl rfl ?_
       refine l_offN rfl rfl rfl ?_
       refine l_offN rfl rfl rfl ?_
       refine l_offN rfl rfl rfl ?_
       refine l_off rfl rfl rfl hg196b ?_
       refine l_q rfl rfl (q_pickT rfl hg196b rfl) ?_
       refine l_q rfl rfl (q_assignB rfl) ?_
       refine l_nil ?_
       refine hK191 _ _ ?_
       refine c_condT rfl rfl ?_
       refine wp_seq_k (fun K198 hK198 => ?_)
       refine wp_region_lit ?_
       refine l_q rfl rfl (q_build (ps := [(0, 1), (1, 1)]) (zv := .agg #[.int .i64 0, .int .i64 0]) (by kernel_rfl) (by kernel_rfl) rfl (by repeat' (first | exact trivial | refine ⟨fun _ => by first | rfl | assumption | exact one_if (by assumption), ?_⟩ | refine ⟨fun ⟨_, h⟩ => by simp at h, ?_⟩)) rfl) ?_
       refine l_q rfl rfl (q_assignI rfl) ?_
       refine l_e rfl (fun K hK => ?_)
       refine e_storeA hS8 rfl rfl (by kernel_rfl) (by repeat' (first | exact trivial | refine ⟨by first | rfl | assumption | exact one_if (by assumption), ?_⟩)) (i := 0) rfl rfl (fun w199 (hS199 : St _ _ [_, _, _] _) => ?_)
       clear hS8
       refine hK _ _ ?_; clear hK K
       refine l_nil ?_
       refine hK198 _ _ ?_
       refine wp_ret ?_
       refine c_retTC (m := 2) rfl (by kernel_rfl) (by kernel_rfl) rfl (hS199.blk (i := 0) rfl) rfl rfl ?_
       exact ⟨_, rfl, (by rw [sg_2 (no_or (by assumption) (by omega)) (by first | exact .inl (by assumption) | exact .inr (by omega))]; rfl), hS199.drop⟩
      ·
       have hg196b := hg196
       try simp only [decide_eq_true_eq, decide_eq_false_iff_not, Bool.not_eq_true', Bool.not_eq_false', Bool.and_eq_true, Bool.or_eq_true, Int.not_lt, Int.not_le, ne_eq, Decidable.not_not] at hg196
       refine l_on rfl rfl hg196b ?_
       refine l_q rfl rfl (q_fieldAddr (ft := 49) (o := 0) rfl (by kernel_rfl)) ?_
       refine l_on rfl rfl hg196b ?_
       refine l_q rfl rfl (q_load1 rfl (by kernel_rfl) (hS8.cell (i := 2) rfl rfl)) ?_
       refine l_on rfl rfl hg196b ?_
       refine l_q rfl rfl (q_fieldAddr (ft := 49) (o := 0) rfl (by kernel_rfl)) ?_
       refine l_on rfl rfl hg196b ?_
       refine l_q rfl rfl (q_load1 rfl (by kernel_rfl) (hS8.cell (i := 1) rfl rfl)) ?_
       refine l_on rfl rfl hg196b ?_
       refine l_q rfl rfl (q_neq rfl rfl) ?_
       refine l_on rfl rfl hg196b ?_
       refine l_q rfl rfl (q_moveB rfl) ?_
       refine g_splitL (t := 54) rfl (fun hg200 => ?_) (fun hg200 => ?_)
       ·
        have hg200b := hg200
        try simp only [decide_eq_true_eq, decide_eq_false_iff_not, Bool.not_eq_true', Bool.not_eq_false', Bool.and_eq_true, Bool.or_eq_true, Int.not_lt, Int.not_le, ne_eq, Decidable.not_not] at hg200
        refine l_on rfl rfl hg200b ?_
        refine l_q rfl rfl (q_moveB rfl) ?_
        refine l_on rfl rfl hg200b ?_
        refine l_q rfl rfl (q_not rfl) ?_
        refine l_on rfl rfl hg200b ?_
        refine l_q rfl rfl (q_moveB rfl) ?_
        refine g_splitL (t := 57) rfl (fun hg201 => ?_) (fun hg201 => ?_)
        ·
         have hg201b := hg201
         try simp only [decide_eq_true_eq, decide_eq_false_iff_not, Bool.not_eq_true', Bool.not_eq_false', Bool.and_eq_true, Bool.or_eq_true, Int.not_lt, Int.not_le, ne_eq, Decidable.not_not] at hg201
         refine l_off rfl rfl rfl hg201b ?_
         refine l_off rfl rfl rfl hg201b ?_
         refine l_on rfl rfl hg200b ?_
         refine l_q rfl rfl (q_pickT rfl hg201b rfl) ?_
         refine l_on rfl rfl hg196b ?_
         refine l_q rfl rfl (q_pickT rfl hg200b rfl) ?_
         refine l_q rfl rfl (q_pickF rfl hg196b rfl) ?_
         refine l_q rfl rfl (q_assignB rfl) ?_
         refine l_nil ?_
         refine hK191 _ _ ?_
         refine c_condT rfl rfl ?_
         refine wp_seq_k (fun K203 hK203 => ?_)
         refine wp_region_lit ?_
         refine l_q rfl rfl (q_build (ps := [(0, 1), (1, 1)]) (zv := .agg #[.int .i64 0, .int .i64 0]) (by kernel_rfl) (by kernel_rfl) rfl (by repeat' (first | exact trivial | refine ⟨fun _ => by first | rfl | assumption | exact one_if (by assumption), ?_⟩ | refine ⟨fun ⟨_, h⟩ => by simp at h, ?_⟩)) rfl) ?_
         refine l_q rfl rfl (q_assignI rfl) ?_
         refine l_e rfl (fun K hK => ?_)
         refine e_storeA hS8 rfl rfl (by kernel_rfl) (by repeat' (first | exact trivial | refine ⟨by first | rfl | assumption | exact one_if (by assumption), ?_⟩)) (i := 0) rfl rfl (fun w204 (hS204 : St _ _ [_, _, _] _) => ?_)
         clear hS8
         refine hK _ _ ?_; clear hK K
         refine l_nil ?_
         refine hK203 _ _ ?_
         refine wp_ret ?_
         refine c_retTC (m := 2) rfl (by kernel_rfl) (by kernel_rfl) rfl (hS204.blk (i := 0) rfl) rfl rfl ?_
         exact ⟨_, rfl, (by rw [sg_2 (no_or (by assumption) (by omega)) (by first | exact .inl (by assumption) | exact .inr (by omega))]; rfl), hS204.drop⟩
        ·
         have hg201b := hg201
         try simp only [decide_eq_true_eq, decide_eq_false_iff_not, Bool.not_eq_true', Bool.not_eq_false', Bool.and_eq_true, Bool.or_eq_true, Int.not_lt, Int.not_le, ne_eq, Decidable.not_not] at hg201
         refine l_on rfl rfl hg201b ?_
         refine l_q rfl rfl (q_moveB rfl) ?_
         refine l_on rfl rfl hg201b ?_
         refine l_q rfl rfl (q_not rfl) ?_
         refine l_on rfl rfl hg200b ?_
         refine l_q rfl rfl (q_pickF rfl hg201b rfl) ?_
         refine l_on rfl rfl hg196b ?_
         refine l_q rfl rfl (q_pickT rfl hg200b rfl) ?_
         refine l_q rfl rfl (q_pickF rfl hg196b rfl) ?_
         refine l_q rfl rfl (q_assignB rfl) ?_
         refine l_nil ?_
         refine hK191 _ _ ?_
         refine c_cond rfl (fun hc205 => ?_) (fun hc205 => ?_)
         ·
          have hc205b := hc205
          try simp only [decide_eq_true_eq, decide_eq_false_iff_not, Bool.not_eq_true', Bool.not_eq_false', Bool.and_eq_true, Bool.or_eq_true, Int.not_lt, Int.not_le, ne_eq, Decidable.not_not] at hc205
          refine wp_seq_k (fun K206 hK206 => ?_)
          refine wp_region_lit ?_
          refine l_q rfl rfl (q_build (ps := [(0, 1), (1, 1)]) (zv := .agg #[.int .i64 0, .int .i64 0]) (by kernel_rfl) (by kernel_rfl) rfl (by repeat' (first | exact trivial | refine ⟨fun _ => by first | rfl | assumption | exact one_if (by assumption), ?_⟩ | refine ⟨fun ⟨_, h⟩ => by simp at h, ?_⟩)) rfl) ?_
          refine l_q rfl rfl (q_assignI rfl) ?_
          refine l_e rfl (fun K hK => ?_)
          refine e_storeA hS8 rfl rfl (by kernel_rfl) (by repeat' (first | exact trivial | refine ⟨by first | rfl | assumption | exact one_if (by assumption), ?_⟩)) (i := 0) rfl rfl (fun w207 (hS207 : St _ _ [_, _, _] _) => ?_)
          clear hS8
          refine hK _ _ ?_; clear hK K
          refine l_nil ?_
          refine hK206 _ _ ?_
          refine wp_ret ?_
          refine c_retTC (m := 2) rfl (by kernel_rfl) (by kernel_rfl) rfl (hS207.blk (i := 0) rfl) rfl rfl ?_
          exact ⟨_, rfl, (by rw [sg_2 (no_or (by assumption) (by omega)) (by first | exact .inl (by assumption) | exact .inr (by omega))]; rfl), hS207.drop⟩
         ·
          have hc205b := hc205
          try simp only [decide_eq_true_eq, decide_eq_false_iff_not, Bool.not_eq_true', Bool.not_eq_false', Bool.and_eq_true, Bool.or_eq_true, Int.not_lt, Int.not_le, ne_eq, Decidable.not_not] at hc205
          refine wp_seq_k (fun K208 hK208 => ?_)
          refine wp_region_lit ?_
          refine l_q rfl rfl (q_moveB rfl) ?_
          refine l_q rfl rfl (q_assignB rfl) ?_
          refine l_nil ?_
          refine hK208 _ _ ?_
          refine c_cond rfl (fun hc209 => ?_) (fun hc209 => ?_)
          ·
           have hc209b := hc209
           try simp only [decide_eq_true_eq, decide_eq_false_iff_not, Bool.not_eq_true', Bool.not_eq_false', Bool.and_eq_true, Bool.or_eq_true, Int.not_lt, Int.not_le, ne_eq, Decidable.not_not] at hc209
           refine wp_seq_k (fun K210 hK210 => ?_)
           refine wp_region_lit ?_
           refine l_q rfl rfl (q_loadA (m := 3) rfl (by kernel_rfl) (by kernel_rfl) (hS8.blk (i := 1) rfl) rfl rfl) ?_
           refine l_e rfl (fun K hK => ?_)
           refine e_call (by kernel_rfl) (scaled_ok b hbB hbn0 hbn1 (by first | assumption | omega) _) rfl (after_R hS8 (fun v211 w211 hv211 hS211 => ?_))
           clear hS8
           obtain ⟨m211, p211, q211, r211, s211, t211, rfl, hp211, hq211, hr211, hs211, ht211, hz211⟩ := hv211
           refine hK _ _ ?_; clear hK K
           refine l_e rfl (fun K hK => ?_)
           refine e_alloc (zv := .agg #[.bool false, .int .u64 0, .int .u64 0, .int .u64 0, .int .u64 0, .int .u64 0, .int .u64 0]) hS211 (by kernel_rfl) (fun b212 w212 (hS212 : St _ _ [.blk b212 (.cells #[.bool false, .int .u64 (0 : Int), .int .u64 (0 : Int), .int .u64 (0 : Int), .int .u64 (0 : Int), .int .u64 (0 : Int), .int .u64 (0 : Int)] 108), _, _, _] _) => ?_)
           clear hS211
           refine hK _ _ ?_; clear hK K
           refine l_e rfl (fun K hK => ?_)
           refine e_storeA hS212 rfl rfl (by kernel_rfl) (by repeat' (first | exact trivial | refine ⟨by first | rfl | assumption | exact one_if (by assumption), ?_⟩)) (i := 0) rfl rfl (fun w213 (hS213 : St _ _ [.blk b212 (.cells #[.bool m211, .int .u64 (p211 : Int), .int .u64 (q211 : Int), .int .u64 (r211 : Int), .int .u64 (s211 : Int), .int .u64 (t211 : Int), .int .u64 (0 : Int)] 108), _, _, _] _) => ?_)
           clear hS212
           refine hK _ _ ?_; clear hK K
           refine l_nil ?_
           refine hK210 _ _ ?_
           refine wp_seq_k (fun K214 hK214 => ?_)
           refine wp_region_lit ?_
           refine l_q rfl rfl (q_fieldAddr (ft := 4) (o := 0) rfl (by kernel_rfl)) ?_
           refine l_q rfl rfl (q_load1 rfl (by kernel_rfl) (hS213.cell (i := 0) rfl rfl)) ?_
           refine l_q rfl rfl (q_not rfl) ?_
           refine l_q rfl rfl (q_fieldAddr (ft := 4) (o := 0) rfl (by kernel_rfl)) ?_
           refine l_e rfl (fun K hK => ?_)
           refine e_store1 hS213 rfl rfl (by kernel_rfl) (by first | rfl | assumption) (i := 0) rfl rfl (fun w215 (hS215 : St _ _ [.blk b212 (.cells #[_, .int .u64 (p211 : Int), .int .u64 (q211 : Int), .int .u64 (r211 : Int), .int .u64 (s211 : Int), .int .u64 (t211 : Int), .int .u64 (0 : Int)] 108), _, _, _] _) => ?_)
           clear hS213
           refine hK _ _ ?_; clear hK K
           refine l_nil ?_
           refine hK214 _ _ ?_
           refine wp_seq_k (fun K216 hK216 => ?_)
           refine r_any (by kernel_rfl) hS215 (fun w217 hS217 => ?_)
           clear hS215
           refine o_held (i := 0) [1, 3, 4, 5, 6, 7] (fun _ _ => trivial) rfl rfl (by kernel_rfl) (goes0 rfl) (QOk.then (QOk.inBlock (QOk.then QOk.body))) (q_loadA (m := 3) rfl (by kernel_rfl) (by kernel_rfl) (hS217.blk (i := 3) rfl) rfl rfl) ?_
           refine o_held (i := 2) [3, 4, 5, 6, 7] (fun j w => ⟨(fun _ _ => trivial) j w, fun _ h => h⟩) rfl rfl (by kernel_rfl) (goes0 rfl) (QOk.then (QOk.inBlock (QOk.then QOk.body))) (q_loadA (m := 7) rfl (by kernel_rfl) (by kernel_rfl) (hS217.blk (i := 0) rfl) rfl rfl) ?_
           refine o_eff (i := 1) (by kernel_rfl) rfl (goes0 rfl) (fun K hK => ?_)
           refine e_call (by kernel_rfl) (scaled_ok a haB han0 han1 (by first | assumption | omega) _) rfl (after_R hS217 (fun v218 w218 hv218 hS218 => ?_))
           clear hS217
           obtain ⟨m218, p218, q218, r218, s218, t218, rfl, hp218, hq218, hr218, hs218, ht218, hz218⟩ := hv218
           refine hK _ _ ⟨⟨trivial, fun h => absurd h (by decide)⟩, fun _ _ => by first | exact q_loadA (m := 7) rfl (by kernel_rfl) (by kernel_rfl) (hS218.blk (i := 0) rfl) rfl rfl⟩ ?_; clear hK K
           refine o_eff (i := 3) (by kernel_rfl) rfl (goes0 rfl) (fun K hK => ?_)
           refine e_call (by kernel_rfl) (addQ_ok m218 (!m211) p218 q218 r218 s218 t218 0 p211 q211 r211 s211 t211 0 (by omega) (by omega) (by omega) (by omega) (by omega) (by omega) (by omega) (by omega) (by omega) (by omega) (by omega) (by omega) (by omega) (by omega) _) rfl (after_R hS218 (fun v219 w219 hv219 hS219 => ?_))
           clear hS218
           obtain ⟨m219, p219, q219, r219, s219, t219, u219, rfl, hp219, hq219, hr219, hs219, ht219, hu219, hz219⟩ := hv219
           refine hK _ _ ⟨⟨trivial, fun h => absurd h (by decide)⟩, fun h => absurd h (by decide)⟩ ?_; clear hK K
           refine o_eff (i := 4) (by kernel_rfl) rfl (goes0 rfl) (fun K hK => ?_)
           refine e_call (by kernel_rfl) (bsign_ok m219 p219 q219 r219 s219 t219 u219 _) rfl (after_R hS219 (fun v220 w220 hv220 hS220 => ?_))
           clear hS219
           obtain rfl := hv220
           have hsg : sgn (sv m219 (dv p219 q219 r219 s219 t219 u219)) = sgn (sclQ a - sclQ b) := by rw [hz219, sv_not, hz218, hz211]
           refine hK _ _ ⟨⟨trivial, fun h => absurd h (by decide)⟩, fun h => absurd h (by decide)⟩ ?_; clear hK K
           refine o_eff (i := 5) (by kernel_rfl) rfl (goes0 rfl) (fun K hK => ?_)
           refine e_call (by kernel_rfl) (fine_ok _) rfl (after_R hS220 (fun v221 w221 hv221 hS221 => ?_))
           clear hS220
           obtain rfl := hv221
           refine hK _ _ ⟨⟨trivial, fun h => absurd h (by decide)⟩, fun h => absurd h (by decide)⟩ ?_; clear hK K
           refine o_pure (i := 6) (fun j w => ⟨(fun j w => ⟨(fun _ _ => trivial) j w, fun _ h => h⟩) j w, fun _ h => h⟩) rfl rfl (by kernel_rfl) (goes0 rfl) (QOk.then (QOk.inBlock (QOk.then QOk.body))) (fun w => q_assignI rfl) ?_
           refine o_eff (i := 7) (by kernel_rfl) rfl (goes0 rfl) (fun K hK => ?_)
           refine e_storeA hS221 rfl rfl (by kernel_rfl) (by repeat' (first | exact trivial | refine ⟨by first | rfl | assumption | exact one_if (by assumption), ?_⟩)) (i := 1) rfl rfl (fun w222 (hS222 : St _ _ [_, _, _, _] _) => ?_)
           clear hS221
           refine hK _ _ ⟨⟨trivial, fun h => absurd h (by decide)⟩, fun h => absurd h (by decide)⟩ ?_; clear hK K
           refine o_done (by kernel_rfl) ?_
           refine hK216 _ _ ?_
           refine wp_ret ?_
           refine c_retTC (m := 2) rfl (by kernel_rfl) (by kernel_rfl) rfl (hS222.blk (i := 1) rfl) rfl rfl ?_
           rw [hsg]
           exact ⟨_, rfl, (by rw [sg_3 (no_or (by assumption) (by omega)) (no_or (by assumption) (by omega)) (by omega)]; rfl), hS222.drop⟩
          ·
           have hc209b := hc209
           try simp only [decide_eq_true_eq, decide_eq_false_iff_not, Bool.not_eq_true', Bool.not_eq_false', Bool.and_eq_true, Bool.or_eq_true, Int.not_lt, Int.not_le, ne_eq, Decidable.not_not] at hc209
           refine wp_skip ?_
           refine hK182 _ _ ?_
           refine wp_seq_k (fun K223 hK223 => ?_)
           refine wp_region_lit ?_
           refine l_q rfl rfl (q_loadA (m := 3) rfl (by kernel_rfl) (by kernel_rfl) (hS8.blk (i := 2) rfl) rfl rfl) ?_
           refine l_q rfl rfl (q_loadA (m := 3) rfl (by kernel_rfl) (by kernel_rfl) (hS8.blk (i := 1) rfl) rfl rfl) ?_
           refine l_e rfl (fun K hK => ?_)
           refine e_call (by kernel_rfl) (rorder_ok a b haB hbB _) rfl (after_R hS8 (fun v224 w224 hv224 hS224 => ?_))
           clear hS8
           obtain rfl := hv224
           refine hK _ _ ?_; clear hK K
           refine l_e rfl (fun K hK => ?_)
           refine e_call (by kernel_rfl) (fine_ok _) rfl (after_R hS224 (fun v225 w225 hv225 hS225 => ?_))
           clear hS224
           obtain rfl := hv225
           refine hK _ _ ?_; clear hK K
           refine l_q rfl rfl (q_assignI rfl) ?_
           refine l_e rfl (fun K hK => ?_)
           refine e_storeA hS225 rfl rfl (by kernel_rfl) (by repeat' (first | exact trivial | refine ⟨by first | rfl | assumption | exact one_if (by assumption), ?_⟩)) (i := 0) rfl rfl (fun w226 (hS226 : St _ _ [_, _, _] _) => ?_)
           clear hS225
           refine hK _ _ ?_; clear hK K
           refine l_nil ?_
           refine hK223 _ _ ?_
           refine wp_ret ?_
           refine c_retTC (m := 2) rfl (by kernel_rfl) (by kernel_rfl) rfl (hS226.blk (i := 0) rfl) rfl rfl ?_
           exact ⟨_, rfl, (by rw [sg_4 (no_or (by assumption) (by omega)) (no_or (by assumption) (by omega)) (by omega)]; rfl), hS226.drop⟩
       ·
        have hg200b := hg200
        try simp only [decide_eq_true_eq, decide_eq_false_iff_not, Bool.not_eq_true', Bool.not_eq_false', Bool.and_eq_true, Bool.or_eq_true, Int.not_lt, Int.not_le, ne_eq, Decidable.not_not] at hg200
        refine l_off rfl rfl rfl hg200b ?_
        refine l_off rfl rfl rfl hg200b ?_
        refine l_off rfl rfl rfl hg200b ?_
        refine l_offN rfl rfl rfl ?_
        refine l_offN rfl rfl rfl ?_
        refine l_off rfl rfl rfl hg200b ?_
        refine l_on rfl rfl hg196b ?_
        refine l_q rfl rfl (q_pickF rfl hg200b rfl) ?_
        refine l_q rfl rfl (q_pickF rfl hg196b rfl) ?_
        refine l_q rfl rfl (q_assignB rfl) ?_
        refine l_nil ?_
        refine hK191 _ _ ?_
        refine c_condF rfl rfl ?_
        refine wp_seq_k (fun K228 hK228 => ?_)
        refine wp_region_lit ?_
        refine l_q rfl rfl (q_moveB rfl) ?_
        refine l_q rfl rfl (q_assignB rfl) ?_
        refine l_nil ?_
        refine hK228 _ _ ?_
        refine c_cond rfl (fun hc229 => ?_) (fun hc229 => ?_)
        ·
         have hc229b := hc229
         try simp only [decide_eq_true_eq, decide_eq_false_iff_not, Bool.not_eq_true', Bool.not_eq_false', Bool.and_eq_true, Bool.or_eq_true, Int.not_lt, Int.not_le, ne_eq, Decidable.not_not] at hc229
         refine wp_seq_k (fun K230 hK230 => ?_)
         refine wp_region_lit ?_
         refine l_q rfl rfl (q_loadA (m := 3) rfl (by kernel_rfl) (by kernel_rfl) (hS8.blk (i := 1) rfl) rfl rfl) ?_
         refine l_e rfl (fun K hK => ?_)
         refine e_call (by kernel_rfl) (scaled_ok b hbB hbn0 hbn1 (by first | assumption | omega) _) rfl (after_R hS8 (fun v231 w231 hv231 hS231 => ?_))
         clear hS8
         obtain ⟨m231, p231, q231, r231, s231, t231, rfl, hp231, hq231, hr231, hs231, ht231, hz231⟩ := hv231
         refine hK _ _ ?_; clear hK K
         refine l_e rfl (fun K hK => ?_)
         refine e_alloc (zv := .agg #[.bool false, .int .u64 0, .int .u64 0, .int .u64 0, .int .u64 0, .int .u64 0, .int .u64 0]) hS231 (by kernel_rfl) (fun b232 w232 (hS232 : St _ _ [.blk b232 (.cells #[.bool false, .int .u64 (0 : Int), .int .u64 (0 : Int), .int .u64 (0 : Int), .int .u64 (0 : Int), .int .u64 (0 : Int), .int .u64 (0 : Int)] 108), _, _, _] _) => ?_)
         clear hS231
         refine hK _ _ ?_; clear hK K
         refine l_e rfl (fun K hK => ?_)
         refine e_storeA hS232 rfl rfl (by kernel_rfl) (by repeat' (first | exact trivial | refine ⟨by first | rfl | assumption | exact one_if (by assumption), ?_⟩)) (i := 0) rfl rfl (fun w233 (hS233 : St _ _ [.blk b232 (.cells #[.bool m231, .int .u64 (p231 : Int), .int .u64 (q231 : Int), .int .u64 (r231 : Int), .int .u64 (s231 : Int), .int .u64 (t231 : Int), .int .u64 (0 : Int)] 108), _, _, _] _) => ?_)
         clear hS232
         refine hK _ _ ?_; clear hK K
         refine l_nil ?_
         refine hK230 _ _ ?_
         refine wp_seq_k (fun K234 hK234 => ?_)
         refine wp_region_lit ?_
         refine l_q rfl rfl (q_fieldAddr (ft := 4) (o := 0) rfl (by kernel_rfl)) ?_
         refine l_q rfl rfl (q_load1 rfl (by kernel_rfl) (hS233.cell (i := 0) rfl rfl)) ?_
         refine l_q rfl rfl (q_not rfl) ?_
         refine l_q rfl rfl (q_fieldAddr (ft := 4) (o := 0) rfl (by kernel_rfl)) ?_
         refine l_e rfl (fun K hK => ?_)
         refine e_store1 hS233 rfl rfl (by kernel_rfl) (by first | rfl | assumption) (i := 0) rfl rfl (fun w235 (hS235 : St _ _ [.blk b232 (.cells #[_, .int .u64 (p231 : Int), .int .u64 (q231 : Int), .int .u64 (r231 : Int), .int .u64 (s231 : Int), .int .u64 (t231 : Int), .int .u64 (0 : Int)] 108), _, _, _] _) => ?_)
         clear hS233
         refine hK _ _ ?_; clear hK K
         refine l_nil ?_
         refine hK234 _ _ ?_
         refine wp_seq_k (fun K236 hK236 => ?_)
         refine r_any (by kernel_rfl) hS235 (fun w237 hS237 => ?_)
         clear hS235
         refine o_held (i := 0) [1, 3, 4, 5, 6, 7] (fun _ _ => trivial) rfl rfl (by kernel_rfl) (goes0 rfl) (QOk.then (QOk.inBlock (QOk.then QOk.body))) (q_loadA (m := 3) rfl (by kernel_rfl) (by kernel_rfl) (hS237.blk (i := 3) rfl) rfl rfl) ?_
         refine o_held (i := 2) [3, 4, 5, 6, 7] (fun j w => ⟨(fun _ _ => trivial) j w, fun _ h => h⟩) rfl rfl (by kernel_rfl) (goes0 rfl) (QOk.then (QOk.inBlock (QOk.then QOk.body))) (q_loadA (m := 7) rfl (by kernel_rfl) (by kernel_rfl) (hS237.blk (i := 0) rfl) rfl rfl) ?_
         refine o_eff (i := 1) (by kernel_rfl) rfl (goes0 rfl) (fun K hK => ?_)
         refine e_call (by kernel_rfl) (scaled_ok a haB han0 han1 (by first | assumption | omega) _) rfl (after_R hS237 (fun v238 w238 hv238 hS238 => ?_))
         clear hS237
         obtain ⟨m238, p238, q238, r238, s238, t238, rfl, hp238, hq238, hr238, hs238, ht238, hz238⟩ := hv238
         refine hK _ _ ⟨⟨trivial, fun h => absurd h (by decide)⟩, fun _ _ => by first | exact q_loadA (m := 7) rfl (by kernel_rfl) (by kernel_rfl) (hS238.blk (i := 0) rfl) rfl rfl⟩ ?_; clear hK K
         refine o_eff (i := 3) (by kernel_rfl) rfl (goes0 rfl) (fun K hK => ?_)
         refine e_call (by kernel_rfl) (addQ_ok m238 (!m231) p238 q238 r238 s238 t238 0 p231 q231 r231 s231 t231 0 (by omega) (by omega) (by omega) (by omega) (by omega) (by omega) (by omega) (by omega) (by omega) (by omega) (by omega) (by omega) (by omega) (by omega) _) rfl (after_R hS238 (fun v239 w239 hv239 hS239 => ?_))
         clear hS238
         obtain ⟨m239, p239, q239, r239, s239, t239, u239, rfl, hp239, hq239, hr239, hs239, ht239, hu239, hz239⟩ := hv239
         refine hK _ _ ⟨⟨trivial, fun h => absurd h (by decide)⟩, fun h => absurd h (by decide)⟩ ?_; clear hK K
         refine o_eff (i := 4) (by kernel_rfl) rfl (goes0 rfl) (fun K hK => ?_)
         refine e_call (by kernel_rfl) (bsign_ok m239 p239 q239 r239 s239 t239 u239 _) rfl (after_R hS239 (fun v240 w240 hv240 hS240 => ?_))
         clear hS239
         obtain rfl := hv240
         have hsg : sgn (sv m239 (dv p239 q239 r239 s239 t239 u239)) = sgn (sclQ a - sclQ b) := by rw [hz239, sv_not, hz238, hz231]
         refine hK _ _ ⟨⟨trivial, fun h => absurd h (by decide)⟩, fun h => absurd h (by decide)⟩ ?_; clear hK K
         refine o_eff (i := 5) (by kernel_rfl) rfl (goes0 rfl) (fun K hK => ?_)
         refine e_call (by kernel_rfl) (fine_ok _) rfl (after_R hS240 (fun v241 w241 hv241 hS241 => ?_))
         clear hS240
         obtain rfl := hv241
         refine hK _ _ ⟨⟨trivial, fun h => absurd h (by decide)⟩, fun h => absurd h (by decide)⟩ ?_; clear hK K
         refine o_pure (i := 6) (fun j w => ⟨(fun j w => ⟨(fun _ _ => trivial) j w, fun _ h => h⟩) j w, fun _ h => h⟩) rfl rfl (by kernel_rfl) (goes0 rfl) (QOk.then (QOk.inBlock (QOk.then QOk.body))) (fun w => q_assignI rfl) ?_
         refine o_eff (i := 7) (by kernel_rfl) rfl (goes0 rfl) (fun K hK => ?_)
         refine e_storeA hS241 rfl rfl (by kernel_rfl) (by repeat' (first | exact trivial | refine ⟨by first | rfl | assumption | exact one_if (by assumption), ?_⟩)) (i := 1) rfl rfl (fun w242 (hS242 : St _ _ [_, _, _, _] _) => ?_)
         clear hS241
         refine hK _ _ ⟨⟨trivial, fun h => absurd h (by decide)⟩, fun h => absurd h (by decide)⟩ ?_; clear hK K
         refine o_done (by kernel_rfl) ?_
         refine hK236 _ _ ?_
         refine wp_ret ?_
         refine c_retTC (m := 2) rfl (by kernel_rfl) (by kernel_rfl) rfl (hS242.blk (i := 1) rfl) rfl rfl ?_
         rw [hsg]
         exact ⟨_, rfl, (by rw [sg_3 (no_or (by assumption) (by omega)) (no_or (by assumption) (by omega)) (by omega)]; rfl), hS242.drop⟩
        ·
         have hc229b := hc229
         try simp only [decide_eq_true_eq, decide_eq_false_iff_not, Bool.not_eq_true', Bool.not_eq_false', Bool.and_eq_true, Bool.or_eq_true, Int.not_lt, Int.not_le, ne_eq, Decidable.not_not] at hc229
         refine wp_skip ?_
         refine hK182 _ _ ?_
         refine wp_seq_k (fun K243 hK243 => ?_)
         refine wp_region_lit ?_
         refine l_q rfl rfl (q_loadA (m := 3) rfl (by kernel_rfl) (by kernel_rfl) (hS8.blk (i := 2) rfl) rfl rfl) ?_
         refine l_q rfl rfl (q_loadA (m := 3) rfl (by kernel_rfl) (by kernel_rfl) (hS8.blk (i := 1) rfl) rfl rfl) ?_
         refine l_e rfl (fun K hK => ?_)
         refine e_call (by kernel_rfl) (rorder_ok a b haB hbB _) rfl (after_R hS8 (fun v244 w244 hv244 hS244 => ?_))
         clear hS8
         obtain rfl := hv244
         refine hK _ _ ?_; clear hK K
         refine l_e rfl (fun K hK => ?_)
         refine e_call (by kernel_rfl) (fine_ok _) rfl (after_R hS244 (fun v245 w245 hv245 hS245 => ?_))
         clear hS244
         obtain rfl := hv245
         refine hK _ _ ?_; clear hK K
         refine l_q rfl rfl (q_assignI rfl) ?_
         refine l_e rfl (fun K hK => ?_)
         refine e_storeA hS245 rfl rfl (by kernel_rfl) (by repeat' (first | exact trivial | refine ⟨by first | rfl | assumption | exact one_if (by assumption), ?_⟩)) (i := 0) rfl rfl (fun w246 (hS246 : St _ _ [_, _, _] _) => ?_)
         clear hS245
         refine hK _ _ ?_; clear hK K
         refine l_nil ?_
         refine hK243 _ _ ?_
         refine wp_ret ?_
         refine c_retTC (m := 2) rfl (by kernel_rfl) (by kernel_rfl) rfl (hS246.blk (i := 0) rfl) rfl rfl ?_
         exact ⟨_, rfl, (by rw [sg_4 (no_or (by assumption) (by omega)) (no_or (by assumption) (by omega)) (by omega)]; rfl), hS246.drop⟩

end Go.Proofs.YtdlmcgflgdmjgaaDoor
