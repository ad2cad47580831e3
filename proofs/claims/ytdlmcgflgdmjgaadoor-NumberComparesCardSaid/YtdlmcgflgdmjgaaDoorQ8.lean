/- NumberCompares: faults told; number's Sign. -/
import Derived.Test.YtdlmcgflgdmjgaaDoorQ7
import Derived.Test.YtdlmcgflgdmjgaaDoorF4
import Derived.Test.YtdlmcgflgdmjgaaDoorN8
set_option linter.unusedVariables false
set_option linter.unusedSimpArgs false
namespace Go.Proofs.YtdlmcgflgdmjgaaDoor
open Go.RowKit
theorem good1 {c a : Int} (hc : c ≠ 0) : (Er.flt c a .nil).Good := ⟨hc, trivial⟩
theorem Code1_ok (c a : Int) (b : Nat) (hc : c ≠ 0) (w : World) (hl : LaidV w) (hb : w.heap[b]? = some (fO c a .nilIface)) : Calls Tryd.prog 22 #[fV b] w (PostR w fun v => v = .int .i64 c) :=
  Code_some (Er.flt c a .nil) (good1 hc) (fV b) b c a .nilIface w hl rfl ⟨(Array.getElem?_eq_some_iff.1 hb).1, id⟩ hb
theorem At1_ok (c a : Int) (b : Nat) (hc : c ≠ 0) (w : World) (hl : LaidV w) (hb : w.heap[b]? = some (fO c a .nilIface)) : Calls Tryd.prog 18 #[fV b] w (PostR w fun v => v = .int .i64 a) :=
  At_some (Er.flt c a .nil) (good1 hc) (fV b) b c a .nilIface w hl rfl ⟨(Array.getElem?_eq_some_iff.1 hb).1, id⟩ hb
theorem codesR (e : Er) (v : Value) (w : World) (hn : e.list.length ≤ 1000000) (hl : LaidV w) (hE : ErIn (Ro w (fun _ => False)) w e v) : Calls Tryd.prog 15 #[v] w (PostR w fun v => ∃ ad cap, v = .slice ad e.list.length cap) :=
  (Codes_ok e v w hn hl hE).mono fun _ w' ⟨v, G, he, hG, hS⟩ => by
    subst hG
    obtain ⟨ad, cap, h⟩ := own_slice (hS.sl (i := 0) rfl)
    exact ⟨v, he, ⟨ad, cap, h⟩, hS.drop⟩
theorem Codes0_ok (w : World) (hl : LaidV w) : Calls Tryd.prog 15 #[.nilIface] w (PostR w fun v => ∃ ad cap, v = .slice ad 0 cap) := codesR .nil .nilIface w (by decide) hl rfl
theorem Codes1_ok (c a : Int) (b : Nat) (hc : c ≠ 0) (w : World) (hl : LaidV w) (hb : w.heap[b]? = some (fO c a .nilIface)) : Calls Tryd.prog 15 #[fV b] w (PostR w fun v => ∃ ad cap, v = .slice ad 1 cap) :=
  codesR (.flt c a .nil) (fV b) w (by show 1 ≤ 1000000; decide) hl ⟨b, .nilIface, rfl, ⟨(Array.getElem?_eq_some_iff.1 hb).1, id⟩, hb, rfl⟩
theorem Below.stQ {w w' : World} (h : Below w.heap.size w w') : St w (fun _ => False) [] w' := ⟨h.os, h.tape, h.output, h.size, fun k hk _ => h.block k hk, trivial⟩
theorem rightQ_num {a : Vl} (h : rightQ a = true) (hk : a.1 = 2 ∨ a.1 = 3) : a.2.2 = [] := by
  unfold rightQ at h
  rcases hk with hk | hk <;> simp [hk] at h <;> (first | exact h | (simp_all; done))
theorem vl_num {a : Vl} (h : rightQ a = true) (hk : a.1 = 2 ∨ a.1 = 3) : (.agg (vl a).toArray : Value) = valV a.1 a.2.1 := by
  have := rightQ_num h hk
  show Value.agg #[.int .i64 a.1, .int .i64 a.2.1, .string (bs a.2.2)] = _
  rw [this]; rfl
theorem scl_q {a : Vl} (hk : a.1 = 2 ∨ a.1 = 3) : scl a.1 a.2.1 = sclQ a := by
  unfold scl sclQ
  rcases hk with hk | hk <;> rw [hk] <;> simp
theorem cmp3_sgn (x y : Int) : cmp3 x y = sgn (x - y) := by
  unfold cmp3 sgn
  repeat' split
  all_goals omega
theorem order_R (a b : Vl) (ha : rightQ a = true) (hb : rightQ b = true) (hk : a.1 = 2 ∨ a.1 = 3) (hl : b.1 = 2 ∨ b.1 = 3) (han0 : -9223372036854775808 ≤ a.2.1) (han1 : a.2.1 ≤ 9223372036854775807) (hbn0 : -9223372036854775808 ≤ b.2.1) (hbn1 : b.2.1 ≤ 9223372036854775807) (w : World) :
    Calls Tryd.prog 53 #[.agg (vl a).toArray, .agg (vl b).toArray] w (PostR w fun v => v = .int .i64 (sgn (sclQ a - sclQ b))) := by
  rw [vl_num ha hk, vl_num hb hl]
  exact (order_any a.1 a.2.1 b.1 b.2.1 hk hl han0 han1 hbn0 hbn1 w).mono fun e w' ⟨c, he, hc, _, _, hw⟩ => ⟨_, he, by rw [hc.out, cmp3_sgn, scl_q hk, scl_q hl], Below.stQ hw⟩
theorem sg03_fine {a b : Vl} (h : (sg03 a b).2.1 = 0) : (sg03 a b).2.2 = -1 := by
  unfold sg03 at *
  split at h
  · cases h
  · rw [if_neg (by assumption)]
    split at h
    · cases h
    · rw [if_neg (by assumption)]
      split <;> rfl
theorem c_z {op : Int} {a b : Vl} (h : ¬(op < 8 ∨ 13 < op)) (h1 : rightQ a = true) (h2 : rightQ b = true) (h3 : ¬(a.1 = 0 ∨ b.1 = 0)) (h4 : (sg03 a b).2.1 = 0) : (c03 op a b).2.1 = 0 := by
  cases h5 : ans op (sg03 a b).1 with
  | true => rw [c_6 h h1 h2 h3 h4 h5]
  | false => rw [c_7 h h1 h2 h3 h4 h5]
theorem c03_fine {op : Int} {a b : Vl} (h : (c03 op a b).2.1 = 0) : (c03 op a b).2.2 = -1 := by
  unfold c03 at *
  repeat' split
  all_goals first | rfl | (simp_all; done) | skip
attribute [local irreducible] Oper.wp Sem.run Code.wp wpList wpAnyO callFunc execOp Calls
attribute [local irreducible] rightQ cmpZ cmB orL vcmp
attribute [local irreducible] toU dv sv sgn sclQ sg03

set_option maxRecDepth 100000 in
theorem fnew_ok (c a : Int) (hc : decide (c = 0) = false) (w : World) : Calls Tryd.prog 23 #[.int .i64 c, .int .i64 a] w (PostN w fun v G => ∃ b, v = fV b ∧ G = [.blk b (fO c a .nilIface)]) := by
 have hS := St.start w
 refine c_enter Tryd.func23 rfl rfl rfl ?_
 refine wp_seq_k (fun K1 hK1 => ?_)
 refine wp_region_lit ?_
 refine l_q rfl rfl (q_assign rfl) ?_
 refine l_nil ?_
 refine hK1 _ _ ?_
 refine wp_seq_k (fun K2 hK2 => ?_)
 refine wp_seq_k (fun K3 hK3 => ?_)
 refine wp_region_lit ?_
 refine l_q rfl rfl (q_moveI rfl) ?_
 refine l_q rfl rfl (q_eql rfl rfl) ?_
 refine l_nil ?_
 refine hK3 _ _ ?_
 refine c_condF rfl hc ?_
 refine wp_skip ?_
 refine hK2 _ _ ?_
 refine wp_seq_k (fun K5 hK5 => ?_)
 refine wp_region_lit ?_
 refine l_q rfl rfl (q_moveI rfl) ?_
 refine l_q rfl rfl (q_moveI rfl) ?_
 refine l_q rfl rfl (q_build (ps := [(0, 1), (1, 1), (2, 1)]) (zv := .agg #[.int .i64 0, .int .i64 0, .nilIface]) (by kernel_rfl) (by kernel_rfl) rfl (by repeat' (first | exact trivial | refine ⟨fun _ => by first | rfl | assumption | exact one_if (by assumption), ?_⟩ | refine ⟨fun ⟨_, h⟩ => by simp at h, ?_⟩)) rfl) ?_
 refine l_e rfl (fun K hK => ?_)
 refine e_boxA hS rfl (fun b6 w6 (hS6 : St _ _ [.blk b6 (.cells #[.int .i64 c, .int .i64 a, _] 87)] _) => ?_)
 clear hS
 refine hK _ _ ?_; clear hK K
 refine l_q rfl rfl (q_makeInterface rfl (by kernel_rfl)) ?_
 refine l_q rfl rfl (q_assign rfl) ?_
 refine l_nil ?_
 refine hK5 _ _ ?_
 refine wp_ret ?_
 refine c_ret1 rfl rfl ?_
 exact ⟨_, _, rfl, ⟨_, rfl, rfl⟩, hS6⟩

set_option maxRecDepth 100000 in
theorem told_nil (fc fa : Int) (w : World) (hl : LaidV w) : Calls Tryd.prog 37 #[.nilIface, .agg #[.int .i64 fc, .int .i64 fa]] w (PostR w fun v => v = .bool (decide (0 = fc ∧ -1 = fa))) := by
 have hS := St.start w
 refine c_enter Tryd.func37 rfl rfl rfl ?_
 refine wp_seq_k (fun K1 hK1 => ?_)
 refine wp_region_lit ?_
 refine l_e rfl (fun K hK => ?_)
 refine e_boxA hS rfl (fun b2 w2 (hS2 : St _ _ [.blk b2 (.cells #[.int .i64 fc, .int .i64 fa] 72)] _) => ?_)
 clear hS
 refine hK _ _ ?_; clear hK K
 refine l_q rfl rfl (q_assignB rfl) ?_
 refine l_nil ?_
 refine hK1 _ _ ?_
 refine wp_seq_k (fun K3 hK3 => ?_)
 refine r_any (by kernel_rfl) hS2 (fun w4 hS4 => ?_)
 clear hS2
 refine o_pure (i := 0) (fun _ _ => trivial) rfl rfl (by kernel_rfl) (goes0 rfl) (QOk.then QOk.body) (fun w => q_move rfl) ?_
 refine o_pure (i := 2) (fun _ _ => trivial) rfl rfl (by kernel_rfl) (goes0 rfl) (QOk.then QOk.body) (fun w => q_fieldAddr (ft := 23) (o := 0) rfl (by kernel_rfl)) ?_
 refine o_held (i := 3) [4, 5, 6, 7, 8, 9, 10, 11, 12, 13, 14, 15, 16, 17, 18] (fun _ _ => trivial) rfl rfl (by kernel_rfl) (goes0 rfl) (QOk.then QOk.body) (q_load1 rfl (by kernel_rfl) (hS4.cell (i := 0) rfl rfl)) ?_
 refine o_eff (i := 1) (by kernel_rfl) rfl (goes0 rfl) (fun K hK => ?_)
 refine e_call (by kernel_rfl) (Code_nil _) rfl (after_R hS4 (fun v5 w5 hv5 hS5 => ?_))
 clear hS4
 obtain rfl := hv5
 refine hK _ _ ⟨trivial, fun _ _ => by first | exact q_load1 rfl (by kernel_rfl) (hS5.cell (i := 0) rfl rfl)⟩ ?_; clear hK K
 refine o_pure (i := 4) (fun j w => ⟨(fun _ _ => trivial) j w, fun _ h => h⟩) rfl rfl (by kernel_rfl) (goes0 rfl) (QOk.then QOk.body) (fun w => q_eql rfl rfl) ?_
 refine o_pure (i := 5) (fun j w => ⟨(fun _ _ => trivial) j w, fun _ h => h⟩) rfl rfl (by kernel_rfl) (goes0 rfl) (QOk.then QOk.body) (fun w => q_moveB rfl) ?_
 refine g_splitO (t := 10) rfl (fun hg6 => ?_) (fun hg6 => ?_)
 ·
  have hg6b := hg6
  try simp only [decide_eq_true_eq, decide_eq_false_iff_not, Bool.not_eq_true', Bool.not_eq_false', Bool.and_eq_true, Bool.or_eq_true, Int.not_lt, Int.not_le, ne_eq, Decidable.not_not] at hg6
  refine o_pure (i := 6) (fun j w => ⟨(fun _ _ => trivial) j w, fun _ h => h⟩) rfl rfl (by kernel_rfl) (goes1 rfl rfl hg6b) (QOk.then QOk.body) (fun w => q_move rfl) ?_
  refine o_pure (i := 8) (fun j w => ⟨(fun _ _ => trivial) j w, fun _ h => h⟩) rfl rfl (by kernel_rfl) (goes1 rfl rfl hg6b) (QOk.then QOk.body) (fun w => q_fieldAddr (ft := 3) (o := 1) rfl (by kernel_rfl)) ?_
  refine o_held (i := 9) [10, 11, 12, 13, 14, 15, 16, 17, 18] (fun j w => ⟨(fun _ _ => trivial) j w, fun _ h => h⟩) rfl rfl (by kernel_rfl) (goes1 rfl rfl hg6b) (QOk.then QOk.body) (q_load1 rfl (by kernel_rfl) (hS5.cell (i := 0) rfl rfl)) ?_
  refine o_eff (i := 7) (by kernel_rfl) rfl (goes1 rfl rfl hg6b) (fun K hK => ?_)
  refine e_call (by kernel_rfl) (At_nil _) rfl (after_R hS5 (fun v7 w7 hv7 hS7 => ?_))
  clear hS5
  obtain rfl := hv7
  refine hK _ _ ⟨⟨trivial, fun h => absurd h (by decide)⟩, fun _ _ => by first | exact q_load1 rfl (by kernel_rfl) (hS7.cell (i := 0) rfl rfl)⟩ ?_; clear hK K
  refine o_pure (i := 10) (fun j w => ⟨(fun j w => ⟨(fun _ _ => trivial) j w, fun _ h => h⟩) j w, fun _ h => h⟩) rfl rfl (by kernel_rfl) (goes1 rfl rfl hg6b) (QOk.then QOk.body) (fun w => q_eql rfl rfl) ?_
  refine o_pure (i := 11) (fun j w => ⟨(fun j w => ⟨(fun _ _ => trivial) j w, fun _ h => h⟩) j w, fun _ h => h⟩) rfl rfl (by kernel_rfl) (goes0 rfl) (QOk.then QOk.body) (fun w => q_pickT rfl hg6b rfl) ?_
  refine o_pure (i := 12) (fun j w => ⟨(fun j w => ⟨(fun _ _ => trivial) j w, fun _ h => h⟩) j w, fun _ h => h⟩) rfl rfl (by kernel_rfl) (goes0 rfl) (QOk.then QOk.body) (fun w => q_moveB rfl) ?_
  refine g_splitO (t := 17) rfl (fun hg8 => ?_) (fun hg8 => ?_)
  ·
   have hg8b := hg8
   try simp only [decide_eq_true_eq, decide_eq_false_iff_not, Bool.not_eq_true', Bool.not_eq_false', Bool.and_eq_true, Bool.or_eq_true, Int.not_lt, Int.not_le, ne_eq, Decidable.not_not] at hg8
   refine o_pure (i := 13) (fun j w => ⟨(fun j w => ⟨(fun _ _ => trivial) j w, fun _ h => h⟩) j w, fun _ h => h⟩) rfl rfl (by kernel_rfl) (goes1 rfl rfl hg8b) (QOk.then QOk.body) (fun w => q_move rfl) ?_
   refine o_eff (i := 14) (by kernel_rfl) rfl (goes1 rfl rfl hg8b) (fun K hK => ?_)
   refine e_call (by kernel_rfl) (Codes0_ok _ (hl.keep id hS7)) rfl (after_R hS7 (fun v9 w9 hv9 hS9 => ?_))
   clear hS7
   obtain ⟨ad9, cp9, rfl⟩ := hv9
   refine hK _ _ ⟨⟨trivial, fun h => absurd h (by decide)⟩, fun h => absurd h (by decide)⟩ ?_; clear hK K
   refine o_pure (i := 15) (fun j w => ⟨(fun j w => ⟨(fun _ _ => trivial) j w, fun _ h => h⟩) j w, fun _ h => h⟩) rfl rfl (by kernel_rfl) (goes1 rfl rfl hg8b) (QOk.then QOk.body) (fun w => q_lenSl (e := 23) rfl (by kernel_rfl)) ?_
   refine o_pure (i := 16) (fun j w => ⟨(fun j w => ⟨(fun _ _ => trivial) j w, fun _ h => h⟩) j w, fun _ h => h⟩) rfl rfl (by kernel_rfl) (goes1 rfl rfl hg8b) (QOk.then QOk.body) (fun w => q_leq rfl rfl) ?_
   refine o_pure (i := 17) (fun j w => ⟨(fun j w => ⟨(fun _ _ => trivial) j w, fun _ h => h⟩) j w, fun _ h => h⟩) rfl rfl (by kernel_rfl) (goes0 rfl) (QOk.then QOk.body) (fun w => q_pickT rfl hg8b rfl) ?_
   refine o_pure (i := 18) (fun j w => ⟨(fun j w => ⟨(fun _ _ => trivial) j w, fun _ h => h⟩) j w, fun _ h => h⟩) rfl rfl (by kernel_rfl) (goes0 rfl) (QOk.then QOk.body) (fun w => q_assignB rfl) ?_
   refine o_done (by kernel_rfl) ?_
   refine hK3 _ _ ?_
   refine wp_ret ?_
   refine c_ret1 rfl rfl ?_
   exact ⟨_, rfl, congrArg Value.bool (by first | (symm; exact decide_eq_true (by omega)) | (symm; exact decide_eq_false (by omega)) | exact decide_eq_decide.2 (by omega)), hS9.drop⟩
  ·
   have hg8b := hg8
   try simp only [decide_eq_true_eq, decide_eq_false_iff_not, Bool.not_eq_true', Bool.not_eq_false', Bool.and_eq_true, Bool.or_eq_true, Int.not_lt, Int.not_le, ne_eq, Decidable.not_not] at hg8
   refine o_off (i := 13) (fun j w => ⟨(fun j w => ⟨(fun _ _ => trivial) j w, fun _ h => h⟩) j w, fun _ h => h⟩) rfl rfl (by kernel_rfl) rfl rfl hg8b (QOk.then QOk.body) ?_
   refine o_off (i := 14) (fun j w => ⟨(fun j w => ⟨(fun _ _ => trivial) j w, fun _ h => h⟩) j w, fun _ h => h⟩) rfl rfl (by kernel_rfl) rfl rfl hg8b (QOk.then QOk.body) ?_
   refine o_off (i := 15) (fun j w => ⟨(fun j w => ⟨(fun _ _ => trivial) j w, fun _ h => h⟩) j w, fun _ h => h⟩) rfl rfl (by kernel_rfl) rfl rfl hg8b (QOk.then QOk.body) ?_
   refine o_off (i := 16) (fun j w => ⟨(fun j w => ⟨(fun _ _ => trivial) j w, fun _ h => h⟩) j w, fun _ h => h⟩) rfl rfl (by kernel_rfl) rfl rfl hg8b (QOk.then QOk.body) ?_
   refine o_pure (i := 17) (fun j w => ⟨(fun j w => ⟨(fun _ _ => trivial) j w, fun _ h => h⟩) j w, fun _ h => h⟩) rfl rfl (by kernel_rfl) (goes0 rfl) (QOk.then QOk.body) (fun w => q_pickF rfl hg8b rfl) ?_
   refine o_pure (i := 18) (fun j w => ⟨(fun j w => ⟨(fun _ _ => trivial) j w, fun _ h => h⟩) j w, fun _ h => h⟩) rfl rfl (by kernel_rfl) (goes0 rfl) (QOk.then QOk.body) (fun w => q_assignB rfl) ?_
   refine o_done (by kernel_rfl) ?_
   refine hK3 _ _ ?_
   refine wp_ret ?_
   refine c_ret1 rfl rfl ?_
   exact ⟨_, rfl, congrArg Value.bool (by first | (symm; exact decide_eq_true (by omega)) | (symm; exact decide_eq_false (by omega)) | exact decide_eq_decide.2 (by omega)), hS7.drop⟩
 ·
  have hg6b := hg6
  try simp only [decide_eq_true_eq, decide_eq_false_iff_not, Bool.not_eq_true', Bool.not_eq_false', Bool.and_eq_true, Bool.or_eq_true, Int.not_lt, Int.not_le, ne_eq, Decidable.not_not] at hg6
  refine o_off (i := 6) (fun j w => ⟨(fun _ _ => trivial) j w, fun _ h => h⟩) rfl rfl (by kernel_rfl) rfl rfl hg6b (QOk.then QOk.body) ?_
  refine o_off (i := 7) (fun j w => ⟨(fun _ _ => trivial) j w, fun _ h => h⟩) rfl rfl (by kernel_rfl) rfl rfl hg6b (QOk.then QOk.body) ?_
  refine o_off (i := 8) (fun j w => ⟨(fun _ _ => trivial) j w, fun _ h => h⟩) rfl rfl (by kernel_rfl) rfl rfl hg6b (QOk.then QOk.body) ?_
  refine o_off (i := 9) (fun j w => ⟨(fun _ _ => trivial) j w, fun _ h => h⟩) rfl rfl (by kernel_rfl) rfl rfl hg6b (QOk.then QOk.body) ?_
  refine o_off (i := 10) (fun j w => ⟨(fun _ _ => trivial) j w, fun _ h => h⟩) rfl rfl (by kernel_rfl) rfl rfl hg6b (QOk.then QOk.body) ?_
  refine o_pure (i := 11) (fun j w => ⟨(fun _ _ => trivial) j w, fun _ h => h⟩) rfl rfl (by kernel_rfl) (goes0 rfl) (QOk.then QOk.body) (fun w => q_pickF rfl hg6b rfl) ?_
  refine o_pure (i := 12) (fun j w => ⟨(fun _ _ => trivial) j w, fun _ h => h⟩) rfl rfl (by kernel_rfl) (goes0 rfl) (QOk.then QOk.body) (fun w => q_moveB rfl) ?_
  refine o_off (i := 13) (fun j w => ⟨(fun _ _ => trivial) j w, fun _ h => h⟩) rfl rfl (by kernel_rfl) rfl rfl rfl (QOk.then QOk.body) ?_
  refine o_off (i := 14) (fun j w => ⟨(fun _ _ => trivial) j w, fun _ h => h⟩) rfl rfl (by kernel_rfl) rfl rfl rfl (QOk.then QOk.body) ?_
  refine o_off (i := 15) (fun j w => ⟨(fun _ _ => trivial) j w, fun _ h => h⟩) rfl rfl (by kernel_rfl) rfl rfl rfl (QOk.then QOk.body) ?_
  refine o_off (i := 16) (fun j w => ⟨(fun _ _ => trivial) j w, fun _ h => h⟩) rfl rfl (by kernel_rfl) rfl rfl rfl (QOk.then QOk.body) ?_
  refine o_pure (i := 17) (fun j w => ⟨(fun _ _ => trivial) j w, fun _ h => h⟩) rfl rfl (by kernel_rfl) (goes0 rfl) (QOk.then QOk.body) (fun w => q_pickF rfl rfl rfl) ?_
  refine o_pure (i := 18) (fun j w => ⟨(fun _ _ => trivial) j w, fun _ h => h⟩) rfl rfl (by kernel_rfl) (goes0 rfl) (QOk.then QOk.body) (fun w => q_assignB rfl) ?_
  refine o_done (by kernel_rfl) ?_
  refine hK3 _ _ ?_
  refine wp_ret ?_
  refine c_ret1 rfl rfl ?_
  exact ⟨_, rfl, congrArg Value.bool (by first | (symm; exact decide_eq_true (by omega)) | (symm; exact decide_eq_false (by omega)) | exact decide_eq_decide.2 (by omega)), hS5.drop⟩

set_option maxRecDepth 100000 in
theorem told_flt (cz az : Int) (bz : Nat) (hcz : cz ≠ 0) (fc fa : Int) (w : World) (hl : LaidV w) (hbz : w.heap[bz]? = some (fO cz az .nilIface)) : Calls Tryd.prog 37 #[fV bz, .agg #[.int .i64 fc, .int .i64 fa]] w (PostR w fun v => v = .bool (decide (cz = fc ∧ az = fa))) := by
 have hS := St.start w
 refine c_enter Tryd.func37 rfl rfl rfl ?_
 refine wp_seq_k (fun K1 hK1 => ?_)
 refine wp_region_lit ?_
 refine l_e rfl (fun K hK => ?_)
 refine e_boxA hS rfl (fun b2 w2 (hS2 : St _ _ [.blk b2 (.cells #[.int .i64 fc, .int .i64 fa] 72)] _) => ?_)
 clear hS
 refine hK _ _ ?_; clear hK K
 refine l_q rfl rfl (q_assignB rfl) ?_
 refine l_nil ?_
 refine hK1 _ _ ?_
 refine wp_seq_k (fun K3 hK3 => ?_)
 refine r_any (by kernel_rfl) hS2 (fun w4 hS4 => ?_)
 clear hS2
 refine o_pure (i := 0) (fun _ _ => trivial) rfl rfl (by kernel_rfl) (goes0 rfl) (QOk.then QOk.body) (fun w => q_move rfl) ?_
 refine o_pure (i := 2) (fun _ _ => trivial) rfl rfl (by kernel_rfl) (goes0 rfl) (QOk.then QOk.body) (fun w => q_fieldAddr (ft := 23) (o := 0) rfl (by kernel_rfl)) ?_
 refine o_held (i := 3) [4, 5, 6, 7, 8, 9, 10, 11, 12, 13, 14, 15, 16, 17, 18] (fun _ _ => trivial) rfl rfl (by kernel_rfl) (goes0 rfl) (QOk.then QOk.body) (q_load1 rfl (by kernel_rfl) (hS4.cell (i := 0) rfl rfl)) ?_
 refine o_eff (i := 1) (by kernel_rfl) rfl (goes0 rfl) (fun K hK => ?_)
 refine e_call (by kernel_rfl) (Code1_ok cz az bz hcz _ (hl.keep id hS4) (hS4.base _ _ hbz)) rfl (after_R hS4 (fun v5 w5 hv5 hS5 => ?_))
 clear hS4
 obtain rfl := hv5
 refine hK _ _ ⟨trivial, fun _ _ => by first | exact q_load1 rfl (by kernel_rfl) (hS5.cell (i := 0) rfl rfl)⟩ ?_; clear hK K
 refine o_pure (i := 4) (fun j w => ⟨(fun _ _ => trivial) j w, fun _ h => h⟩) rfl rfl (by kernel_rfl) (goes0 rfl) (QOk.then QOk.body) (fun w => q_eql rfl rfl) ?_
 refine o_pure (i := 5) (fun j w => ⟨(fun _ _ => trivial) j w, fun _ h => h⟩) rfl rfl (by kernel_rfl) (goes0 rfl) (QOk.then QOk.body) (fun w => q_moveB rfl) ?_
 refine g_splitO (t := 10) rfl (fun hg6 => ?_) (fun hg6 => ?_)
 ·
  have hg6b := hg6
  try simp only [decide_eq_true_eq, decide_eq_false_iff_not, Bool.not_eq_true', Bool.not_eq_false', Bool.and_eq_true, Bool.or_eq_true, Int.not_lt, Int.not_le, ne_eq, Decidable.not_not] at hg6
  refine o_pure (i := 6) (fun j w => ⟨(fun _ _ => trivial) j w, fun _ h => h⟩) rfl rfl (by kernel_rfl) (goes1 rfl rfl hg6b) (QOk.then QOk.body) (fun w => q_move rfl) ?_
  refine o_pure (i := 8) (fun j w => ⟨(fun _ _ => trivial) j w, fun _ h => h⟩) rfl rfl (by kernel_rfl) (goes1 rfl rfl hg6b) (QOk.then QOk.body) (fun w => q_fieldAddr (ft := 3) (o := 1) rfl (by kernel_rfl)) ?_
  refine o_held (i := 9) [10, 11, 12, 13, 14, 15, 16, 17, 18] (fun j w => ⟨(fun _ _ => trivial) j w, fun _ h => h⟩) rfl rfl (by kernel_rfl) (goes1 rfl rfl hg6b) (QOk.then QOk.body) (q_load1 rfl (by kernel_rfl) (hS5.cell (i := 0) rfl rfl)) ?_
  refine o_eff (i := 7) (by kernel_rfl) rfl (goes1 rfl rfl hg6b) (fun K hK => ?_)
  refine e_call (by kernel_rfl) (At1_ok cz az bz hcz _ (hl.keep id hS5) (hS5.base _ _ hbz)) rfl (after_R hS5 (fun v7 w7 hv7 hS7 => ?_))
  clear hS5
  obtain rfl := hv7
  refine hK _ _ ⟨⟨trivial, fun h => absurd h (by decide)⟩, fun _ _ => by first | exact q_load1 rfl (by kernel_rfl) (hS7.cell (i := 0) rfl rfl)⟩ ?_; clear hK K
  refine o_pure (i := 10) (fun j w => ⟨(fun j w => ⟨(fun _ _ => trivial) j w, fun _ h => h⟩) j w, fun _ h => h⟩) rfl rfl (by kernel_rfl) (goes1 rfl rfl hg6b) (QOk.then QOk.body) (fun w => q_eql rfl rfl) ?_
  refine o_pure (i := 11) (fun j w => ⟨(fun j w => ⟨(fun _ _ => trivial) j w, fun _ h => h⟩) j w, fun _ h => h⟩) rfl rfl (by kernel_rfl) (goes0 rfl) (QOk.then QOk.body) (fun w => q_pickT rfl hg6b rfl) ?_
  refine o_pure (i := 12) (fun j w => ⟨(fun j w => ⟨(fun _ _ => trivial) j w, fun _ h => h⟩) j w, fun _ h => h⟩) rfl rfl (by kernel_rfl) (goes0 rfl) (QOk.then QOk.body) (fun w => q_moveB rfl) ?_
  refine g_splitO (t := 17) rfl (fun hg8 => ?_) (fun hg8 => ?_)
  ·
   have hg8b := hg8
   try simp only [decide_eq_true_eq, decide_eq_false_iff_not, Bool.not_eq_true', Bool.not_eq_false', Bool.and_eq_true, Bool.or_eq_true, Int.not_lt, Int.not_le, ne_eq, Decidable.not_not] at hg8
   refine o_pure (i := 13) (fun j w => ⟨(fun j w => ⟨(fun _ _ => trivial) j w, fun _ h => h⟩) j w, fun _ h => h⟩) rfl rfl (by kernel_rfl) (goes1 rfl rfl hg8b) (QOk.then QOk.body) (fun w => q_move rfl) ?_
   refine o_eff (i := 14) (by kernel_rfl) rfl (goes1 rfl rfl hg8b) (fun K hK => ?_)
   refine e_call (by kernel_rfl) (Codes1_ok cz az bz hcz _ (hl.keep id hS7) (hS7.base _ _ hbz)) rfl (after_R hS7 (fun v9 w9 hv9 hS9 => ?_))
   clear hS7
   obtain ⟨ad9, cp9, rfl⟩ := hv9
   refine hK _ _ ⟨⟨trivial, fun h => absurd h (by decide)⟩, fun h => absurd h (by decide)⟩ ?_; clear hK K
   refine o_pure (i := 15) (fun j w => ⟨(fun j w => ⟨(fun _ _ => trivial) j w, fun _ h => h⟩) j w, fun _ h => h⟩) rfl rfl (by kernel_rfl) (goes1 rfl rfl hg8b) (QOk.then QOk.body) (fun w => q_lenSl (e := 23) rfl (by kernel_rfl)) ?_
   refine o_pure (i := 16) (fun j w => ⟨(fun j w => ⟨(fun _ _ => trivial) j w, fun _ h => h⟩) j w, fun _ h => h⟩) rfl rfl (by kernel_rfl) (goes1 rfl rfl hg8b) (QOk.then QOk.body) (fun w => q_leq rfl rfl) ?_
   refine o_pure (i := 17) (fun j w => ⟨(fun j w => ⟨(fun _ _ => trivial) j w, fun _ h => h⟩) j w, fun _ h => h⟩) rfl rfl (by kernel_rfl) (goes0 rfl) (QOk.then QOk.body) (fun w => q_pickT rfl hg8b rfl) ?_
   refine o_pure (i := 18) (fun j w => ⟨(fun j w => ⟨(fun _ _ => trivial) j w, fun _ h => h⟩) j w, fun _ h => h⟩) rfl rfl (by kernel_rfl) (goes0 rfl) (QOk.then QOk.body) (fun w => q_assignB rfl) ?_
   refine o_done (by kernel_rfl) ?_
   refine hK3 _ _ ?_
   refine wp_ret ?_
   refine c_ret1 rfl rfl ?_
   exact ⟨_, rfl, congrArg Value.bool (by first | (symm; exact decide_eq_true (by omega)) | (symm; exact decide_eq_false (by omega)) | exact decide_eq_decide.2 (by omega)), hS9.drop⟩
  ·
   have hg8b := hg8
   try simp only [decide_eq_true_eq, decide_eq_false_iff_not, Bool.not_eq_true', Bool.not_eq_false', Bool.and_eq_true, Bool.or_eq_true, Int.not_lt, Int.not_le, ne_eq, Decidable.not_not] at hg8
   refine o_off (i := 13) (fun j w => ⟨(fun j w => ⟨(fun _ _ => trivial) j w, fun _ h => h⟩) j w, fun _ h => h⟩) rfl rfl (by kernel_rfl) rfl rfl hg8b (QOk.then QOk.body) ?_
   refine o_off (i := 14) (fun j w => ⟨(fun j w => ⟨(fun _ _ => trivial) j w, fun _ h => h⟩) j w, fun _ h => h⟩) rfl rfl (by kernel_rfl) rfl rfl hg8b (QOk.then QOk.body) ?_
   refine o_off (i := 15) (fun j w => ⟨(fun j w => ⟨(fun _ _ => trivial) j w, fun _ h => h⟩) j w, fun _ h => h⟩) rfl rfl (by kernel_rfl) rfl rfl hg8b (QOk.then QOk.body) ?_
   refine o_off (i := 16) (fun j w => ⟨(fun j w => ⟨(fun _ _ => trivial) j w, fun _ h => h⟩) j w, fun _ h => h⟩) rfl rfl (by kernel_rfl) rfl rfl hg8b (QOk.then QOk.body) ?_
   refine o_pure (i := 17) (fun j w => ⟨(fun j w => ⟨(fun _ _ => trivial) j w, fun _ h => h⟩) j w, fun _ h => h⟩) rfl rfl (by kernel_rfl) (goes0 rfl) (QOk.then QOk.body) (fun w => q_pickF rfl hg8b rfl) ?_
   refine o_pure (i := 18) (fun j w => ⟨(fun j w => ⟨(fun _ _ => trivial) j w, fun _ h => h⟩) j w, fun _ h => h⟩) rfl rfl (by kernel_rfl) (goes0 rfl) (QOk.then QOk.body) (fun w => q_assignB rfl) ?_
   refine o_done (by kernel_rfl) ?_
   refine hK3 _ _ ?_
   refine wp_ret ?_
   refine c_ret1 rfl rfl ?_
   exact ⟨_, rfl, congrArg Value.bool (by first | (symm; exact decide_eq_true (by omega)) | (symm; exact decide_eq_false (by omega)) | exact decide_eq_decide.2 (by omega)), hS7.drop⟩
 ·
  have hg6b := hg6
  try simp only [decide_eq_true_eq, decide_eq_false_iff_not, Bool.not_eq_true', Bool.not_eq_false', Bool.and_eq_true, Bool.or_eq_true, Int.not_lt, Int.not_le, ne_eq, Decidable.not_not] at hg6
  refine o_off (i := 6) (fun j w => ⟨(fun _ _ => trivial) j w, fun _ h => h⟩) rfl rfl (by kernel_rfl) rfl rfl hg6b (QOk.then QOk.body) ?_
  refine o_off (i := 7) (fun j w => ⟨(fun _ _ => trivial) j w, fun _ h => h⟩) rfl rfl (by kernel_rfl) rfl rfl hg6b (QOk.then QOk.body) ?_
  refine o_off (i := 8) (fun j w => ⟨(fun _ _ => trivial) j w, fun _ h => h⟩) rfl rfl (by kernel_rfl) rfl rfl hg6b (QOk.then QOk.body) ?_
  refine o_off (i := 9) (fun j w => ⟨(fun _ _ => trivial) j w, fun _ h => h⟩) rfl rfl (by kernel_rfl) rfl rfl hg6b (QOk.then QOk.body) ?_
  refine o_off (i := 10) (fun j w => ⟨(fun _ _ => trivial) j w, fun _ h => h⟩) rfl rfl (by kernel_rfl) rfl rfl hg6b (QOk.then QOk.body) ?_
  refine o_pure (i := 11) (fun j w => ⟨(fun _ _ => trivial) j w, fun _ h => h⟩) rfl rfl (by kernel_rfl) (goes0 rfl) (QOk.then QOk.body) (fun w => q_pickF rfl hg6b rfl) ?_
  refine o_pure (i := 12) (fun j w => ⟨(fun _ _ => trivial) j w, fun _ h => h⟩) rfl rfl (by kernel_rfl) (goes0 rfl) (QOk.then QOk.body) (fun w => q_moveB rfl) ?_
  refine o_off (i := 13) (fun j w => ⟨(fun _ _ => trivial) j w, fun _ h => h⟩) rfl rfl (by kernel_rfl) rfl rfl rfl (QOk.then QOk.body) ?_
  refine o_off (i := 14) (fun j w => ⟨(fun _ _ => trivial) j w, fun _ h => h⟩) rfl rfl (by kernel_rfl) rfl rfl rfl (QOk.then QOk.body) ?_
  refine o_off (i := 15) (fun j w => ⟨(fun _ _ => trivial) j w, fun _ h => h⟩) rfl rfl (by kernel_rfl) rfl rfl rfl (QOk.then QOk.body) ?_
  refine o_off (i := 16) (fun j w => ⟨(fun _ _ => trivial) j w, fun _ h => h⟩) rfl rfl (by kernel_rfl) rfl rfl rfl (QOk.then QOk.body) ?_
  refine o_pure (i := 17) (fun j w => ⟨(fun _ _ => trivial) j w, fun _ h => h⟩) rfl rfl (by kernel_rfl) (goes0 rfl) (QOk.then QOk.body) (fun w => q_pickF rfl rfl rfl) ?_
  refine o_pure (i := 18) (fun j w => ⟨(fun _ _ => trivial) j w, fun _ h => h⟩) rfl rfl (by kernel_rfl) (goes0 rfl) (QOk.then QOk.body) (fun w => q_assignB rfl) ?_
  refine o_done (by kernel_rfl) ?_
  refine hK3 _ _ ?_
  refine wp_ret ?_
  refine c_ret1 rfl rfl ?_
  exact ⟨_, rfl, congrArg Value.bool (by first | (symm; exact decide_eq_true (by omega)) | (symm; exact decide_eq_false (by omega)) | exact decide_eq_decide.2 (by omega)), hS5.drop⟩

set_option maxRecDepth 100000 in
theorem numeric_R (a : Vl) (haB : Bytes a.2.2) (w : World) : Calls Tryd.prog 52 #[.agg (vl a).toArray] w (PostR w fun v => v = .bool (decide (a.1 = 2 ∨ a.1 = 3))) := by
 have hS := St.start w
 refine c_enter Tryd.func52 rfl rfl rfl ?_
 refine wp_seq_k (fun K1 hK1 => ?_)
 refine wp_region_lit ?_
 refine l_e rfl (fun K hK => ?_)
 refine e_boxA hS rfl (fun b2 w2 (hS2 : St _ _ [.blk b2 (.cells #[.int .i64 a.1, .int .i64 a.2.1, .string (bs a.2.2)] 51)] _) => ?_)
 clear hS
 refine hK _ _ ?_; clear hK K
 refine l_q rfl rfl (q_assignB rfl) ?_
 refine l_nil ?_
 refine hK1 _ _ ?_
 refine wp_seq_k (fun K3 hK3 => ?_)
 refine wp_region_lit ?_
 refine l_q rfl rfl (q_fieldAddr (ft := 49) (o := 0) rfl (by kernel_rfl)) ?_
 refine l_q rfl rfl (q_load1 rfl (by kernel_rfl) (hS2.cell (i := 0) rfl rfl)) ?_
 refine l_q rfl rfl (q_eql rfl rfl) ?_
 refine l_q rfl rfl (q_moveB rfl) ?_
 refine g_splitL (t := 6) rfl (fun hg4 => ?_) (fun hg4 => ?_)
 ·
  have hg4b := hg4
  try simp only [decide_eq_true_eq, decide_eq_false_iff_not, Bool.not_eq_true', Bool.not_eq_false', Bool.and_eq_true, Bool.or_eq_true, Int.not_lt, Int.not_le, ne_eq, Decidable.not_not] at hg4
  refine l_off rfl rfl rfl hg4b ?_
  refine l_off rfl rfl rfl hg4b ?_
  refine l_off rfl rfl rfl hg4b ?_
  refine l_q rfl rfl (q_pickT rfl hg4b rfl) ?_
  refine l_q rfl rfl (q_assignB rfl) ?_
  refine l_nil ?_
  refine hK3 _ _ ?_
  refine wp_ret ?_
  refine c_ret1 rfl rfl ?_
  exact ⟨_, rfl, congrArg Value.bool (by first | (symm; exact decide_eq_true (by omega)) | (symm; exact decide_eq_false (by omega)) | exact decide_eq_decide.2 (by omega)), hS2.drop⟩
 ·
  have hg4b := hg4
  try simp only [decide_eq_true_eq, decide_eq_false_iff_not, Bool.not_eq_true', Bool.not_eq_false', Bool.and_eq_true, Bool.or_eq_true, Int.not_lt, Int.not_le, ne_eq, Decidable.not_not] at hg4
  refine l_on rfl rfl hg4b ?_
  refine l_q rfl rfl (q_fieldAddr (ft := 49) (o := 0) rfl (by kernel_rfl)) ?_
  refine l_on rfl rfl hg4b ?_
  refine l_q rfl rfl (q_load1 rfl (by kernel_rfl) (hS2.cell (i := 0) rfl rfl)) ?_
  refine l_on rfl rfl hg4b ?_
  refine l_q rfl rfl (q_eql rfl rfl) ?_
  refine l_q rfl rfl (q_pickF rfl hg4b rfl) ?_
  refine l_q rfl rfl (q_assignB rfl) ?_
  refine l_nil ?_
  refine hK3 _ _ ?_
  refine wp_ret ?_
  refine c_ret1 rfl rfl ?_
  exact ⟨_, rfl, congrArg Value.bool (by first | (symm; exact decide_eq_true (by omega)) | (symm; exact decide_eq_false (by omega)) | exact decide_eq_decide.2 (by omega)), hS2.drop⟩

set_option maxHeartbeats 2000000 in
set_option maxRecDepth 100000 in
theorem sign_good (a b : Vl) (haB : Bytes a.2.2) (hbB : Bytes b.2.2) (han0 : -9223372036854775808 ≤ a.2.1) (han1 : a.2.1 ≤ 9223372036854775807) (hbn0 : -9223372036854775808 ≤ b.2.1) (hbn1 : b.2.1 ≤ 9223372036854775807) (hz : (sg03 a b).2.1 = 0) (w : World) : Calls Tryd.prog 33 #[.agg (vl a).toArray, .agg (vl b).toArray] w (PostR w fun v => v = .tuple #[.int .i64 (sg03 a b).1, .nilIface]) := by
 have hS := St.start w
 refine c_enter Tryd.func33 rfl rfl rfl ?_
 refine wp_seq_k (fun K1 hK1 => ?_)
 refine wp_region_lit ?_
 refine l_e rfl (fun K hK => ?_)
 refine e_boxA hS rfl (fun b2 w2 (hS2 : St _ _ [.blk b2 (.cells #[.int .i64 a.1, .int .i64 a.2.1, .string (bs a.2.2)] 51)] _) => ?_)
 clear hS
 refine hK _ _ ?_; clear hK K
 refine l_e rfl (fun K hK => ?_)
 refine e_boxA hS2 rfl (fun b3 w3 (hS3 : St _ _ [.blk b3 (.cells #[.int .i64 b.1, .int .i64 b.2.1, .string (bs b.2.2)] 51), _] _) => ?_)
 clear hS2
 refine hK _ _ ?_; clear hK K
 refine l_q rfl rfl (q_assignI rfl) ?_
 refine l_q rfl rfl (q_assign rfl) ?_
 refine l_nil ?_
 refine hK1 _ _ ?_
 refine wp_seq_k (fun K4 hK4 => ?_)
 refine wp_block ?_
 refine wp_seq_k (fun K5 hK5 => ?_)
 refine wp_region_lit ?_
 refine l_q rfl rfl (q_loadA (m := 3) rfl (by kernel_rfl) (by kernel_rfl) (hS3.blk (i := 1) rfl) rfl rfl) ?_
 refine l_e rfl (fun K hK => ?_)
 refine e_call (by kernel_rfl) (right_ok a haB _) rfl (after_R hS3 (fun v6 w6 hv6 hS6 => ?_))
 clear hS3
 obtain rfl := hv6
 refine hK _ _ ?_; clear hK K
 refine l_q rfl rfl (q_not rfl) ?_
 refine l_q rfl rfl (q_moveB rfl) ?_
 refine g_splitL (t := 10) rfl (fun hg7 => ?_) (fun hg7 => ?_)
 ·
  have hg7b := hg7
  try simp only [decide_eq_true_eq, decide_eq_false_iff_not, Bool.not_eq_true', Bool.not_eq_false', Bool.and_eq_true, Bool.or_eq_true, Int.not_lt, Int.not_le, ne_eq, Decidable.not_not] at hg7
  refine l_off rfl rfl rfl hg7b ?_
  refine l_off rfl rfl rfl hg7b ?_
  refine l_off rfl rfl rfl hg7b ?_
  refine l_q rfl rfl (q_pickT rfl hg7b rfl) ?_
  refine l_q rfl rfl (q_assignB rfl) ?_
  refine l_nil ?_
  refine hK5 _ _ ?_
  refine c_condT rfl rfl ?_
  refine wp_seq_k (fun K9 hK9 => ?_)
  refine wp_region_lit ?_
  refine l_e rfl (fun K hK => ?_)
  refine e_call (by kernel_rfl) (fnew_ok (22 : Int) (0 : Int) rfl _) rfl (after_N hS6 (fun v10 G10 w10 hv10 hS10 => ?_))
  clear hS6
  obtain ⟨b10, rfl, rfl⟩ := hv10
  have hS11 : St _ _ [.blk b10 (.cells #[.int .i64 (22 : Int), .int .i64 (0 : Int), _] 87), _, _] _ := hS10; clear hS10
  refine hK _ _ ?_; clear hK K
  refine l_q rfl rfl (q_assignI rfl) ?_
  refine l_q rfl rfl (q_assign rfl) ?_
  refine l_nil ?_
  refine hK9 _ _ ?_
  refine wp_ret ?_
  refine c_ret2 rfl rfl rfl ?_
  have he : sg03 a b = _ := sg_1 (by first | exact .inl (by assumption) | exact .inr (by simp only [decide_eq_true_eq, decide_eq_false_iff_not] at *; omega))
  rw [he] at hz
  exact absurd hz (by show ¬(22 : Int) = 0; decide)
 ·
  have hg7b := hg7
  try simp only [decide_eq_true_eq, decide_eq_false_iff_not, Bool.not_eq_true', Bool.not_eq_false', Bool.and_eq_true, Bool.or_eq_true, Int.not_lt, Int.not_le, ne_eq, Decidable.not_not] at hg7
  refine l_on rfl rfl hg7b ?_
  refine l_q rfl rfl (q_fieldAddr (ft := 49) (o := 0) rfl (by kernel_rfl)) ?_
  refine l_on rfl rfl hg7b ?_
  refine l_q rfl rfl (q_load1 rfl (by kernel_rfl) (hS6.cell (i := 1) rfl rfl)) ?_
  refine l_on rfl rfl hg7b ?_
  refine l_q rfl rfl (q_eql rfl rfl) ?_
  refine l_q rfl rfl (q_pickF rfl hg7b rfl) ?_
  refine l_q rfl rfl (q_assignB rfl) ?_
  refine l_nil ?_
  refine hK5 _ _ ?_
  refine c_cond rfl (fun hc12 => ?_) (fun hc12 => ?_)
  ·
   have hc12b := hc12
   try simp only [decide_eq_true_eq, decide_eq_false_iff_not, Bool.not_eq_true', Bool.not_eq_false', Bool.and_eq_true, Bool.or_eq_true, Int.not_lt, Int.not_le, ne_eq, Decidable.not_not] at hc12
   refine wp_seq_k (fun K13 hK13 => ?_)
   refine wp_region_lit ?_
   refine l_e rfl (fun K hK => ?_)
   refine e_call (by kernel_rfl) (fnew_ok (22 : Int) (0 : Int) rfl _) rfl (after_N hS6 (fun v14 G14 w14 hv14 hS14 => ?_))
   clear hS6
   obtain ⟨b14, rfl, rfl⟩ := hv14
   have hS15 : St _ _ [.blk b14 (.cells #[.int .i64 (22 : Int), .int .i64 (0 : Int), _] 87), _, _] _ := hS14; clear hS14
   refine hK _ _ ?_; clear hK K
   refine l_q rfl rfl (q_assignI rfl) ?_
   refine l_q rfl rfl (q_assign rfl) ?_
   refine l_nil ?_
   refine hK13 _ _ ?_
   refine wp_ret ?_
   refine c_ret2 rfl rfl rfl ?_
   have he : sg03 a b = _ := sg_1 (by first | exact .inl (by assumption) | exact .inr (by simp only [decide_eq_true_eq, decide_eq_false_iff_not] at *; omega))
   rw [he] at hz
   exact absurd hz (by show ¬(22 : Int) = 0; decide)
  ·
   have hc12b := hc12
   try simp only [decide_eq_true_eq, decide_eq_false_iff_not, Bool.not_eq_true', Bool.not_eq_false', Bool.and_eq_true, Bool.or_eq_true, Int.not_lt, Int.not_le, ne_eq, Decidable.not_not] at hc12
   refine wp_seq_k (fun K16 hK16 => ?_)
   refine wp_region_lit ?_
   refine l_q rfl rfl (q_loadA (m := 3) rfl (by kernel_rfl) (by kernel_rfl) (hS6.blk (i := 0) rfl) rfl rfl) ?_
   refine l_e rfl (fun K hK => ?_)
   refine e_call (by kernel_rfl) (right_ok b hbB _) rfl (after_R hS6 (fun v17 w17 hv17 hS17 => ?_))
   clear hS6
   obtain rfl := hv17
   refine hK _ _ ?_; clear hK K
   refine l_q rfl rfl (q_not rfl) ?_
   refine l_q rfl rfl (q_moveB rfl) ?_
   refine g_splitL (t := 20) rfl (fun hg18 => ?_) (fun hg18 => ?_)
   ·
    have hg18b := hg18
    try simp only [decide_eq_true_eq, decide_eq_false_iff_not, Bool.not_eq_true', Bool.not_eq_false', Bool.and_eq_true, Bool.or_eq_true, Int.not_lt, Int.not_le, ne_eq, Decidable.not_not] at hg18
    refine l_off rfl rfl rfl hg18b ?_
    refine l_off rfl rfl rfl hg18b ?_
    refine l_off rfl rfl rfl hg18b ?_
    refine l_q rfl rfl (q_pickT rfl hg18b rfl) ?_
    refine l_q rfl rfl (q_moveB rfl) ?_
    refine l_off rfl rfl rfl rfl ?_
    refine l_off rfl rfl rfl rfl ?_
    refine l_off rfl rfl rfl rfl ?_
    refine l_off rfl rfl rfl rfl ?_
    refine l_off rfl rfl rfl rfl ?_
    refine l_off rfl rfl rfl rfl ?_
    refine l_offN rfl rfl rfl ?_
    refine l_offN rfl rfl rfl ?_
    refine l_offN rfl rfl rfl ?_
    refine l_offN rfl rfl rfl ?_
    refine l_offN rfl rfl rfl ?_
    refine l_offN rfl rfl rfl ?_
    refine l_offN rfl rfl rfl ?_
    refine l_off rfl rfl rfl rfl ?_
    refine l_q rfl rfl (q_pickT rfl rfl rfl) ?_
    refine l_q rfl rfl (q_assignB rfl) ?_
    refine l_nil ?_
    refine hK16 _ _ ?_
    refine c_condT rfl rfl ?_
    refine wp_seq_k (fun K20 hK20 => ?_)
    refine wp_region_lit ?_
    refine l_e rfl (fun K hK => ?_)
    refine e_call (by kernel_rfl) (fnew_ok (22 : Int) (1 : Int) rfl _) rfl (after_N hS17 (fun v21 G21 w21 hv21 hS21 => ?_))
    clear hS17
    obtain ⟨b21, rfl, rfl⟩ := hv21
    have hS22 : St _ _ [.blk b21 (.cells #[.int .i64 (22 : Int), .int .i64 (1 : Int), _] 87), _, _] _ := hS21; clear hS21
    refine hK _ _ ?_; clear hK K
    refine l_q rfl rfl (q_assignI rfl) ?_
    refine l_q rfl rfl (q_assign rfl) ?_
    refine l_nil ?_
    refine hK20 _ _ ?_
    refine wp_ret ?_
    refine c_ret2 rfl rfl rfl ?_
    have he : sg03 a b = _ := sg_2 (no_or (by assumption) (by simp only [decide_eq_true_eq, decide_eq_false_iff_not] at *; omega)) (by first | exact .inl (by assumption) | exact .inr (by simp only [decide_eq_true_eq, decide_eq_false_iff_not] at *; omega))
    rw [he] at hz
    exact absurd hz (by show ¬(22 : Int) = 0; decide)
   ·
    have hg18b := hg18
    try simp only [decide_eq_true_eq, decide_eq_false_iff_not, Bool.not_eq_true', Bool.not_eq_false', Bool.and_eq_true, Bool.or_eq_true, Int.not_lt, Int.not_le, ne_eq, Decidable.not_not] at hg18
    refine l_on rfl rfl hg18b ?_
    refine l_q rfl rfl (q_fieldAddr (ft := 49) (o := 0) rfl (by kernel_rfl)) ?_
    refine l_on rfl rfl hg18b ?_
    refine l_q rfl rfl (q_load1 rfl (by kernel_rfl) (hS17.cell (i := 0) rfl rfl)) ?_
    refine l_on rfl rfl hg18b ?_
    refine l_q rfl rfl (q_eql rfl rfl) ?_
    refine l_q rfl rfl (q_pickF rfl hg18b rfl) ?_
    refine l_q rfl rfl (q_moveB rfl) ?_
    refine g_splitL (t := 25) rfl (fun hg23 => ?_) (fun hg23 => ?_)
    ·
     have hg23b := hg23
     try simp only [decide_eq_true_eq, decide_eq_false_iff_not, Bool.not_eq_true', Bool.not_eq_false', Bool.and_eq_true, Bool.or_eq_true, Int.not_lt, Int.not_le, ne_eq, Decidable.not_not] at hg23
     refine l_off rfl rfl rfl hg23b ?_
     refine l_off rfl rfl rfl hg23b ?_
     refine l_off rfl rfl rfl hg23b ?_
     refine l_off rfl rfl rfl hg23b ?_
     refine l_off rfl rfl rfl hg23b ?_
     refine l_off rfl rfl rfl hg23b ?_
     refine l_offN rfl rfl rfl ?_
     refine l_offN rfl rfl rfl ?_
     refine l_offN rfl rfl rfl ?_
     refine l_offN rfl rfl rfl ?_
     refine l_offN rfl rfl rfl ?_
     refine l_offN rfl rfl rfl ?_
     refine l_offN rfl rfl rfl ?_
     refine l_off rfl rfl rfl hg23b ?_
     refine l_q rfl rfl (q_pickT rfl hg23b rfl) ?_
     refine l_q rfl rfl (q_assignB rfl) ?_
     refine l_nil ?_
     refine hK16 _ _ ?_
     refine c_condT rfl rfl ?_
     refine wp_seq_k (fun K25 hK25 => ?_)
     refine wp_region_lit ?_
     refine l_e rfl (fun K hK => ?_)
     refine e_call (by kernel_rfl) (fnew_ok (22 : Int) (1 : Int) rfl _) rfl (after_N hS17 (fun v26 G26 w26 hv26 hS26 => ?_))
     clear hS17
     obtain ⟨b26, rfl, rfl⟩ := hv26
     have hS27 : St _ _ [.blk b26 (.cells #[.int .i64 (22 : Int), .int .i64 (1 : Int), _] 87), _, _] _ := hS26; clear hS26
     refine hK _ _ ?_; clear hK K
     refine l_q rfl rfl (q_assignI rfl) ?_
     refine l_q rfl rfl (q_assign rfl) ?_
     refine l_nil ?_
     refine hK25 _ _ ?_
     refine wp_ret ?_
     refine c_ret2 rfl rfl rfl ?_
     have he : sg03 a b = _ := sg_2 (no_or (by assumption) (by simp only [decide_eq_true_eq, decide_eq_false_iff_not] at *; omega)) (by first | exact .inl (by assumption) | exact .inr (by simp only [decide_eq_true_eq, decide_eq_false_iff_not] at *; omega))
     rw [he] at hz
     exact absurd hz (by show ¬(22 : Int) = 0; decide)
    ·
     have hg23b := hg23
     try simp only [decide_eq_true_eq, decide_eq_false_iff_not, Bool.not_eq_true', Bool.not_eq_false', Bool.and_eq_true, Bool.or_eq_true, Int.not_lt, Int.not_le, ne_eq, Decidable.not_not] at hg23
     refine l_on rfl rfl hg23b ?_
     refine l_q rfl rfl (q_fieldAddr (ft := 49) (o := 0) rfl (by kernel_rfl)) ?_
     refine l_on rfl rfl hg23b ?_
     refine l_q rfl rfl (q_load1 rfl (by kernel_rfl) (hS17.cell (i := 1) rfl rfl)) ?_
     refine l_on rfl rfl hg23b ?_
     refine l_q rfl rfl (q_fieldAddr (ft := 49) (o := 0) rfl (by kernel_rfl)) ?_
     refine l_on rfl rfl hg23b ?_
     refine l_q rfl rfl (q_load1 rfl (by kernel_rfl) (hS17.cell (i := 0) rfl rfl)) ?_
     refine l_on rfl rfl hg23b ?_
     refine l_q rfl rfl (q_neq rfl rfl) ?_
     refine l_on rfl rfl hg23b ?_
     refine l_q rfl rfl (q_moveB rfl) ?_
     refine g_splitL (t := 31) rfl (fun hg28 => ?_) (fun hg28 => ?_)
     ·
      have hg28b := hg28
      try simp only [decide_eq_true_eq, decide_eq_false_iff_not, Bool.not_eq_true', Bool.not_eq_false', Bool.and_eq_true, Bool.or_eq_true, Int.not_lt, Int.not_le, ne_eq, Decidable.not_not] at hg28
      refine l_on rfl rfl hg28b ?_
      refine l_q rfl rfl (q_loadA (m := 3) rfl (by kernel_rfl) (by kernel_rfl) (hS17.blk (i := 1) rfl) rfl rfl) ?_
      refine l_on rfl rfl hg28b ?_
      refine l_e rfl (fun K hK => ?_)
      refine e_call (by kernel_rfl) (numeric_R a haB _) rfl (after_R hS17 (fun v29 w29 hv29 hS29 => ?_))
      clear hS17
      obtain rfl := hv29
      refine hK _ _ ?_; clear hK K
      refine l_on rfl rfl hg28b ?_
      refine l_q rfl rfl (q_moveB rfl) ?_
      refine g_splitL (t := 34) rfl (fun hg30 => ?_) (fun hg30 => ?_)
      ·
       have hg30b := hg30
       try simp only [decide_eq_true_eq, decide_eq_false_iff_not, Bool.not_eq_true', Bool.not_eq_false', Bool.and_eq_true, Bool.or_eq_true, Int.not_lt, Int.not_le, ne_eq, Decidable.not_not] at hg30
       refine l_on rfl rfl hg30b ?_
       refine l_q rfl rfl (q_loadA (m := 3) rfl (by kernel_rfl) (by kernel_rfl) (hS29.blk (i := 0) rfl) rfl rfl) ?_
       refine l_on rfl rfl hg30b ?_
       refine l_e rfl (fun K hK => ?_)
       refine e_call (by kernel_rfl) (numeric_R b hbB _) rfl (after_R hS29 (fun v31 w31 hv31 hS31 => ?_))
       clear hS29
       obtain rfl := hv31
       refine hK _ _ ?_; clear hK K
       refine l_on rfl rfl hg28b ?_
       refine l_q rfl rfl (q_pickT rfl hg30b rfl) ?_
       refine l_on rfl rfl hg28b ?_
       refine l_q rfl rfl (q_not rfl) ?_
       refine l_on rfl rfl hg23b ?_
       refine l_q rfl rfl (q_pickT rfl hg28b rfl) ?_
       refine l_q rfl rfl (q_pickF rfl hg23b rfl) ?_
       refine l_q rfl rfl (q_assignB rfl) ?_
       refine l_nil ?_
       refine hK16 _ _ ?_
       refine c_cond rfl (fun hc32 => ?_) (fun hc32 => ?_)
       ·
        have hc32b := hc32
        try simp only [decide_eq_true_eq, decide_eq_false_iff_not, Bool.not_eq_true', Bool.not_eq_false', Bool.and_eq_true, Bool.or_eq_true, Int.not_lt, Int.not_le, ne_eq, Decidable.not_not] at hc32
        refine wp_seq_k (fun K33 hK33 => ?_)
        refine wp_region_lit ?_
        refine l_e rfl (fun K hK => ?_)
        refine e_call (by kernel_rfl) (fnew_ok (22 : Int) (1 : Int) rfl _) rfl (after_N hS31 (fun v34 G34 w34 hv34 hS34 => ?_))
        clear hS31
        obtain ⟨b34, rfl, rfl⟩ := hv34
        have hS35 : St _ _ [.blk b34 (.cells #[.int .i64 (22 : Int), .int .i64 (1 : Int), _] 87), _, _] _ := hS34; clear hS34
        refine hK _ _ ?_; clear hK K
        refine l_q rfl rfl (q_assignI rfl) ?_
        refine l_q rfl rfl (q_assign rfl) ?_
        refine l_nil ?_
        refine hK33 _ _ ?_
        refine wp_ret ?_
        refine c_ret2 rfl rfl rfl ?_
        have he : sg03 a b = _ := sg_2 (no_or (by assumption) (by simp only [decide_eq_true_eq, decide_eq_false_iff_not] at *; omega)) (by first | exact .inl (by assumption) | exact .inr (by simp only [decide_eq_true_eq, decide_eq_false_iff_not] at *; omega))
        rw [he] at hz
        exact absurd hz (by show ¬(22 : Int) = 0; decide)
       ·
        have hc32b := hc32
        try simp only [decide_eq_true_eq, decide_eq_false_iff_not, Bool.not_eq_true', Bool.not_eq_false', Bool.and_eq_true, Bool.or_eq_true, Int.not_lt, Int.not_le, ne_eq, Decidable.not_not] at hc32
        refine wp_seq_k (fun K36 hK36 => ?_)
        refine wp_region_lit ?_
        refine l_q rfl rfl (q_loadA (m := 3) rfl (by kernel_rfl) (by kernel_rfl) (hS31.blk (i := 1) rfl) rfl rfl) ?_
        refine l_e rfl (fun K hK => ?_)
        refine e_call (by kernel_rfl) (numeric_R a haB _) rfl (after_R hS31 (fun v37 w37 hv37 hS37 => ?_))
        clear hS31
        obtain rfl := hv37
        refine hK _ _ ?_; clear hK K
        refine l_q rfl rfl (q_assignB rfl) ?_
        refine l_nil ?_
        refine hK36 _ _ ?_
        refine c_cond rfl (fun hc38 => ?_) (fun hc38 => ?_)
        ·
         have hc38b := hc38
         try simp only [decide_eq_true_eq, decide_eq_false_iff_not, Bool.not_eq_true', Bool.not_eq_false', Bool.and_eq_true, Bool.or_eq_true, Int.not_lt, Int.not_le, ne_eq, Decidable.not_not] at hc38
         refine wp_seq_k (fun K39 hK39 => ?_)
         refine wp_region_lit ?_
         refine l_q rfl rfl (q_loadA (m := 3) rfl (by kernel_rfl) (by kernel_rfl) (hS37.blk (i := 1) rfl) rfl rfl) ?_
         refine l_q rfl rfl (q_loadA (m := 3) rfl (by kernel_rfl) (by kernel_rfl) (hS37.blk (i := 0) rfl) rfl rfl) ?_
         refine l_e rfl (fun K hK => ?_)
         refine e_call (by kernel_rfl) (order_R a b (by assumption) (by assumption) (by omega) (by omega) han0 han1 hbn0 hbn1 _) rfl (after_R hS37 (fun v40 w40 hv40 hS40 => ?_))
         clear hS37
         obtain rfl := hv40
         refine hK _ _ ?_; clear hK K
         refine l_q rfl rfl (q_assignI rfl) ?_
         refine l_q rfl rfl (q_assign rfl) ?_
         refine l_nil ?_
         refine hK39 _ _ ?_
         refine wp_ret ?_
         refine c_ret2 rfl rfl rfl ?_
         have he : sg03 a b = _ := sg_3 (no_or (by assumption) (by simp only [decide_eq_true_eq, decide_eq_false_iff_not] at *; omega)) (no_or (by assumption) (by simp only [decide_eq_true_eq, decide_eq_false_iff_not] at *; omega)) (by simp only [decide_eq_true_eq, decide_eq_false_iff_not] at *; omega)
         exact ⟨_, rfl, (by rw [he]; rfl), hS40.drop⟩
        ·
         have hc38b := hc38
         try simp only [decide_eq_true_eq, decide_eq_false_iff_not, Bool.not_eq_true', Bool.not_eq_false', Bool.and_eq_true, Bool.or_eq_true, Int.not_lt, Int.not_le, ne_eq, Decidable.not_not] at hc38
         refine wp_skip ?_
         refine hK4 _ _ ?_
         refine wp_seq_k (fun K41 hK41 => ?_)
         refine wp_region_lit ?_
         refine l_q rfl rfl (q_loadA (m := 3) rfl (by kernel_rfl) (by kernel_rfl) (hS37.blk (i := 1) rfl) rfl rfl) ?_
         refine l_q rfl rfl (q_loadA (m := 3) rfl (by kernel_rfl) (by kernel_rfl) (hS37.blk (i := 0) rfl) rfl rfl) ?_
         refine l_e rfl (fun K hK => ?_)
         refine e_call (by kernel_rfl) (order_ok a b haB hbB _) rfl (after_R hS37 (fun v42 w42 hv42 hS42 => ?_))
         clear hS37
         obtain rfl := hv42
         refine hK _ _ ?_; clear hK K
         refine l_q rfl rfl (q_assignI rfl) ?_
         refine l_q rfl rfl (q_assign rfl) ?_
         refine l_nil ?_
         refine hK41 _ _ ?_
         refine wp_ret ?_
         refine c_ret2 rfl rfl rfl ?_
         have he : sg03 a b = _ := sg_4 (no_or (by assumption) (by simp only [decide_eq_true_eq, decide_eq_false_iff_not] at *; omega)) (no_or (by assumption) (by simp only [decide_eq_true_eq, decide_eq_false_iff_not] at *; omega)) (by simp only [decide_eq_true_eq, decide_eq_false_iff_not] at *; omega)
         exact ⟨_, rfl, (by rw [he]; rfl), hS42.drop⟩
      ·
       have hg30b := hg30
       try simp only [decide_eq_true_eq, decide_eq_false_iff_not, Bool.not_eq_true', Bool.not_eq_false', Bool.and_eq_true, Bool.or_eq_true, Int.not_lt, Int.not_le, ne_eq, Decidable.not_not] at hg30
       refine l_off rfl rfl rfl hg30b ?_
       refine l_off rfl rfl rfl hg30b ?_
       refine l_on rfl rfl hg28b ?_
       refine l_q rfl rfl (q_pickF rfl hg30b rfl) ?_
       refine l_on rfl rfl hg28b ?_
       refine l_q rfl rfl (q_not rfl) ?_
       refine l_on rfl rfl hg23b ?_
       refine l_q rfl rfl (q_pickT rfl hg28b rfl) ?_
       refine l_q rfl rfl (q_pickF rfl hg23b rfl) ?_
       refine l_q rfl rfl (q_assignB rfl) ?_
       refine l_nil ?_
       refine hK16 _ _ ?_
       refine c_condT rfl rfl ?_
       refine wp_seq_k (fun K44 hK44 => ?_)
       refine wp_region_lit ?_
       refine l_e rfl (fun K hK => ?_)
       refine e_call (by kernel_rfl) (fnew_ok (22 : Int) (1 : Int) rfl _) rfl (after_N hS29 (fun v45 G45 w45 hv45 hS45 => ?_))
       clear hS29
       obtain ⟨b45, rfl, rfl⟩ := hv45
       have hS46 : St _ _ [.blk b45 (.cells #[.int .i64 (22 : Int), .int .i64 (1 : Int), _] 87), _, _] _ := hS45; clear hS45
       refine hK _ _ ?_; clear hK K
       refine l_q rfl rfl (q_assignI rfl) ?_
       refine l_q rfl rfl (q_assign rfl) ?_
       refine l_nil ?_
       refine hK44 _ _ ?_
       refine wp_ret ?_
       refine c_ret2 rfl rfl rfl ?_
       have he : sg03 a b = _ := sg_2 (no_or (by assumption) (by simp only [decide_eq_true_eq, decide_eq_false_iff_not] at *; omega)) (by first | exact .inl (by assumption) | exact .inr (by simp only [decide_eq_true_eq, decide_eq_false_iff_not] at *; omega))
       rw [he] at hz
       exact absurd hz (by show ¬(22 : Int) = 0; decide)
     ·
      have hg28b := hg28
      try simp only [decide_eq_true_eq, decide_eq_false_iff_not, Bool.not_eq_true', Bool.not_eq_false', Bool.and_eq_true, Bool.or_eq_true, Int.not_lt, Int.not_le, ne_eq, Decidable.not_not] at hg28
      refine l_off rfl rfl rfl hg28b ?_
      refine l_off rfl rfl rfl hg28b ?_
      refine l_off rfl rfl rfl hg28b ?_
      refine l_offN rfl rfl rfl ?_
      refine l_offN rfl rfl rfl ?_
      refine l_off rfl rfl rfl hg28b ?_
      refine l_off rfl rfl rfl hg28b ?_
      refine l_on rfl rfl hg23b ?_
      refine l_q rfl rfl (q_pickF rfl hg28b rfl) ?_
      refine l_q rfl rfl (q_pickF rfl hg23b rfl) ?_
      refine l_q rfl rfl (q_assignB rfl) ?_
      refine l_nil ?_
      refine hK16 _ _ ?_
      refine c_condF rfl rfl ?_
      refine wp_seq_k (fun K48 hK48 => ?_)
      refine wp_region_lit ?_
      refine l_q rfl rfl (q_loadA (m := 3) rfl (by kernel_rfl) (by kernel_rfl) (hS17.blk (i := 1) rfl) rfl rfl) ?_
      refine l_e rfl (fun K hK => ?_)
      refine e_call (by kernel_rfl) (numeric_R a haB _) rfl (after_R hS17 (fun v49 w49 hv49 hS49 => ?_))
      clear hS17
      obtain rfl := hv49
      refine hK _ _ ?_; clear hK K
      refine l_q rfl rfl (q_assignB rfl) ?_
      refine l_nil ?_
      refine hK48 _ _ ?_
      refine c_cond rfl (fun hc50 => ?_) (fun hc50 => ?_)
      ·
       have hc50b := hc50
       try simp only [decide_eq_true_eq, decide_eq_false_iff_not, Bool.not_eq_true', Bool.not_eq_false', Bool.and_eq_true, Bool.or_eq_true, Int.not_lt, Int.not_le, ne_eq, Decidable.not_not] at hc50
       refine wp_seq_k (fun K51 hK51 => ?_)
       refine wp_region_lit ?_
       refine l_q rfl rfl (q_loadA (m := 3) rfl (by kernel_rfl) (by kernel_rfl) (hS49.blk (i := 1) rfl) rfl rfl) ?_
       refine l_q rfl rfl (q_loadA (m := 3) rfl (by kernel_rfl) (by kernel_rfl) (hS49.blk (i := 0) rfl) rfl rfl) ?_
       refine l_e rfl (fun K hK => ?_)
       refine e_call (by kernel_rfl) (order_R a b (by assumption) (by assumption) (by omega) (by omega) han0 han1 hbn0 hbn1 _) rfl (after_R hS49 (fun v52 w52 hv52 hS52 => ?_))
       clear hS49
       obtain rfl := hv52
       refine hK _ _ ?_; clear hK K
       refine l_q rfl rfl (q_assignI rfl) ?_
       refine l_q rfl rfl (q_assign rfl) ?_
       refine l_nil ?_
       refine hK51 _ _ ?_
       refine wp_ret ?_
       refine c_ret2 rfl rfl rfl ?_
       have he : sg03 a b = _ := sg_3 (no_or (by assumption) (by simp only [decide_eq_true_eq, decide_eq_false_iff_not] at *; omega)) (no_or (by assumption) (by simp only [decide_eq_true_eq, decide_eq_false_iff_not] at *; omega)) (by simp only [decide_eq_true_eq, decide_eq_false_iff_not] at *; omega)
       exact ⟨_, rfl, (by rw [he]; rfl), hS52.drop⟩
      ·
       have hc50b := hc50
       try simp only [decide_eq_true_eq, decide_eq_false_iff_not, Bool.not_eq_true', Bool.not_eq_false', Bool.and_eq_true, Bool.or_eq_true, Int.not_lt, Int.not_le, ne_eq, Decidable.not_not] at hc50
       refine wp_skip ?_
       refine hK4 _ _ ?_
       refine wp_seq_k (fun K53 hK53 => ?_)
       refine wp_region_lit ?_
       refine l_q rfl rfl (q_loadA (m := 3) rfl (by kernel_rfl) (by kernel_rfl) (hS49.blk (i := 1) rfl) rfl rfl) ?_
       refine l_q rfl rfl (q_loadA (m := 3) rfl (by kernel_rfl) (by kernel_rfl) (hS49.blk (i := 0) rfl) rfl rfl) ?_
       refine l_e rfl (fun K hK => ?_)
       refine e_call (by kernel_rfl) (order_ok a b haB hbB _) rfl (after_R hS49 (fun v54 w54 hv54 hS54 => ?_))
       clear hS49
       obtain rfl := hv54
       refine hK _ _ ?_; clear hK K
       refine l_q rfl rfl (q_assignI rfl) ?_
       refine l_q rfl rfl (q_assign rfl) ?_
       refine l_nil ?_
       refine hK53 _ _ ?_
       refine wp_ret ?_
       refine c_ret2 rfl rfl rfl ?_
       have he : sg03 a b = _ := sg_4 (no_or (by assumption) (by simp only [decide_eq_true_eq, decide_eq_false_iff_not] at *; omega)) (no_or (by assumption) (by simp only [decide_eq_true_eq, decide_eq_false_iff_not] at *; omega)) (by simp only [decide_eq_true_eq, decide_eq_false_iff_not] at *; omega)
       exact ⟨_, rfl, (by rw [he]; rfl), hS54.drop⟩

set_option maxHeartbeats 2000000 in
set_option maxRecDepth 100000 in
theorem sign_bad (a b : Vl) (haB : Bytes a.2.2) (hbB : Bytes b.2.2) (han0 : -9223372036854775808 ≤ a.2.1) (han1 : a.2.1 ≤ 9223372036854775807) (hbn0 : -9223372036854775808 ≤ b.2.1) (hbn1 : b.2.1 ≤ 9223372036854775807) (hz : (sg03 a b).2.1 ≠ 0) (w : World) : Calls Tryd.prog 33 #[.agg (vl a).toArray, .agg (vl b).toArray] w (PostN w fun v G => ∃ b', v = .tuple #[.int .i64 0, fV b'] ∧ G = [.blk b' (fO (sg03 a b).2.1 (sg03 a b).2.2 .nilIface)]) := by
 have hS := St.start w
 refine c_enter Tryd.func33 rfl rfl rfl ?_
 refine wp_seq_k (fun K1 hK1 => ?_)
 refine wp_region_lit ?_
 refine l_e rfl (fun K hK => ?_)
 refine e_boxA hS rfl (fun b2 w2 (hS2 : St _ _ [.blk b2 (.cells #[.int .i64 a.1, .int .i64 a.2.1, .string (bs a.2.2)] 51)] _) => ?_)
 clear hS
 refine hK _ _ ?_; clear hK K
 refine l_e rfl (fun K hK => ?_)
 refine e_boxA hS2 rfl (fun b3 w3 (hS3 : St _ _ [.blk b3 (.cells #[.int .i64 b.1, .int .i64 b.2.1, .string (bs b.2.2)] 51), _] _) => ?_)
 clear hS2
 refine hK _ _ ?_; clear hK K
 refine l_q rfl rfl (q_assignI rfl) ?_
 refine l_q rfl rfl (q_assign rfl) ?_
 refine l_nil ?_
 refine hK1 _ _ ?_
 refine wp_seq_k (fun K4 hK4 => ?_)
 refine wp_block ?_
 refine wp_seq_k (fun K5 hK5 => ?_)
 refine wp_region_lit ?_
 refine l_q rfl rfl (q_loadA (m := 3) rfl (by kernel_rfl) (by kernel_rfl) (hS3.blk (i := 1) rfl) rfl rfl) ?_
 refine l_e rfl (fun K hK => ?_)
 refine e_call (by kernel_rfl) (right_ok a haB _) rfl (after_R hS3 (fun v6 w6 hv6 hS6 => ?_))
 clear hS3
 obtain rfl := hv6
 refine hK _ _ ?_; clear hK K
 refine l_q rfl rfl (q_not rfl) ?_
 refine l_q rfl rfl (q_moveB rfl) ?_
 refine g_splitL (t := 10) rfl (fun hg7 => ?_) (fun hg7 => ?_)
 ·
  have hg7b := hg7
  try simp only [decide_eq_true_eq, decide_eq_false_iff_not, Bool.not_eq_true', Bool.not_eq_false', Bool.and_eq_true, Bool.or_eq_true, Int.not_lt, Int.not_le, ne_eq, Decidable.not_not] at hg7
  refine l_off rfl rfl rfl hg7b ?_
  refine l_off rfl rfl rfl hg7b ?_
  refine l_off rfl rfl rfl hg7b ?_
  refine l_q rfl rfl (q_pickT rfl hg7b rfl) ?_
  refine l_q rfl rfl (q_assignB rfl) ?_
  refine l_nil ?_
  refine hK5 _ _ ?_
  refine c_condT rfl rfl ?_
  refine wp_seq_k (fun K9 hK9 => ?_)
  refine wp_region_lit ?_
  refine l_e rfl (fun K hK => ?_)
  refine e_call (by kernel_rfl) (fnew_ok (22 : Int) (0 : Int) rfl _) rfl (after_N hS6 (fun v10 G10 w10 hv10 hS10 => ?_))
  clear hS6
  obtain ⟨b10, rfl, rfl⟩ := hv10
  have hS11 : St _ _ [.blk b10 (.cells #[.int .i64 (22 : Int), .int .i64 (0 : Int), _] 87), _, _] _ := hS10; clear hS10
  refine hK _ _ ?_; clear hK K
  refine l_q rfl rfl (q_assignI rfl) ?_
  refine l_q rfl rfl (q_assign rfl) ?_
  refine l_nil ?_
  refine hK9 _ _ ?_
  refine wp_ret ?_
  refine c_ret2 rfl rfl rfl ?_
  have hS12 : St _ _ [_] _ := hS11.only 1; clear hS11
  have he : sg03 a b = _ := sg_1 (by first | exact .inl (by assumption) | exact .inr (by simp only [decide_eq_true_eq, decide_eq_false_iff_not] at *; omega))
  exact ⟨_, _, rfl, ⟨b10, rfl, by rw [he]⟩, hS12⟩
 ·
  have hg7b := hg7
  try simp only [decide_eq_true_eq, decide_eq_false_iff_not, Bool.not_eq_true', Bool.not_eq_false', Bool.and_eq_true, Bool.or_eq_true, Int.not_lt, Int.not_le, ne_eq, Decidable.not_not] at hg7
  refine l_on rfl rfl hg7b ?_
  refine l_q rfl rfl (q_fieldAddr (ft := 49) (o := 0) rfl (by kernel_rfl)) ?_
  refine l_on rfl rfl hg7b ?_
  refine l_q rfl rfl (q_load1 rfl (by kernel_rfl) (hS6.cell (i := 1) rfl rfl)) ?_
  refine l_on rfl rfl hg7b ?_
  refine l_q rfl rfl (q_eql rfl rfl) ?_
  refine l_q rfl rfl (q_pickF rfl hg7b rfl) ?_
  refine l_q rfl rfl (q_assignB rfl) ?_
  refine l_nil ?_
  refine hK5 _ _ ?_
  refine c_cond rfl (fun hc13 => ?_) (fun hc13 => ?_)
  ·
   have hc13b := hc13
   try simp only [decide_eq_true_eq, decide_eq_false_iff_not, Bool.not_eq_true', Bool.not_eq_false', Bool.and_eq_true, Bool.or_eq_true, Int.not_lt, Int.not_le, ne_eq, Decidable.not_not] at hc13
   refine wp_seq_k (fun K14 hK14 => ?_)
   refine wp_region_lit ?_
   refine l_e rfl (fun K hK => ?_)
   refine e_call (by kernel_rfl) (fnew_ok (22 : Int) (0 : Int) rfl _) rfl (after_N hS6 (fun v15 G15 w15 hv15 hS15 => ?_))
   clear hS6
   obtain ⟨b15, rfl, rfl⟩ := hv15
   have hS16 : St _ _ [.blk b15 (.cells #[.int .i64 (22 : Int), .int .i64 (0 : Int), _] 87), _, _] _ := hS15; clear hS15
   refine hK _ _ ?_; clear hK K
   refine l_q rfl rfl (q_assignI rfl) ?_
   refine l_q rfl rfl (q_assign rfl) ?_
   refine l_nil ?_
   refine hK14 _ _ ?_
   refine wp_ret ?_
   refine c_ret2 rfl rfl rfl ?_
   have hS17 : St _ _ [_] _ := hS16.only 1; clear hS16
   have he : sg03 a b = _ := sg_1 (by first | exact .inl (by assumption) | exact .inr (by simp only [decide_eq_true_eq, decide_eq_false_iff_not] at *; omega))
   exact ⟨_, _, rfl, ⟨b15, rfl, by rw [he]⟩, hS17⟩
  ·
   have hc13b := hc13
   try simp only [decide_eq_true_eq, decide_eq_false_iff_not, Bool.not_eq_true', Bool.not_eq_false', Bool.and_eq_true, Bool.or_eq_true, Int.not_lt, Int.not_le, ne_eq, Decidable.not_not] at hc13
   refine wp_seq_k (fun K18 hK18 => ?_)
   refine wp_region_lit ?_
   refine l_q rfl rfl (q_loadA (m := 3) rfl (by kernel_rfl) (by kernel_rfl) (hS6.blk (i := 0) rfl) rfl rfl) ?_
   refine l_e rfl (fun K hK => ?_)
   refine e_call (by kernel_rfl) (right_ok b hbB _) rfl (after_R hS6 (fun v19 w19 hv19 hS19 => ?_))
   clear hS6
   obtain rfl := hv19
   refine hK _ _ ?_; clear hK K
   refine l_q rfl rfl (q_not rfl) ?_
   refine l_q rfl rfl (q_moveB rfl) ?_
   refine g_splitL (t := 20) rfl (fun hg20 => ?_) (fun hg20 => ?_)
   ·
    have hg20b := hg20
    try simp only [decide_eq_true_eq, decide_eq_false_iff_not, Bool.not_eq_true', Bool.not_eq_false', Bool.and_eq_true, Bool.or_eq_true, Int.not_lt, Int.not_le, ne_eq, Decidable.not_not] at hg20
    refine l_off rfl rfl rfl hg20b ?_
    refine l_off rfl rfl rfl hg20b ?_
    refine l_off rfl rfl rfl hg20b ?_
    refine l_q rfl rfl (q_pickT rfl hg20b rfl) ?_
    refine l_q rfl rfl (q_moveB rfl) ?_
    refine l_off rfl rfl rfl rfl ?_
    refine l_off rfl rfl rfl rfl ?_
    refine l_off rfl rfl rfl rfl ?_
    refine l_off rfl rfl rfl rfl ?_
    refine l_off rfl rfl rfl rfl ?_
    refine l_off rfl rfl rfl rfl ?_
    refine l_offN rfl rfl rfl ?_
    refine l_offN rfl rfl rfl ?_
    refine l_offN rfl rfl rfl ?_
    refine l_offN rfl rfl rfl ?_
    refine l_offN rfl rfl rfl ?_
    refine l_offN rfl rfl rfl ?_
    refine l_offN rfl rfl rfl ?_
    refine l_off rfl rfl rfl rfl ?_
    refine l_q rfl rfl (q_pickT rfl rfl rfl) ?_
    refine l_q rfl rfl (q_assignB rfl) ?_
    refine l_nil ?_
    refine hK18 _ _ ?_
    refine c_condT rfl rfl ?_
    refine wp_seq_k (fun K22 hK22 => ?_)
    refine wp_region_lit ?_
    refine l_e rfl (fun K hK => ?_)
    refine e_call (by kernel_rfl) (fnew_ok (22 : Int) (1 : Int) rfl _) rfl (after_N hS19 (fun v23 G23 w23 hv23 hS23 => ?_))
    clear hS19
    obtain ⟨b23, rfl, rfl⟩ := hv23
    have hS24 : St _ _ [.blk b23 (.cells #[.int .i64 (22 : Int), .int .i64 (1 : Int), _] 87), _, _] _ := hS23; clear hS23
    refine hK _ _ ?_; clear hK K
    refine l_q rfl rfl (q_assignI rfl) ?_
    refine l_q rfl rfl (q_assign rfl) ?_
    refine l_nil ?_
    refine hK22 _ _ ?_
    refine wp_ret ?_
    refine c_ret2 rfl rfl rfl ?_
    have hS25 : St _ _ [_] _ := hS24.only 1; clear hS24
    have he : sg03 a b = _ := sg_2 (no_or (by assumption) (by simp only [decide_eq_true_eq, decide_eq_false_iff_not] at *; omega)) (by first | exact .inl (by assumption) | exact .inr (by simp only [decide_eq_true_eq, decide_eq_false_iff_not] at *; omega))
    exact ⟨_, _, rfl, ⟨b23, rfl, by rw [he]⟩, hS25⟩
   ·
    have hg20b := hg20
    try simp only [decide_eq_true_eq, decide_eq_false_iff_not, Bool.not_eq_true', Bool.not_eq_false', Bool.and_eq_true, Bool.or_eq_true, Int.not_lt, Int.not_le, ne_eq, Decidable.not_not] at hg20
    refine l_on rfl rfl hg20b ?_
    refine l_q rfl rfl (q_fieldAddr (ft := 49) (o := 0) rfl (by kernel_rfl)) ?_
    refine l_on rfl rfl hg20b ?_
    refine l_q rfl rfl (q_load1 rfl (by kernel_rfl) (hS19.cell (i := 0) rfl rfl)) ?_
    refine l_on rfl rfl hg20b ?_
    refine l_q rfl rfl (q_eql rfl rfl) ?_
    refine l_q rfl rfl (q_pickF rfl hg20b rfl) ?_
    refine l_q rfl rfl (q_moveB rfl) ?_
    refine g_splitL (t := 25) rfl (fun hg26 => ?_) (fun hg26 => ?_)
    ·
     have hg26b := hg26
     try simp only [decide_eq_true_eq, decide_eq_false_iff_not, Bool.not_eq_true', Bool.not_eq_false', Bool.and_eq_true, Bool.or_eq_true, Int.not_lt, Int.not_le, ne_eq, Decidable.not_not] at hg26
     refine l_off rfl rfl rfl hg26b ?_
     refine l_off rfl rfl rfl hg26b ?_
     refine l_off rfl rfl rfl hg26b ?_
     refine l_off rfl rfl rfl hg26b ?_
     refine l_off rfl rfl rfl hg26b ?_
     refine l_off rfl rfl rfl hg26b ?_
     refine l_offN rfl rfl rfl ?_
     refine l_offN rfl rfl rfl ?_
     refine l_offN rfl rfl rfl ?_
     refine l_offN rfl rfl rfl ?_
     refine l_offN rfl rfl rfl ?_
     refine l_offN rfl rfl rfl ?_
     refine l_offN rfl rfl rfl ?_
     refine l_off rfl rfl rfl hg26b ?_
     refine l_q rfl rfl (q_pickT rfl hg26b rfl) ?_
     refine l_q rfl rfl (q_assignB rfl) ?_
     refine l_nil ?_
     refine hK18 _ _ ?_
     refine c_condT rfl rfl ?_
     refine wp_seq_k (fun K28 hK28 => ?_)
     refine wp_region_lit ?_
     refine l_e rfl (fun K hK => ?_)
     refine e_call (by kernel_rfl) (fnew_ok (22 : Int) (1 : Int) rfl _) rfl (after_N hS19 (fun v29 G29 w29 hv29 hS29 => ?_))
     clear hS19
     obtain ⟨b29, rfl, rfl⟩ := hv29
     have hS30 : St _ _ [.blk b29 (.cells #[.int .i64 (22 : Int), .int .i64 (1 : Int), _] 87), _, _] _ := hS29; clear hS29
     refine hK _ _ ?_; clear hK K
     refine l_q rfl rfl (q_assignI rfl) ?_
     refine l_q rfl rfl (q_assign rfl) ?_
     refine l_nil ?_
     refine hK28 _ _ ?_
     refine wp_ret ?_
     refine c_ret2 rfl rfl rfl ?_
     have hS31 : St _ _ [_] _ := hS30.only 1; clear hS30
     have he : sg03 a b = _ := sg_2 (no_or (by assumption) (by simp only [decide_eq_true_eq, decide_eq_false_iff_not] at *; omega)) (by first | exact .inl (by assumption) | exact .inr (by simp only [decide_eq_true_eq, decide_eq_false_iff_not] at *; omega))
     exact ⟨_, _, rfl, ⟨b29, rfl, by rw [he]⟩, hS31⟩
    ·
     have hg26b := hg26
     try simp only [decide_eq_true_eq, decide_eq_false_iff_not, Bool.not_eq_true', Bool.not_eq_false', Bool.and_eq_true, Bool.or_eq_true, Int.not_lt, Int.not_le, ne_eq, Decidable.not_not] at hg26
     refine l_on rfl rfl hg26b ?_
     refine l_q rfl rfl (q_fieldAddr (ft := 49) (o := 0) rfl (by kernel_rfl)) ?_
     refine l_on rfl rfl hg26b ?_
     refine l_q rfl rfl (q_load1 rfl (by kernel_rfl) (hS19.cell (i := 1) rfl rfl)) ?_
     refine l_on rfl rfl hg26b ?_
     refine l_q rfl rfl (q_fieldAddr (ft := 49) (o := 0) rfl (by kernel_rfl)) ?_
     refine l_on rfl rfl hg26b ?_
     refine l_q rfl rfl (q_load1 rfl (by kernel_rfl) (hS19.cell (i := 0) rfl rfl)) ?_
     refine l_on rfl rfl hg26b ?_
     refine l_q rfl rfl (q_neq rfl rfl) ?_
     refine l_on rfl rfl hg26b ?_
     refine l_q rfl rfl (q_moveB rfl) ?_
     refine g_splitL (t := 31) rfl (fun hg32 => ?_) (fun hg32 => ?_)
     ·
      have hg32b := hg32
      try simp only [decide_eq_true_eq, decide_eq_false_iff_not, Bool.not_eq_true', Bool.not_eq_false', Bool.and_eq_true, Bool.or_eq_true, Int.not_lt, Int.not_le, ne_eq, Decidable.not_not] at hg32
      refine l_on rfl rfl hg32b ?_
      refine l_q rfl rfl (q_loadA (m := 3) rfl (by kernel_rfl) (by kernel_rfl) (hS19.blk (i := 1) rfl) rfl rfl) ?_
      refine l_on rfl rfl hg32b ?_
      refine l_e rfl (fun K hK => ?_)
      refine e_call (by kernel_rfl) (numeric_R a haB _) rfl (after_R hS19 (fun v33 w33 hv33 hS33 => ?_))
      clear hS19
      obtain rfl := hv33
      refine hK _ _ ?_; clear hK K
      refine l_on rfl rfl hg32b ?_
      refine l_q rfl rfl (q_moveB rfl) ?_
      refine g_splitL (t := 34) rfl (fun hg34 => ?_) (fun hg34 => ?_)
      ·
       have hg34b := hg34
       try simp only [decide_eq_true_eq, decide_eq_false_iff_not, Bool.not_eq_true', Bool.not_eq_false', Bool.and_eq_true, Bool.or_eq_true, Int.not_lt, Int.not_le, ne_eq, Decidable.not_not] at hg34
       refine l_on rfl rfl hg34b ?_
       refine l_q rfl rfl (q_loadA (m := 3) rfl (by kernel_rfl) (by kernel_rfl) (hS33.blk (i := 0) rfl) rfl rfl) ?_
       refine l_on rfl rfl hg34b ?_
       refine l_e rfl (fun K hK => ?_)
       refine e_call (by kernel_rfl) (numeric_R b hbB _) rfl (after_R hS33 (fun v35 w35 hv35 hS35 => ?_))
       clear hS33
       obtain rfl := hv35
       refine hK _ _ ?_; clear hK K
       refine l_on rfl rfl hg32b ?_
       refine l_q rfl rfl (q_pickT rfl hg34b rfl) ?_
       refine l_on rfl rfl hg32b ?_
       refine l_q rfl rfl (q_not rfl) ?_
       refine l_on rfl rfl hg26b ?_
       refine l_q rfl rfl (q_pickT rfl hg32b rfl) ?_
       refine l_q rfl rfl (q_pickF rfl hg26b rfl) ?_
       refine l_q rfl rfl (q_assignB rfl) ?_
       refine l_nil ?_
       refine hK18 _ _ ?_
       refine c_cond rfl (fun hc36 => ?_) (fun hc36 => ?_)
       ·
        have hc36b := hc36
        try simp only [decide_eq_true_eq, decide_eq_false_iff_not, Bool.not_eq_true', Bool.not_eq_false', Bool.and_eq_true, Bool.or_eq_true, Int.not_lt, Int.not_le, ne_eq, Decidable.not_not] at hc36
        refine wp_seq_k (fun K37 hK37 => ?_)
        refine wp_region_lit ?_
        refine l_e rfl (fun K hK => ?_)
        refine e_call (by kernel_rfl) (fnew_ok (22 : Int) (1 : Int) rfl _) rfl (after_N hS35 (fun v38 G38 w38 hv38 hS38 => ?_))
        clear hS35
        obtain ⟨b38, rfl, rfl⟩ := hv38
        have hS39 : St _ _ [.blk b38 (.cells #[.int .i64 (22 : Int), .int .i64 (1 : Int), _] 87), _, _] _ := hS38; clear hS38
        refine hK _ _ ?_; clear hK K
        refine l_q rfl rfl (q_assignI rfl) ?_
        refine l_q rfl rfl (q_assign rfl) ?_
        refine l_nil ?_
        refine hK37 _ _ ?_
        refine wp_ret ?_
        refine c_ret2 rfl rfl rfl ?_
        have hS40 : St _ _ [_] _ := hS39.only 1; clear hS39
        have he : sg03 a b = _ := sg_2 (no_or (by assumption) (by simp only [decide_eq_true_eq, decide_eq_false_iff_not] at *; omega)) (by first | exact .inl (by assumption) | exact .inr (by simp only [decide_eq_true_eq, decide_eq_false_iff_not] at *; omega))
        exact ⟨_, _, rfl, ⟨b38, rfl, by rw [he]⟩, hS40⟩
       ·
        have hc36b := hc36
        try simp only [decide_eq_true_eq, decide_eq_false_iff_not, Bool.not_eq_true', Bool.not_eq_false', Bool.and_eq_true, Bool.or_eq_true, Int.not_lt, Int.not_le, ne_eq, Decidable.not_not] at hc36
        refine wp_seq_k (fun K41 hK41 => ?_)
        refine wp_region_lit ?_
        refine l_q rfl rfl (q_loadA (m := 3) rfl (by kernel_rfl) (by kernel_rfl) (hS35.blk (i := 1) rfl) rfl rfl) ?_
        refine l_e rfl (fun K hK => ?_)
        refine e_call (by kernel_rfl) (numeric_R a haB _) rfl (after_R hS35 (fun v42 w42 hv42 hS42 => ?_))
        clear hS35
        obtain rfl := hv42
        refine hK _ _ ?_; clear hK K
        refine l_q rfl rfl (q_assignB rfl) ?_
        refine l_nil ?_
        refine hK41 _ _ ?_
        refine c_cond rfl (fun hc43 => ?_) (fun hc43 => ?_)
        ·
         have hc43b := hc43
         try simp only [decide_eq_true_eq, decide_eq_false_iff_not, Bool.not_eq_true', Bool.not_eq_false', Bool.and_eq_true, Bool.or_eq_true, Int.not_lt, Int.not_le, ne_eq, Decidable.not_not] at hc43
         refine wp_seq_k (fun K44 hK44 => ?_)
         refine wp_region_lit ?_
         refine l_q rfl rfl (q_loadA (m := 3) rfl (by kernel_rfl) (by kernel_rfl) (hS42.blk (i := 1) rfl) rfl rfl) ?_
         refine l_q rfl rfl (q_loadA (m := 3) rfl (by kernel_rfl) (by kernel_rfl) (hS42.blk (i := 0) rfl) rfl rfl) ?_
         refine l_e rfl (fun K hK => ?_)
         refine e_call (by kernel_rfl) (order_R a b (by assumption) (by assumption) (by omega) (by omega) han0 han1 hbn0 hbn1 _) rfl (after_R hS42 (fun v45 w45 hv45 hS45 => ?_))
         clear hS42
         obtain rfl := hv45
         refine hK _ _ ?_; clear hK K
         refine l_q rfl rfl (q_assignI rfl) ?_
         refine l_q rfl rfl (q_assign rfl) ?_
         refine l_nil ?_
         refine hK44 _ _ ?_
         refine wp_ret ?_
         refine c_ret2 rfl rfl rfl ?_
         have he : sg03 a b = _ := sg_3 (no_or (by assumption) (by simp only [decide_eq_true_eq, decide_eq_false_iff_not] at *; omega)) (no_or (by assumption) (by simp only [decide_eq_true_eq, decide_eq_false_iff_not] at *; omega)) (by simp only [decide_eq_true_eq, decide_eq_false_iff_not] at *; omega)
         rw [he] at hz
         exact absurd rfl hz
        ·
         have hc43b := hc43
         try simp only [decide_eq_true_eq, decide_eq_false_iff_not, Bool.not_eq_true', Bool.not_eq_false', Bool.and_eq_true, Bool.or_eq_true, Int.not_lt, Int.not_le, ne_eq, Decidable.not_not] at hc43
         refine wp_skip ?_
         refine hK4 _ _ ?_
         refine wp_seq_k (fun K46 hK46 => ?_)
         refine wp_region_lit ?_
         refine l_q rfl rfl (q_loadA (m := 3) rfl (by kernel_rfl) (by kernel_rfl) (hS42.blk (i := 1) rfl) rfl rfl) ?_
         refine l_q rfl rfl (q_loadA (m := 3) rfl (by kernel_rfl) (by kernel_rfl) (hS42.blk (i := 0) rfl) rfl rfl) ?_
         refine l_e rfl (fun K hK => ?_)
         refine e_call (by kernel_rfl) (order_ok a b haB hbB _) rfl (after_R hS42 (fun v47 w47 hv47 hS47 => ?_))
         clear hS42
         obtain rfl := hv47
         refine hK _ _ ?_; clear hK K
         refine l_q rfl rfl (q_assignI rfl) ?_
         refine l_q rfl rfl (q_assign rfl) ?_
         refine l_nil ?_
         refine hK46 _ _ ?_
         refine wp_ret ?_
         refine c_ret2 rfl rfl rfl ?_
         have he : sg03 a b = _ := sg_4 (no_or (by assumption) (by simp only [decide_eq_true_eq, decide_eq_false_iff_not] at *; omega)) (no_or (by assumption) (by simp only [decide_eq_true_eq, decide_eq_false_iff_not] at *; omega)) (by simp only [decide_eq_true_eq, decide_eq_false_iff_not] at *; omega)
         rw [he] at hz
         exact absurd rfl hz
      ·
       have hg34b := hg34
       try simp only [decide_eq_true_eq, decide_eq_false_iff_not, Bool.not_eq_true', Bool.not_eq_false', Bool.and_eq_true, Bool.or_eq_true, Int.not_lt, Int.not_le, ne_eq, Decidable.not_not] at hg34
       refine l_off rfl rfl rfl hg34b ?_
       refine l_off rfl rfl rfl hg34b ?_
       refine l_on rfl rfl hg32b ?_
       refine l_q rfl rfl (q_pickF rfl hg34b rfl) ?_
       refine l_on rfl rfl hg32b ?_
       refine l_q rfl rfl (q_not rfl) ?_
       refine l_on rfl rfl hg26b ?_
       refine l_q rfl rfl (q_pickT rfl hg32b rfl) ?_
       refine l_q rfl rfl (q_pickF rfl hg26b rfl) ?_
       refine l_q rfl rfl (q_assignB rfl) ?_
       refine l_nil ?_
       refine hK18 _ _ ?_
       refine c_condT rfl rfl ?_
       refine wp_seq_k (fun K49 hK49 => ?_)
       refine wp_region_lit ?_
       refine l_e rfl (fun K hK => ?_)
       refine e_call (by kernel_rfl) (fnew_ok (22 : Int) (1 : Int) rfl _) rfl (after_N hS33 (fun v50 G50 w50 hv50 hS50 => ?_))
       clear hS33
       obtain ⟨b50, rfl, rfl⟩ := hv50
       have hS51 : St _ _ [.blk b50 (.cells #[.int .i64 (22 : Int), .int .i64 (1 : Int), _] 87), _, _] _ := hS50; clear hS50
       refine hK _ _ ?_; clear hK K
       refine l_q rfl rfl (q_assignI rfl) ?_
       refine l_q rfl rfl (q_assign rfl) ?_
       refine l_nil ?_
       refine hK49 _ _ ?_
       refine wp_ret ?_
       refine c_ret2 rfl rfl rfl ?_
       have hS52 : St _ _ [_] _ := hS51.only 1; clear hS51
       have he : sg03 a b = _ := sg_2 (no_or (by assumption) (by simp only [decide_eq_true_eq, decide_eq_false_iff_not] at *; omega)) (by first | exact .inl (by assumption) | exact .inr (by simp only [decide_eq_true_eq, decide_eq_false_iff_not] at *; omega))
       exact ⟨_, _, rfl, ⟨b50, rfl, by rw [he]⟩, hS52⟩
     ·
      have hg32b := hg32
      try simp only [decide_eq_true_eq, decide_eq_false_iff_not, Bool.not_eq_true', Bool.not_eq_false', Bool.and_eq_true, Bool.or_eq_true, Int.not_lt, Int.not_le, ne_eq, Decidable.not_not] at hg32
      refine l_off rfl rfl rfl hg32b ?_
      refine l_off rfl rfl rfl hg32b ?_
      refine l_off rfl rfl rfl hg32b ?_
      refine l_offN rfl rfl rfl ?_
      refine l_offN rfl rfl rfl ?_
      refine l_off rfl rfl rfl hg32b ?_
      refine l_off rfl rfl rfl hg32b ?_
      refine l_on rfl rfl hg26b ?_
      refine l_q rfl rfl (q_pickF rfl hg32b rfl) ?_
      refine l_q rfl rfl (q_pickF rfl hg26b rfl) ?_
      refine l_q rfl rfl (q_assignB rfl) ?_
      refine l_nil ?_
      refine hK18 _ _ ?_
      refine c_condF rfl rfl ?_
      refine wp_seq_k (fun K54 hK54 => ?_)
      refine wp_region_lit ?_
      refine l_q rfl rfl (q_loadA (m := 3) rfl (by kernel_rfl) (by kernel_rfl) (hS19.blk (i := 1) rfl) rfl rfl) ?_
      refine l_e rfl (fun K hK => ?_)
      refine e_call (by kernel_rfl) (numeric_R a haB _) rfl (after_R hS19 (fun v55 w55 hv55 hS55 => ?_))
      clear hS19
      obtain rfl := hv55
      refine hK _ _ ?_; clear hK K
      refine l_q rfl rfl (q_assignB rfl) ?_
      refine l_nil ?_
      refine hK54 _ _ ?_
      refine c_cond rfl (fun hc56 => ?_) (fun hc56 => ?_)
      ·
       have hc56b := hc56
       try simp only [decide_eq_true_eq, decide_eq_false_iff_not, Bool.not_eq_true', Bool.not_eq_false', Bool.and_eq_true, Bool.or_eq_true, Int.not_lt, Int.not_le, ne_eq, Decidable.not_not] at hc56
       refine wp_seq_k (fun K57 hK57 => ?_)
       refine wp_region_lit ?_
       refine l_q rfl rfl (q_loadA (m := 3) rfl (by kernel_rfl) (by kernel_rfl) (hS55.blk (i := 1) rfl) rfl rfl) ?_
       refine l_q rfl rfl (q_loadA (m := 3) rfl (by kernel_rfl) (by kernel_rfl) (hS55.blk (i := 0) rfl) rfl rfl) ?_
       refine l_e rfl (fun K hK => ?_)
       refine e_call (by kernel_rfl) (order_R a b (by assumption) (by assumption) (by omega) (by omega) han0 han1 hbn0 hbn1 _) rfl (after_R hS55 (fun v58 w58 hv58 hS58 => ?_))
       clear hS55
       obtain rfl := hv58
       refine hK _ _ ?_; clear hK K
       refine l_q rfl rfl (q_assignI rfl) ?_
       refine l_q rfl rfl (q_assign rfl) ?_
       refine l_nil ?_
       refine hK57 _ _ ?_
       refine wp_ret ?_
       refine c_ret2 rfl rfl rfl ?_
       have he : sg03 a b = _ := sg_3 (no_or (by assumption) (by simp only [decide_eq_true_eq, decide_eq_false_iff_not] at *; omega)) (no_or (by assumption) (by simp only [decide_eq_true_eq, decide_eq_false_iff_not] at *; omega)) (by simp only [decide_eq_true_eq, decide_eq_false_iff_not] at *; omega)
       rw [he] at hz
       exact absurd rfl hz
      ·
       have hc56b := hc56
       try simp only [decide_eq_true_eq, decide_eq_false_iff_not, Bool.not_eq_true', Bool.not_eq_false', Bool.and_eq_true, Bool.or_eq_true, Int.not_lt, Int.not_le, ne_eq, Decidable.not_not] at hc56
       refine wp_skip ?_
       refine hK4 _ _ ?_
       refine wp_seq_k (fun K59 hK59 => ?_)
       refine wp_region_lit ?_
       refine l_q rfl rfl (q_loadA (m := 3) rfl (by kernel_rfl) (by kernel_rfl) (hS55.blk (i := 1) rfl) rfl rfl) ?_
       refine l_q rfl rfl (q_loadA (m := 3) rfl (by kernel_rfl) (by kernel_rfl) (hS55.blk (i := 0) rfl) rfl rfl) ?_
       refine l_e rfl (fun K hK => ?_)
       refine e_call (by kernel_rfl) (order_ok a b haB hbB _) rfl (after_R hS55 (fun v60 w60 hv60 hS60 => ?_))
       clear hS55
       obtain rfl := hv60
       refine hK _ _ ?_; clear hK K
       refine l_q rfl rfl (q_assignI rfl) ?_
       refine l_q rfl rfl (q_assign rfl) ?_
       refine l_nil ?_
       refine hK59 _ _ ?_
       refine wp_ret ?_
       refine c_ret2 rfl rfl rfl ?_
       have he : sg03 a b = _ := sg_4 (no_or (by assumption) (by simp only [decide_eq_true_eq, decide_eq_false_iff_not] at *; omega)) (no_or (by assumption) (by simp only [decide_eq_true_eq, decide_eq_false_iff_not] at *; omega)) (by simp only [decide_eq_true_eq, decide_eq_false_iff_not] at *; omega)
       rw [he] at hz
       exact absurd rfl hz

end Go.Proofs.YtdlmcgflgdmjgaaDoor
