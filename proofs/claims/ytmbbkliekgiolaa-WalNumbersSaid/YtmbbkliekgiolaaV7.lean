/- The document's disk (ref06). -/
import Derived.Test.YtmbbkliekgiolaaV6
set_option linter.unusedVariables false
set_option linter.unusedSimpArgs false
namespace Go.Proofs.Ytmbbkliekgiolaa
open Go.RowKit
abbrev rkO (ad : Option Addr) (cap : Nat) (p l q : List Nat) (s : Nat) : Obj := .cells #[.slice ad (p ++ l ++ q).length cap, .int .i64 ((p.length : Nat) : Int), .int .i64 (((p.length + l.length) : Nat) : Int), .int .i64 (((p.length + s) : Nat) : Int)] 85
def rdk (k : Nat) (ad : Option Addr) (cap : Nat) (p l q : List Nat) (s : Nat) : Ch := .pk [.blk k (rkO ad cap p l q s), .ow 5 1 ad (p ++ l ++ q).length cap (bv (p ++ l ++ q))]
section
variable {w0 w : World} {D : Nat → Prop} {Γ : List Ch} {k cap s : Nat} {ad : Option Addr} {p l q : List Nat}
theorem rd_open (h : St w0 D (rdk k ad cap p l q s :: Γ) w) : St w0 D (.blk k (rkO ad cap p l q s) :: .ow 5 1 ad (p ++ l ++ q).length cap (bv (p ++ l ++ q)) :: Γ) w := h.unpk
theorem rd_close (h : St w0 D (.blk k (rkO ad cap p l q s) :: .ow 5 1 ad (p ++ l ++ q).length cap (bv (p ++ l ++ q)) :: Γ) w) : St w0 D (rdk k ad cap p l q s :: Γ) w := h.pk
end
theorem take_app4 {p l q : List Nat} {n : Nat} (h : n ≤ l.length) : (p ++ (l ++ q)).take (p.length + n) = p ++ l.take n := by
  rw [List.take_append, List.take_of_length_le (show p.length ≤ p.length + n by omega), Nat.add_sub_cancel_left, List.take_append_of_le_length h]
theorem take_app3 {p l q : List Nat} : (p ++ l ++ q).take (p.length + l.length) = p ++ l := List.take_left' (by rw [List.length_append])
attribute [local irreducible] Oper.wp Sem.run Code.wp wpList wpAnyO callFunc execOp Calls

set_option maxRecDepth 100000 in
theorem rSync_ok (k : Nat) (ad : Option Addr) (cap : Nat) (p l q : List Nat) (s : Nat) (hA : Bytes (p ++ l ++ q)) (hb : (p ++ l ++ q).length ≤ 1000000000) (hs : s ≤ l.length) (w : World) (hS : St w (owns [rdk k ad cap p l q s]) [rdk k ad cap p l q s] w) : Calls Try.prog 49 #[pV k] w (Post w [rdk k ad cap p l q s] fun v G => v = .int .i64 0 ∧ G = [rdk k ad cap p l q l.length]) := by
  have hAl : (p ++ l ++ q).length = p.length + l.length + q.length := by rw [List.length_append, List.length_append]
  refine c_enter Try.func49 rfl rfl rfl ?_
  refine wp_seq_k (fun K1 hK1 => ?_)
  have hS2 := rd_open hS; clear hS
  refine wp_region_lit ?_
  refine l_q rfl rfl (q_assignI rfl) ?_
  refine l_nil ?_
  refine hK1 _ _ ?_
  refine wp_seq_k (fun K3 hK3 => ?_)
  refine wp_region_lit ?_
  refine l_q rfl rfl (q_moveP rfl) ?_
  refine l_q rfl rfl (q_moveP rfl) ?_
  refine l_q rfl rfl (q_nilCheck rfl) ?_
  refine l_q rfl rfl (q_fieldAddr (ft := 3) (o := 2) rfl (by kernel_rfl)) ?_
  refine l_q rfl rfl (q_load1 rfl (by kernel_rfl) (hS2.cell (i := 0) rfl rfl)) ?_
  refine l_q rfl rfl (q_nilCheck rfl) ?_
  refine l_q rfl rfl (q_fieldAddr (ft := 3) (o := 3) rfl (by kernel_rfl)) ?_
  refine l_e rfl (fun K hK => ?_)
  refine e_store1 hS2 rfl rfl (by kernel_rfl) (by first | rfl | assumption) (i := 0) rfl rfl (fun w4 (hS4 : St _ _ [.blk k (.cells #[.slice ad ((p ++ l ++ q).length) cap, .int .i64 ((p.length : Nat) : Int), .int .i64 (((p.length + l.length) : Nat) : Int), .int .i64 (((p.length + l.length) : Nat) : Int)] 85), .ow 5 1 ad ((p ++ l ++ q).length) cap (bv (p ++ l ++ q))] _) => ?_)
  clear hS2
  refine hK _ _ ?_; clear hK K
  refine l_nil ?_
  refine hK3 _ _ ?_
  refine wp_seq_k (fun K5 hK5 => ?_)
  refine wp_region_lit ?_
  refine l_q rfl rfl (q_assignI rfl) ?_
  refine l_nil ?_
  refine hK5 _ _ ?_
  refine wp_ret ?_
  refine c_ret1 rfl rfl ?_
  
  have hS6 := rd_close hS4; clear hS4
  exact ⟨_, _, rfl, ⟨rfl, rfl⟩, hS6⟩

set_option maxRecDepth 100000 in
theorem rAppend_ok (k : Nat) (ad : Option Addr) (cap : Nat) (p l q : List Nat) (s : Nat) (hA : Bytes (p ++ l ++ q)) (hb : (p ++ l ++ q).length ≤ 1000000000) (hs : s ≤ l.length) (g : Gh) (m : List Nat) (hm : Bytes m) (am : Option Addr) (cm : Nat) (hml : m.length ≤ 100000000) (hM : SlG g am (bv m)) (w : World) (hg : Rog [rdk k ad cap p l q s] w g) (hS : St w (owns [rdk k ad cap p l q s]) [rdk k ad cap p l q s] w) : Calls Try.prog 54 #[pV k, .slice am m.length cm] w (Post w [rdk k ad cap p l q s] fun v G => ∃ ad' cap' q', v = .tuple #[.int .i64 ((apN l m p.length : Nat) : Int), .int .i64 ((apE l m : Nat) : Int)] ∧ G = [rdk k ad' cap' p (apL l m) q' s] ∧ Bytes (p ++ apL l m ++ q') ∧ (p ++ apL l m ++ q').length ≤ (p ++ l ++ q).length + m.length) := by
  have hAl : (p ++ l ++ q).length = p.length + l.length + q.length := by rw [List.length_append, List.length_append]
  refine c_enter Try.func54 rfl rfl rfl ?_
  refine wp_seq_k (fun K1 hK1 => ?_)
  have hS2 := rd_open hS; clear hS
  refine wp_region_lit ?_
  refine l_q rfl rfl (q_assignI rfl) ?_
  refine l_q rfl rfl (q_assignI rfl) ?_
  refine l_nil ?_
  refine hK1 _ _ ?_
  refine wp_seq_k (fun K3 hK3 => ?_)
  refine wp_seq_k (fun K4 hK4 => ?_)
  refine r_any (by kernel_rfl) hS2 (fun w5 hS5 => ?_)
  clear hS2
  refine o_pure (i := 0) (fun _ _ => trivial) rfl rfl (by kernel_rfl) (goes0 rfl) (QOk.then (QOk.then QOk.body)) (fun w => q_moveS rfl) ?_
  refine o_pure (i := 1) (fun _ _ => trivial) rfl rfl (by kernel_rfl) (goes0 rfl) (QOk.then (QOk.then QOk.body)) (fun w => q_lenSl (e := 5) rfl (by kernel_rfl)) ?_
  refine o_pure (i := 2) (fun _ _ => trivial) rfl rfl (by kernel_rfl) (goes0 rfl) (QOk.then (QOk.then QOk.body)) (fun w => q_gtr rfl rfl) ?_
  refine o_pure (i := 3) (fun _ _ => trivial) rfl rfl (by kernel_rfl) (goes0 rfl) (QOk.then (QOk.then QOk.body)) (fun w => q_moveB rfl) ?_
  refine g_splitO (t := 10) rfl (fun hg6 => ?_) (fun hg6 => ?_)
  ·
    have hg6b := hg6
    try simp only [decide_eq_true_eq, decide_eq_false_iff_not, Bool.not_eq_true', Bool.not_eq_false', Bool.and_eq_true, Bool.or_eq_true, Int.not_lt, Int.not_le, ne_eq, Decidable.not_not] at hg6
    have hx : ¬ (l.length + m.length ≤ 1048576) := by omega
    refine o_off (i := 4) (fun _ _ => trivial) rfl rfl (by kernel_rfl) rfl rfl hg6b (QOk.then (QOk.then QOk.body)) ?_
    refine o_off (i := 5) (fun _ _ => trivial) rfl rfl (by kernel_rfl) rfl rfl hg6b (QOk.then (QOk.then QOk.body)) ?_
    refine o_off (i := 6) (fun _ _ => trivial) rfl rfl (by kernel_rfl) rfl rfl hg6b (QOk.then (QOk.then QOk.body)) ?_
    refine o_off (i := 7) (fun _ _ => trivial) rfl rfl (by kernel_rfl) rfl rfl hg6b (QOk.then (QOk.then QOk.body)) ?_
    refine o_off (i := 8) (fun _ _ => trivial) rfl rfl (by kernel_rfl) rfl rfl hg6b (QOk.then (QOk.then QOk.body)) ?_
    refine o_off (i := 9) (fun _ _ => trivial) rfl rfl (by kernel_rfl) rfl rfl hg6b (QOk.then (QOk.then QOk.body)) ?_
    refine o_off (i := 10) (fun _ _ => trivial) rfl rfl (by kernel_rfl) rfl rfl hg6b (QOk.then (QOk.then QOk.body)) ?_
    refine o_off (i := 11) (fun _ _ => trivial) rfl rfl (by kernel_rfl) rfl rfl hg6b (QOk.then (QOk.then QOk.body)) ?_
    refine o_off (i := 12) (fun _ _ => trivial) rfl rfl (by kernel_rfl) rfl rfl hg6b (QOk.then (QOk.then QOk.body)) ?_
    refine o_off (i := 13) (fun _ _ => trivial) rfl rfl (by kernel_rfl) rfl rfl hg6b (QOk.then (QOk.then QOk.body)) ?_
    refine o_off (i := 14) (fun _ _ => trivial) rfl rfl (by kernel_rfl) rfl rfl hg6b (QOk.then (QOk.then QOk.body)) ?_
    refine o_off (i := 15) (fun _ _ => trivial) rfl rfl (by kernel_rfl) rfl rfl hg6b (QOk.then (QOk.then QOk.body)) ?_
    refine o_off (i := 16) (fun _ _ => trivial) rfl rfl (by kernel_rfl) rfl rfl hg6b (QOk.then (QOk.then QOk.body)) ?_
    refine o_pure (i := 17) (fun _ _ => trivial) rfl rfl (by kernel_rfl) (goes0 rfl) (QOk.then (QOk.then QOk.body)) (fun w => q_pickT rfl hg6b rfl) ?_
    refine o_done (by kernel_rfl) ?_
    refine hK4 _ _ ?_
    refine c_condT rfl rfl ?_
    refine wp_seq_k (fun K8 hK8 => ?_)
    refine wp_region_lit ?_
    refine l_q rfl rfl (q_assignI rfl) ?_
    refine l_q rfl rfl (q_assignI rfl) ?_
    refine l_nil ?_
    refine hK8 _ _ ?_
    refine wp_ret ?_
    refine c_ret2 rfl rfl rfl ?_
    
    have hS9 := rd_close hS5; clear hS5
    exact ⟨_, _, rfl, ⟨ad, cap, q, by rw [apN, apE, if_neg hx, if_neg hx]; rfl, by rw [apL, if_neg hx], by rw [apL, if_neg hx]; exact hA, by rw [apL, if_neg hx]; omega⟩, hS9⟩
  ·
    have hg6b := hg6
    try simp only [decide_eq_true_eq, decide_eq_false_iff_not, Bool.not_eq_true', Bool.not_eq_false', Bool.and_eq_true, Bool.or_eq_true, Int.not_lt, Int.not_le, ne_eq, Decidable.not_not] at hg6
    refine o_pure (i := 4) (fun _ _ => trivial) rfl rfl (by kernel_rfl) (goes1 rfl rfl hg6b) (QOk.then (QOk.then QOk.body)) (fun w => q_moveP rfl) ?_
    refine o_pure (i := 5) (fun _ _ => trivial) rfl rfl (by kernel_rfl) (goes1 rfl rfl hg6b) (QOk.then (QOk.then QOk.body)) (fun w => q_nilCheck rfl) ?_
    refine o_pure (i := 6) (fun _ _ => trivial) rfl rfl (by kernel_rfl) (goes1 rfl rfl hg6b) (QOk.then (QOk.then QOk.body)) (fun w => q_fieldAddr (ft := 3) (o := 2) rfl (by kernel_rfl)) ?_
    refine o_held (i := 7) [12, 15, 16, 17] (fun _ _ => trivial) rfl rfl (by kernel_rfl) (goes1 rfl rfl hg6b) (QOk.then (QOk.then QOk.body)) (q_load1 rfl (by kernel_rfl) (hS5.cell (i := 0) rfl rfl)) ?_
    refine o_pure (i := 8) (fun j w => ⟨(fun _ _ => trivial) j w, fun _ h => h⟩) rfl rfl (by kernel_rfl) (goes1 rfl rfl hg6b) (QOk.then (QOk.then QOk.body)) (fun w => q_moveP rfl) ?_
    refine o_pure (i := 9) (fun j w => ⟨(fun _ _ => trivial) j w, fun _ h => h⟩) rfl rfl (by kernel_rfl) (goes1 rfl rfl hg6b) (QOk.then (QOk.then QOk.body)) (fun w => q_nilCheck rfl) ?_
    refine o_pure (i := 10) (fun j w => ⟨(fun _ _ => trivial) j w, fun _ h => h⟩) rfl rfl (by kernel_rfl) (goes1 rfl rfl hg6b) (QOk.then (QOk.then QOk.body)) (fun w => q_fieldAddr (ft := 3) (o := 1) rfl (by kernel_rfl)) ?_
    refine o_held (i := 11) [12, 15, 16, 17] (fun j w => ⟨(fun _ _ => trivial) j w, fun _ h => h⟩) rfl rfl (by kernel_rfl) (goes1 rfl rfl hg6b) (QOk.then (QOk.then QOk.body)) (q_load1 rfl (by kernel_rfl) (hS5.cell (i := 0) rfl rfl)) ?_
    refine o_pure (i := 12) (fun j w => ⟨(fun j w => ⟨(fun _ _ => trivial) j w, fun _ h => h⟩) j w, fun _ h => h⟩) rfl rfl (by kernel_rfl) (goes1 rfl rfl hg6b) (QOk.then (QOk.then QOk.body)) (fun w => q_subx rfl rfl (by first | decide | omega) (by first | decide | omega)) ?_
    refine o_pure (i := 13) (fun j w => ⟨(fun j w => ⟨(fun _ _ => trivial) j w, fun _ h => h⟩) j w, fun _ h => h⟩) rfl rfl (by kernel_rfl) (goes1 rfl rfl hg6b) (QOk.then (QOk.then QOk.body)) (fun w => q_moveS rfl) ?_
    refine o_pure (i := 14) (fun j w => ⟨(fun j w => ⟨(fun _ _ => trivial) j w, fun _ h => h⟩) j w, fun _ h => h⟩) rfl rfl (by kernel_rfl) (goes1 rfl rfl hg6b) (QOk.then (QOk.then QOk.body)) (fun w => q_lenSl (e := 5) rfl (by kernel_rfl)) ?_
    refine o_pure (i := 15) (fun j w => ⟨(fun j w => ⟨(fun _ _ => trivial) j w, fun _ h => h⟩) j w, fun _ h => h⟩) rfl rfl (by kernel_rfl) (goes1 rfl rfl hg6b) (QOk.then (QOk.then QOk.body)) (fun w => q_addx rfl rfl (by first | decide | omega) (by first | decide | omega)) ?_
    refine o_pure (i := 16) (fun j w => ⟨(fun j w => ⟨(fun _ _ => trivial) j w, fun _ h => h⟩) j w, fun _ h => h⟩) rfl rfl (by kernel_rfl) (goes1 rfl rfl hg6b) (QOk.then (QOk.then QOk.body)) (fun w => q_gtr rfl rfl) ?_
    refine o_pure (i := 17) (fun j w => ⟨(fun j w => ⟨(fun _ _ => trivial) j w, fun _ h => h⟩) j w, fun _ h => h⟩) rfl rfl (by kernel_rfl) (goes0 rfl) (QOk.then (QOk.then QOk.body)) (fun w => q_pickF rfl hg6b rfl) ?_
    refine o_done (by kernel_rfl) ?_
    refine hK4 _ _ ?_
    refine c_cond rfl (fun hc10 => ?_) (fun hc10 => ?_)
    ·
      have hc10b := hc10
      try simp only [decide_eq_true_eq, decide_eq_false_iff_not, Bool.not_eq_true', Bool.not_eq_false', Bool.and_eq_true, Bool.or_eq_true, Int.not_lt, Int.not_le, ne_eq, Decidable.not_not] at hc10
      have hx : ¬ (l.length + m.length ≤ 1048576) := by omega
      refine wp_seq_k (fun K11 hK11 => ?_)
      refine wp_region_lit ?_
      refine l_q rfl rfl (q_assignI rfl) ?_
      refine l_q rfl rfl (q_assignI rfl) ?_
      refine l_nil ?_
      refine hK11 _ _ ?_
      refine wp_ret ?_
      refine c_ret2 rfl rfl rfl ?_
      
      have hS12 := rd_close hS5; clear hS5
      exact ⟨_, _, rfl, ⟨ad, cap, q, by rw [apN, apE, if_neg hx, if_neg hx]; rfl, by rw [apL, if_neg hx], by rw [apL, if_neg hx]; exact hA, by rw [apL, if_neg hx]; omega⟩, hS12⟩
    ·
      have hc10b := hc10
      try simp only [decide_eq_true_eq, decide_eq_false_iff_not, Bool.not_eq_true', Bool.not_eq_false', Bool.and_eq_true, Bool.or_eq_true, Int.not_lt, Int.not_le, ne_eq, Decidable.not_not] at hc10
      have hx : l.length + m.length ≤ 1048576 := by omega
      refine wp_skip ?_
      refine hK3 _ _ ?_
      refine wp_seq_k (fun K13 hK13 => ?_)
      refine wp_region_lit ?_
      refine l_q rfl rfl (q_moveP rfl) ?_
      refine l_q rfl rfl (q_nilCheck rfl) ?_
      refine l_q rfl rfl (q_fieldAddr (ft := 3) (o := 2) rfl (by kernel_rfl)) ?_
      refine l_q rfl rfl (q_load1 rfl (by kernel_rfl) (hS5.cell (i := 0) rfl rfl)) ?_
      refine l_q rfl rfl (q_assignI rfl) ?_
      refine l_nil ?_
      refine hK13 _ _ ?_
      refine wp_seq_k (fun K14 hK14 => ?_)
      refine wp_region_lit ?_
      refine l_q rfl rfl (q_moveP rfl) ?_
      refine l_e rfl (fun K hK => ?_)
      refine e_buildSlice1 (e := 5) (zv := .int .u8 0) (xs := []) hS5 (by kernel_rfl) (by kernel_rfl) (by kernel_rfl) rfl rfl rfl rfl ((by intro u hu; cases hu)) rfl (fun b15 w15 (hS15 : St _ _ [.blk b15 (.cells #[] 5), .blk k (.cells #[.slice ad ((p ++ l ++ q).length) cap, .int .i64 ((p.length : Nat) : Int), .int .i64 (((p.length + l.length) : Nat) : Int), .int .i64 (((p.length + s) : Nat) : Int)] 85), .ow 5 1 ad ((p ++ l ++ q).length) cap (bv (p ++ l ++ q))] _) => ?_)
      clear hS5
      have hS15o : St _ _ [.ow 5 1 (some ⟨b15, 0, none⟩) 0 0 (bv []), .blk k (.cells #[.slice ad ((p ++ l ++ q).length) cap, .int .i64 ((p.length : Nat) : Int), .int .i64 (((p.length + l.length) : Nat) : Int), .int .i64 (((p.length + s) : Nat) : Int)] 85), .ow 5 1 ad ((p ++ l ++ q).length) cap (bv (p ++ l ++ q))] _ := hS15.blkOw' (i := 0) (m := 0) (size := 1) (xs := bv []) rfl rfl rfl (by decide); clear hS15
      refine hK _ _ ?_; clear hK K
      refine l_q rfl rfl (q_moveP rfl) ?_
      refine l_q rfl rfl (q_nilCheck rfl) ?_
      refine l_q rfl rfl (q_fieldAddr (ft := 23) (o := 0) rfl (by kernel_rfl)) ?_
      refine l_q rfl rfl (q_load1 rfl (by kernel_rfl) (hS15o.cell (i := 1) rfl rfl)) ?_
      refine l_q rfl rfl (q_moveI rfl) ?_
      have hcp16 := (hS15o.owLen (i := 2) rfl).2.1
      refine l_q rfl rfl (q_sliceX (e := 5) (size := 1) (l := 0) (h := (p.length + l.length)) (m := cap) (ad' := ad) (len' := (p.length + l.length)) (cap' := cap) rfl (by kernel_rfl) (by kernel_rfl) rfl ⟨_, int_nat (by first | rfl | omega) rfl⟩ rfl (by omega) (by first | omega | (simp only [List.length_append, List.length_map, List.length_cons, List.length_nil, List.length_take, List.length_drop, List.length_set] <;> omega)) (by first | omega | (simp only [List.length_append, List.length_map, List.length_cons, List.length_nil, List.length_take, List.length_drop, List.length_set] <;> omega)) rfl subS_zero (Nat.sub_zero _) (Nat.sub_zero _)) ?_
      refine l_e rfl (fun K hK => ?_)
      refine e_app (e := 5) (size := 1) (bytes := 1) (i := 0) (m' := (p.length + l.length)) (by kernel_rfl) hS15o rfl rfl rfl (SlG.src (e := 5) (by kernel_rfl) ((fun q => (bv_takeG q)) (hS15o.owG (i := 2) rfl)) (by first | (simp only [List.length_append, List.length_map, List.length_cons, List.length_nil, List.length_take, List.length_drop, List.length_set, Nat.mul_one]; done) | (simp only [List.length_append, List.length_map, List.length_cons, List.length_nil, List.length_take, List.length_drop, List.length_set]; omega) | rfl | (simp; done)) (by decide) (bv_one _)) (by first | omega | (simp only [List.length_append, List.length_map, List.length_cons, List.length_nil, List.length_take, List.length_drop, List.length_set] <;> omega) | (simp; done)) rfl (by first | omega | (simp only [maxLen, List.length_append, List.length_map, List.length_cons, List.length_nil, List.length_take, List.length_drop, List.length_set] <;> omega) | (simp only [maxLen]; omega)) (by first | omega | (simp only [List.length_append, List.length_map, List.length_cons, List.length_nil, List.length_take, List.length_drop, List.length_set] <;> omega)) (fun ad17 cp17 w17 (hS17 : St _ _ [.ow 5 1 ad17 (p.length + l.length) cp17 (bv ((p ++ l ++ q).take (p.length + l.length))), .blk k (.cells #[.slice ad ((p ++ l ++ q).length) cap, .int .i64 ((p.length : Nat) : Int), .int .i64 (((p.length + l.length) : Nat) : Int), .int .i64 (((p.length + s) : Nat) : Int)] 85), .ow 5 1 ad ((p ++ l ++ q).length) cap (bv (p ++ l ++ q))] _) => ?_)
      clear hS15o
      refine hK _ _ ?_; clear hK K
      refine l_q rfl rfl (q_moveS rfl) ?_
      refine l_e rfl (fun K hK => ?_)
      have hB18 : Bytes (((p ++ l ++ q).take (p.length + l.length)) ++ m) := Bytes.app (Bytes.take hA) hm
      refine e_app (e := 5) (size := 1) (bytes := 1) (i := 0) (m' := ((p.length + l.length) + m.length)) (by kernel_rfl) hS17 rfl rfl rfl (SlG.src (e := 5) (by kernel_rfl) (hM.mono (hg.le hS17)) (by first | (simp only [List.length_append, List.length_map, List.length_cons, List.length_nil, List.length_take, List.length_drop, List.length_set, Nat.mul_one]; done) | (simp only [List.length_append, List.length_map, List.length_cons, List.length_nil, List.length_take, List.length_drop, List.length_set]; omega) | rfl | (simp; done)) (by decide) (bv_one _)) (by first | omega | (simp only [List.length_append, List.length_map, List.length_cons, List.length_nil, List.length_take, List.length_drop, List.length_set] <;> omega) | (simp; done)) bv_app (by first | omega | (simp only [maxLen, List.length_append, List.length_map, List.length_cons, List.length_nil, List.length_take, List.length_drop, List.length_set] <;> omega) | (simp only [maxLen]; omega)) (by first | omega | (simp only [List.length_append, List.length_map, List.length_cons, List.length_nil, List.length_take, List.length_drop, List.length_set] <;> omega)) (fun ad18 cp18 w18 (hS18 : St _ _ [.ow 5 1 ad18 ((p.length + l.length) + m.length) cp18 (bv (((p ++ l ++ q).take (p.length + l.length)) ++ m)), .blk k (.cells #[.slice ad ((p ++ l ++ q).length) cap, .int .i64 ((p.length : Nat) : Int), .int .i64 (((p.length + l.length) : Nat) : Int), .int .i64 (((p.length + s) : Nat) : Int)] 85), .ow 5 1 ad ((p ++ l ++ q).length) cap (bv (p ++ l ++ q))] _) => ?_)
      clear hS17
      refine hK _ _ ?_; clear hK K
      refine l_q rfl rfl (q_nilCheck rfl) ?_
      refine l_q rfl rfl (q_fieldAddr (ft := 23) (o := 0) rfl (by kernel_rfl)) ?_
      refine l_e rfl (fun K hK => ?_)
      refine e_store1 hS18 rfl rfl (by kernel_rfl) (by first | rfl | assumption) (i := 1) rfl rfl (fun w19 (hS19 : St _ _ [.ow 5 1 ad18 ((p.length + l.length) + m.length) cp18 (bv (((p ++ l ++ q).take (p.length + l.length)) ++ m)), .blk k (.cells #[.slice ad18 ((p.length + l.length) + m.length) cp18, .int .i64 ((p.length : Nat) : Int), .int .i64 (((p.length + l.length) : Nat) : Int), .int .i64 (((p.length + s) : Nat) : Int)] 85), .ow 5 1 ad ((p ++ l ++ q).length) cap (bv (p ++ l ++ q))] _) => ?_)
      clear hS18
      refine hK _ _ ?_; clear hK K
      refine l_nil ?_
      refine hK14 _ _ ?_
      refine wp_seq_k (fun K20 hK20 => ?_)
      refine wp_region_lit ?_
      refine l_q rfl rfl (q_moveP rfl) ?_
      refine l_q rfl rfl (q_moveI rfl) ?_
      refine l_q rfl rfl (q_moveS rfl) ?_
      refine l_q rfl rfl (q_lenSl (e := 5) rfl (by kernel_rfl)) ?_
      refine l_q rfl rfl (q_addx rfl rfl (by first | decide | omega) (by first | decide | omega)) ?_
      refine l_q rfl rfl (q_nilCheck rfl) ?_
      refine l_q rfl rfl (q_fieldAddr (ft := 3) (o := 2) rfl (by kernel_rfl)) ?_
      refine l_e rfl (fun K hK => ?_)
      refine e_store1 hS19 rfl rfl (by kernel_rfl) (by first | rfl | assumption) (i := 1) rfl rfl (fun w21 (hS21 : St _ _ [.ow 5 1 ad18 ((p.length + l.length) + m.length) cp18 (bv (((p ++ l ++ q).take (p.length + l.length)) ++ m)), .blk k (.cells #[.slice ad18 ((p.length + l.length) + m.length) cp18, .int .i64 ((p.length : Nat) : Int), .int .i64 ((((p.length + l.length) : Nat) : Int) + ((m.length : Nat) : Int)), .int .i64 (((p.length + s) : Nat) : Int)] 85), .ow 5 1 ad ((p ++ l ++ q).length) cap (bv (p ++ l ++ q))] _) => ?_)
      clear hS19
      refine hK _ _ ?_; clear hK K
      refine l_nil ?_
      refine hK20 _ _ ?_
      refine wp_seq_k (fun K22 hK22 => ?_)
      refine wp_region_lit ?_
      refine l_q rfl rfl (q_moveI rfl) ?_
      refine l_q rfl rfl (q_assignI rfl) ?_
      refine l_q rfl rfl (q_assignI rfl) ?_
      refine l_nil ?_
      refine hK22 _ _ ?_
      refine wp_ret ?_
      refine c_ret2 rfl rfl rfl ?_
      have hA2 : Bytes (p ++ (l ++ m) ++ []) := by
        rw [List.append_nil, ← List.append_assoc]; exact (fun x hx => (List.mem_append.1 hx).elim (fun h => hA x (List.mem_append_left _ h)) (hm x))
      have hS23 : St _ _ [.ow 5 1 ad18 ((((p ++ l ++ q).take (p.length + l.length)) ++ m).length) cp18 (bv (((p ++ l ++ q).take (p.length + l.length)) ++ m)), .blk k (.cells #[.slice ad18 ((((p ++ l ++ q).take (p.length + l.length)) ++ m).length) cp18, .int .i64 ((p.length : Nat) : Int), .int .i64 ((((p.length + l.length) : Nat) : Int) + ((m.length : Nat) : Int)), .int .i64 (((p.length + s) : Nat) : Int)] 85), .ow 5 1 ad ((p ++ l ++ q).length) cap (bv (p ++ l ++ q))] _ := hS21.cast (by rw [show (((p ++ l ++ q).take (p.length + l.length)) ++ m).length = ((p.length + l.length) + m.length) from (by first | omega | (simp only [List.length_append, List.length_map, List.length_cons, List.length_nil, List.length_take, List.length_drop, List.length_set] <;> omega))]); clear hS21
      have hS24 := hS23.fr1; clear hS23
      have hS25 : St _ _ [.blk k (.cells #[.slice ad18 ((p ++ (l ++ m) ++ []).length) cp18, .int .i64 ((p.length : Nat) : Int), .int .i64 (((p.length + (l ++ m).length) : Nat) : Int), .int .i64 (((p.length + s) : Nat) : Int)] 85), .ow 5 1 ad18 ((p ++ (l ++ m) ++ []).length) cp18 (bv (p ++ (l ++ m) ++ [])), .ow 5 1 ad ((p ++ l ++ q).length) cap (bv (p ++ l ++ q))] _ := hS24.cast (by rw [show (p ++ (l ++ m) ++ []) = ((p ++ l ++ q).take (p.length + l.length) ++ m) from (by rw [take_app3, List.append_nil, List.append_assoc]), show (((p.length + (l ++ m).length) : Nat) : Int) = ((((p.length + l.length) : Nat) : Int) + ((m.length : Nat) : Int)) from (by rw [List.length_append]; omega)]); clear hS24
      have hS26 := rd_close hS25; clear hS25
      have hS27 : St _ _ [rdk k ad18 cp18 p (l ++ m) [] s] _ := hS26.only 1; clear hS26
      exact ⟨_, _, rfl, ⟨_, _, [], by rw [apN, apE, if_pos hx, if_pos hx]; rfl, by rw [apL, if_pos hx], by rw [apL, if_pos hx]; exact hA2, by rw [apL, if_pos hx]; simp only [List.length_append, List.length_nil]; omega⟩, hS27⟩

set_option maxRecDepth 100000 in
theorem rDrop_ok (k : Nat) (ad : Option Addr) (cap : Nat) (p l q : List Nat) (s : Nat) (hA : Bytes (p ++ l ++ q)) (hb : (p ++ l ++ q).length ≤ 1000000000) (hs : s ≤ l.length) (n : Int) (hn0 : -9223372036854775808 ≤ n) (hn1 : n ≤ 9223372036854775807) (w : World) (hS : St w (owns [rdk k ad cap p l q s]) [rdk k ad cap p l q s] w) : Calls Try.prog 82 #[pV k, .int .i64 n] w (Post w [rdk k ad cap p l q s] fun v G => ∃ p', p'.length = drB p.length s n ∧ v = .int .i64 ((drE p.length s n : Nat) : Int) ∧ G = [rdk k ad cap p' (drL l p.length s n) q (drS p.length s n)] ∧ Bytes (p' ++ drL l p.length s n ++ q) ∧ (p' ++ drL l p.length s n ++ q).length ≤ (p ++ l ++ q).length) := by
  have hAl : (p ++ l ++ q).length = p.length + l.length + q.length := by rw [List.length_append, List.length_append]
  refine c_enter Try.func82 rfl rfl rfl ?_
  refine wp_seq_k (fun K1 hK1 => ?_)
  have hS2 := rd_open hS; clear hS
  refine wp_region_lit ?_
  refine l_q rfl rfl (q_assignI rfl) ?_
  refine l_nil ?_
  refine hK1 _ _ ?_
  refine wp_seq_k (fun K3 hK3 => ?_)
  refine wp_seq_k (fun K4 hK4 => ?_)
  refine wp_region_lit ?_
  refine l_q rfl rfl (q_moveI rfl) ?_
  refine l_q rfl rfl (q_moveP rfl) ?_
  refine l_q rfl rfl (q_nilCheck rfl) ?_
  refine l_q rfl rfl (q_fieldAddr (ft := 3) (o := 1) rfl (by kernel_rfl)) ?_
  refine l_q rfl rfl (q_load1 rfl (by kernel_rfl) (hS2.cell (i := 0) rfl rfl)) ?_
  refine l_q rfl rfl (q_lss rfl rfl) ?_
  refine l_q rfl rfl (q_moveB rfl) ?_
  refine g_splitL (t := 11) rfl (fun hg5 => ?_) (fun hg5 => ?_)
  ·
    have hg5b := hg5
    try simp only [decide_eq_true_eq, decide_eq_false_iff_not, Bool.not_eq_true', Bool.not_eq_false', Bool.and_eq_true, Bool.or_eq_true, Int.not_lt, Int.not_le, ne_eq, Decidable.not_not] at hg5
    have hx : ¬ drOk p.length s n := by unfold drOk; omega
    refine l_off rfl rfl rfl hg5b ?_
    refine l_off rfl rfl rfl hg5b ?_
    refine l_off rfl rfl rfl hg5b ?_
    refine l_off rfl rfl rfl hg5b ?_
    refine l_off rfl rfl rfl hg5b ?_
    refine l_off rfl rfl rfl hg5b ?_
    refine l_q rfl rfl (q_pickT rfl hg5b rfl) ?_
    refine l_nil ?_
    refine hK4 _ _ ?_
    refine c_condT rfl rfl ?_
    refine wp_seq_k (fun K7 hK7 => ?_)
    refine wp_region_lit ?_
    refine l_q rfl rfl (q_assignI rfl) ?_
    refine l_nil ?_
    refine hK7 _ _ ?_
    refine wp_ret ?_
    refine c_ret1 rfl rfl ?_
    
    have hS8 := rd_close hS2; clear hS2
    exact ⟨_, _, rfl, ⟨p, by rw [drB, if_neg hx], by rw [drE, if_neg hx]; rfl, by rw [drL, drS, if_neg hx, if_neg hx], by rw [drL, if_neg hx]; exact hA, by rw [drL, if_neg hx]; omega⟩, hS8⟩
  ·
    have hg5b := hg5
    try simp only [decide_eq_true_eq, decide_eq_false_iff_not, Bool.not_eq_true', Bool.not_eq_false', Bool.and_eq_true, Bool.or_eq_true, Int.not_lt, Int.not_le, ne_eq, Decidable.not_not] at hg5
    refine l_on rfl rfl hg5b ?_
    refine l_q rfl rfl (q_moveI rfl) ?_
    refine l_on rfl rfl hg5b ?_
    refine l_q rfl rfl (q_moveP rfl) ?_
    refine l_on rfl rfl hg5b ?_
    refine l_q rfl rfl (q_nilCheck rfl) ?_
    refine l_on rfl rfl hg5b ?_
    refine l_q rfl rfl (q_fieldAddr (ft := 3) (o := 3) rfl (by kernel_rfl)) ?_
    refine l_on rfl rfl hg5b ?_
    refine l_q rfl rfl (q_load1 rfl (by kernel_rfl) (hS2.cell (i := 0) rfl rfl)) ?_
    refine l_on rfl rfl hg5b ?_
    refine l_q rfl rfl (q_gtr rfl rfl) ?_
    refine l_q rfl rfl (q_pickF rfl hg5b rfl) ?_
    refine l_nil ?_
    refine hK4 _ _ ?_
    refine c_cond rfl (fun hc9 => ?_) (fun hc9 => ?_)
    ·
      have hc9b := hc9
      try simp only [decide_eq_true_eq, decide_eq_false_iff_not, Bool.not_eq_true', Bool.not_eq_false', Bool.and_eq_true, Bool.or_eq_true, Int.not_lt, Int.not_le, ne_eq, Decidable.not_not] at hc9
      have hx : ¬ drOk p.length s n := by unfold drOk; omega
      refine wp_seq_k (fun K10 hK10 => ?_)
      refine wp_region_lit ?_
      refine l_q rfl rfl (q_assignI rfl) ?_
      refine l_nil ?_
      refine hK10 _ _ ?_
      refine wp_ret ?_
      refine c_ret1 rfl rfl ?_
      
      have hS11 := rd_close hS2; clear hS2
      exact ⟨_, _, rfl, ⟨p, by rw [drB, if_neg hx], by rw [drE, if_neg hx]; rfl, by rw [drL, drS, if_neg hx, if_neg hx], by rw [drL, if_neg hx]; exact hA, by rw [drL, if_neg hx]; omega⟩, hS11⟩
    ·
      have hc9b := hc9
      try simp only [decide_eq_true_eq, decide_eq_false_iff_not, Bool.not_eq_true', Bool.not_eq_false', Bool.and_eq_true, Bool.or_eq_true, Int.not_lt, Int.not_le, ne_eq, Decidable.not_not] at hc9
      have hx : drOk p.length s n := by unfold drOk; omega
      have hx' := hx
      unfold drOk at hx'
      obtain ⟨j, hj⟩ : ∃ j, j = n.toNat - p.length := ⟨_, rfl⟩
      refine wp_skip ?_
      refine hK3 _ _ ?_
      refine wp_seq_k (fun K12 hK12 => ?_)
      refine wp_region_lit ?_
      refine l_q rfl rfl (q_moveP rfl) ?_
      refine l_q rfl rfl (q_moveI rfl) ?_
      refine l_q rfl rfl (q_nilCheck rfl) ?_
      refine l_q rfl rfl (q_fieldAddr (ft := 3) (o := 1) rfl (by kernel_rfl)) ?_
      refine l_e rfl (fun K hK => ?_)
      refine e_store1 hS2 rfl rfl (by kernel_rfl) (by first | rfl | assumption) (i := 0) rfl rfl (fun w13 (hS13 : St _ _ [.blk k (.cells #[.slice ad ((p ++ l ++ q).length) cap, .int .i64 n, .int .i64 (((p.length + l.length) : Nat) : Int), .int .i64 (((p.length + s) : Nat) : Int)] 85), .ow 5 1 ad ((p ++ l ++ q).length) cap (bv (p ++ l ++ q))] _) => ?_)
      clear hS2
      refine hK _ _ ?_; clear hK K
      refine l_nil ?_
      refine hK12 _ _ ?_
      refine wp_seq_k (fun K14 hK14 => ?_)
      refine wp_region_lit ?_
      refine l_q rfl rfl (q_assignI rfl) ?_
      refine l_nil ?_
      refine hK14 _ _ ?_
      refine wp_ret ?_
      refine c_ret1 rfl rfl ?_
      
      have hS15 : St _ _ [.blk k (.cells #[.slice ad (((p ++ l.take j) ++ (l.drop j) ++ q).length) cap, .int .i64 (((p ++ l.take j).length : Nat) : Int), .int .i64 ((((p ++ l.take j).length + (l.drop j).length) : Nat) : Int), .int .i64 ((((p ++ l.take j).length + (s - j)) : Nat) : Int)] 85), .ow 5 1 ad (((p ++ l.take j) ++ (l.drop j) ++ q).length) cap (bv ((p ++ l.take j) ++ (l.drop j) ++ q))] _ := hS13.cast (by rw [show (p ++ l.take j ++ l.drop j ++ q) = (p ++ l ++ q) from (by rw [List.append_assoc p, List.take_append_drop]), show ((((p ++ l.take j).length + (l.drop j).length) : Nat) : Int) = ((p.length + l.length : Nat) : Int) from (by rw [List.length_append, List.length_take, List.length_drop]; omega), show ((((p ++ l.take j).length + (s - j)) : Nat) : Int) = ((p.length + s : Nat) : Int) from (by rw [List.length_append, List.length_take]; omega), show (((p ++ l.take j).length : Nat) : Int) = n from (by rw [List.length_append, List.length_take]; omega)]); clear hS13
      have hS16 := rd_close hS15; clear hS15
      exact ⟨_, _, rfl, ⟨p ++ l.take j, (by rw [drB, if_pos hx, List.length_append, List.length_take]; omega), by rw [drE, if_pos hx]; rfl, by rw [drL, drS, if_pos hx, if_pos hx, ← hj], by rw [drL, if_pos hx, ← hj, List.append_assoc p, List.take_append_drop]; exact hA, by rw [drL, if_pos hx, ← hj, List.append_assoc p, List.take_append_drop]; omega⟩, hS16⟩

set_option maxRecDepth 100000 in
theorem rCut_ok (k : Nat) (ad : Option Addr) (cap : Nat) (p l q : List Nat) (s : Nat) (hA : Bytes (p ++ l ++ q)) (hb : (p ++ l ++ q).length ≤ 1000000000) (hs : s ≤ l.length) (n : Int) (hn0 : -9223372036854775808 ≤ n) (hn1 : n ≤ 9223372036854775807) (w : World) (hS : St w (owns [rdk k ad cap p l q s]) [rdk k ad cap p l q s] w) : Calls Try.prog 80 #[pV k, .int .i64 n] w (Post w [rdk k ad cap p l q s] fun v G => ∃ q', v = .int .i64 ((drE p.length l.length n : Nat) : Int) ∧ G = [rdk k ad cap p (ctL l p.length n) q' (ctS l p.length s n)] ∧ Bytes (p ++ ctL l p.length n ++ q') ∧ (p ++ ctL l p.length n ++ q').length ≤ (p ++ l ++ q).length) := by
  have hAl : (p ++ l ++ q).length = p.length + l.length + q.length := by rw [List.length_append, List.length_append]
  refine c_enter Try.func80 rfl rfl rfl ?_
  refine wp_seq_k (fun K1 hK1 => ?_)
  have hS2 := rd_open hS; clear hS
  refine wp_region_lit ?_
  refine l_q rfl rfl (q_assignI rfl) ?_
  refine l_nil ?_
  refine hK1 _ _ ?_
  refine wp_seq_k (fun K3 hK3 => ?_)
  refine wp_seq_k (fun K4 hK4 => ?_)
  refine wp_region_lit ?_
  refine l_q rfl rfl (q_moveI rfl) ?_
  refine l_q rfl rfl (q_moveP rfl) ?_
  refine l_q rfl rfl (q_nilCheck rfl) ?_
  refine l_q rfl rfl (q_fieldAddr (ft := 3) (o := 1) rfl (by kernel_rfl)) ?_
  refine l_q rfl rfl (q_load1 rfl (by kernel_rfl) (hS2.cell (i := 0) rfl rfl)) ?_
  refine l_q rfl rfl (q_lss rfl rfl) ?_
  refine l_q rfl rfl (q_moveB rfl) ?_
  refine g_splitL (t := 11) rfl (fun hg5 => ?_) (fun hg5 => ?_)
  ·
    have hg5b := hg5
    try simp only [decide_eq_true_eq, decide_eq_false_iff_not, Bool.not_eq_true', Bool.not_eq_false', Bool.and_eq_true, Bool.or_eq_true, Int.not_lt, Int.not_le, ne_eq, Decidable.not_not] at hg5
    have hx : ¬ drOk p.length l.length n := by unfold drOk; omega
    refine l_off rfl rfl rfl hg5b ?_
    refine l_off rfl rfl rfl hg5b ?_
    refine l_off rfl rfl rfl hg5b ?_
    refine l_off rfl rfl rfl hg5b ?_
    refine l_off rfl rfl rfl hg5b ?_
    refine l_off rfl rfl rfl hg5b ?_
    refine l_q rfl rfl (q_pickT rfl hg5b rfl) ?_
    refine l_nil ?_
    refine hK4 _ _ ?_
    refine c_condT rfl rfl ?_
    refine wp_seq_k (fun K7 hK7 => ?_)
    refine wp_region_lit ?_
    refine l_q rfl rfl (q_assignI rfl) ?_
    refine l_nil ?_
    refine hK7 _ _ ?_
    refine wp_ret ?_
    refine c_ret1 rfl rfl ?_
    
    have hS8 := rd_close hS2; clear hS2
    exact ⟨_, _, rfl, ⟨q, by rw [drE, if_neg hx]; rfl, by rw [ctL, ctS, if_neg hx, if_neg hx], by rw [ctL, if_neg hx]; exact hA, by rw [ctL, if_neg hx]; omega⟩, hS8⟩
  ·
    have hg5b := hg5
    try simp only [decide_eq_true_eq, decide_eq_false_iff_not, Bool.not_eq_true', Bool.not_eq_false', Bool.and_eq_true, Bool.or_eq_true, Int.not_lt, Int.not_le, ne_eq, Decidable.not_not] at hg5
    refine l_on rfl rfl hg5b ?_
    refine l_q rfl rfl (q_moveI rfl) ?_
    refine l_on rfl rfl hg5b ?_
    refine l_q rfl rfl (q_moveP rfl) ?_
    refine l_on rfl rfl hg5b ?_
    refine l_q rfl rfl (q_nilCheck rfl) ?_
    refine l_on rfl rfl hg5b ?_
    refine l_q rfl rfl (q_fieldAddr (ft := 3) (o := 2) rfl (by kernel_rfl)) ?_
    refine l_on rfl rfl hg5b ?_
    refine l_q rfl rfl (q_load1 rfl (by kernel_rfl) (hS2.cell (i := 0) rfl rfl)) ?_
    refine l_on rfl rfl hg5b ?_
    refine l_q rfl rfl (q_gtr rfl rfl) ?_
    refine l_q rfl rfl (q_pickF rfl hg5b rfl) ?_
    refine l_nil ?_
    refine hK4 _ _ ?_
    refine c_cond rfl (fun hc9 => ?_) (fun hc9 => ?_)
    ·
      have hc9b := hc9
      try simp only [decide_eq_true_eq, decide_eq_false_iff_not, Bool.not_eq_true', Bool.not_eq_false', Bool.and_eq_true, Bool.or_eq_true, Int.not_lt, Int.not_le, ne_eq, Decidable.not_not] at hc9
      have hx : ¬ drOk p.length l.length n := by unfold drOk; omega
      refine wp_seq_k (fun K10 hK10 => ?_)
      refine wp_region_lit ?_
      refine l_q rfl rfl (q_assignI rfl) ?_
      refine l_nil ?_
      refine hK10 _ _ ?_
      refine wp_ret ?_
      refine c_ret1 rfl rfl ?_
      
      have hS11 := rd_close hS2; clear hS2
      exact ⟨_, _, rfl, ⟨q, by rw [drE, if_neg hx]; rfl, by rw [ctL, ctS, if_neg hx, if_neg hx], by rw [ctL, if_neg hx]; exact hA, by rw [ctL, if_neg hx]; omega⟩, hS11⟩
    ·
      have hc9b := hc9
      try simp only [decide_eq_true_eq, decide_eq_false_iff_not, Bool.not_eq_true', Bool.not_eq_false', Bool.and_eq_true, Bool.or_eq_true, Int.not_lt, Int.not_le, ne_eq, Decidable.not_not] at hc9
      have hx : drOk p.length l.length n := by unfold drOk; omega
      have hx' := hx
      unfold drOk at hx'
      obtain ⟨j, hj⟩ : ∃ j, j = n.toNat - p.length := ⟨_, rfl⟩
      refine wp_skip ?_
      refine hK3 _ _ ?_
      refine wp_seq_k (fun K12 hK12 => ?_)
      refine wp_region_lit ?_
      refine l_q rfl rfl (q_moveP rfl) ?_
      refine l_q rfl rfl (q_moveI rfl) ?_
      refine l_q rfl rfl (q_nilCheck rfl) ?_
      refine l_q rfl rfl (q_fieldAddr (ft := 3) (o := 2) rfl (by kernel_rfl)) ?_
      refine l_e rfl (fun K hK => ?_)
      refine e_store1 hS2 rfl rfl (by kernel_rfl) (by first | rfl | assumption) (i := 0) rfl rfl (fun w13 (hS13 : St _ _ [.blk k (.cells #[.slice ad ((p ++ l ++ q).length) cap, .int .i64 ((p.length : Nat) : Int), .int .i64 n, .int .i64 (((p.length + s) : Nat) : Int)] 85), .ow 5 1 ad ((p ++ l ++ q).length) cap (bv (p ++ l ++ q))] _) => ?_)
      clear hS2
      refine hK _ _ ?_; clear hK K
      refine l_nil ?_
      refine hK12 _ _ ?_
      refine wp_seq_k (fun K14 hK14 => ?_)
      refine wp_region_lit ?_
      refine l_q rfl rfl (q_moveP rfl) ?_
      refine l_q rfl rfl (q_moveI rfl) ?_
      refine l_q rfl rfl (q_nilCheck rfl) ?_
      refine l_q rfl rfl (q_fieldAddr (ft := 3) (o := 3) rfl (by kernel_rfl)) ?_
      refine l_e rfl (fun K hK => ?_)
      refine e_store1 hS13 rfl rfl (by kernel_rfl) (by first | rfl | assumption) (i := 0) rfl rfl (fun w15 (hS15 : St _ _ [.blk k (.cells #[.slice ad ((p ++ l ++ q).length) cap, .int .i64 ((p.length : Nat) : Int), .int .i64 n, .int .i64 n] 85), .ow 5 1 ad ((p ++ l ++ q).length) cap (bv (p ++ l ++ q))] _) => ?_)
      clear hS13
      refine hK _ _ ?_; clear hK K
      refine l_nil ?_
      refine hK14 _ _ ?_
      refine wp_seq_k (fun K16 hK16 => ?_)
      refine wp_region_lit ?_
      refine l_q rfl rfl (q_assignI rfl) ?_
      refine l_nil ?_
      refine hK16 _ _ ?_
      refine wp_ret ?_
      refine c_ret1 rfl rfl ?_
      
      have hS17 : St _ _ [.blk k (.cells #[.slice ad ((p ++ (l.take j) ++ (l.drop j ++ q)).length) cap, .int .i64 ((p.length : Nat) : Int), .int .i64 (((p.length + (l.take j).length) : Nat) : Int), .int .i64 (((p.length + j) : Nat) : Int)] 85), .ow 5 1 ad ((p ++ (l.take j) ++ (l.drop j ++ q)).length) cap (bv (p ++ (l.take j) ++ (l.drop j ++ q)))] _ := hS15.cast (by rw [show (p ++ l.take j ++ (l.drop j ++ q)) = (p ++ l ++ q) from (by rw [List.append_assoc p, ← List.append_assoc (l.take j), List.take_append_drop, List.append_assoc]), show (((p.length + (l.take j).length) : Nat) : Int) = n from (by rw [List.length_take]; omega), show (((p.length + j) : Nat) : Int) = n from (by omega)]); clear hS15
      have hS18 := rd_close hS17; clear hS17
      exact ⟨_, _, rfl, ⟨l.drop j ++ q, by rw [drE, if_pos hx]; rfl, by rw [ctL, ctS, if_pos hx, if_pos hx, ← hj], by rw [ctL, if_pos hx, ← hj, List.append_assoc p, ← List.append_assoc (l.take j), List.take_append_drop, ← List.append_assoc]; exact hA, by rw [ctL, if_pos hx, ← hj, List.append_assoc p, ← List.append_assoc (l.take j), List.take_append_drop, ← List.append_assoc]; omega⟩, hS18⟩

theorem read_all {p l q : List Nat} : ((p ++ l ++ q).drop p.length).take (p.length + l.length - p.length) = l := by
  rw [List.append_assoc, List.drop_left' rfl, Nat.add_sub_cancel_left, List.take_left' rfl]
set_option maxRecDepth 100000 in
theorem rRead_ok (k : Nat) (ad : Option Addr) (cap : Nat) (p l q : List Nat) (s : Nat) (hA : Bytes (p ++ l ++ q)) (hb : (p ++ l ++ q).length ≤ 1000000000) (hs : s ≤ l.length) (w : World) (hS : St w (owns [rdk k ad cap p l q s]) [rdk k ad cap p l q s] w) : Calls Try.prog 78 #[pV k, .int .i64 ((p.length : Nat) : Int), .int .i64 ((p.length + l.length : Nat) : Int)] w (Post w [rdk k ad cap p l q s] fun v G => ∃ ad' cap', v = .tuple #[.slice ad' l.length cap', .int .i64 0] ∧ G = [.ow 5 1 ad' l.length cap' (bv l), rdk k ad cap p l q s]) := by
  have hAl : (p ++ l ++ q).length = p.length + l.length + q.length := by rw [List.length_append, List.length_append]
  refine c_enter Try.func78 rfl rfl rfl ?_
  refine wp_seq_k (fun K1 hK1 => ?_)
  have hS2 := rd_open hS; clear hS
  refine wp_region_lit ?_
  refine l_q rfl rfl (q_assignS rfl) ?_
  refine l_q rfl rfl (q_assignI rfl) ?_
  refine l_nil ?_
  refine hK1 _ _ ?_
  refine wp_seq_k (fun K3 hK3 => ?_)
  refine wp_seq_k (fun K4 hK4 => ?_)
  refine wp_region_lit ?_
  refine l_q rfl rfl (q_moveI rfl) ?_
  refine l_q rfl rfl (q_moveP rfl) ?_
  refine l_q rfl rfl (q_nilCheck rfl) ?_
  refine l_q rfl rfl (q_fieldAddr (ft := 3) (o := 1) rfl (by kernel_rfl)) ?_
  refine l_q rfl rfl (q_load1 rfl (by kernel_rfl) (hS2.cell (i := 0) rfl rfl)) ?_
  refine l_q rfl rfl (q_lss rfl rfl) ?_
  refine l_q rfl rfl (q_moveB rfl) ?_
  refine l_on rfl rfl (decide_eq_false (by omega)) ?_
  refine l_q rfl rfl (q_moveI rfl) ?_
  refine l_on rfl rfl (decide_eq_false (by omega)) ?_
  refine l_q rfl rfl (q_moveI rfl) ?_
  refine l_on rfl rfl (decide_eq_false (by omega)) ?_
  refine l_q rfl rfl (q_gtr rfl rfl) ?_
  refine l_q rfl rfl (q_pickF rfl (decide_eq_false (by omega)) rfl) ?_
  refine l_q rfl rfl (q_moveB rfl) ?_
  refine l_on rfl rfl (decide_eq_false (by omega)) ?_
  refine l_q rfl rfl (q_moveI rfl) ?_
  refine l_on rfl rfl (decide_eq_false (by omega)) ?_
  refine l_q rfl rfl (q_moveP rfl) ?_
  refine l_on rfl rfl (decide_eq_false (by omega)) ?_
  refine l_q rfl rfl (q_nilCheck rfl) ?_
  refine l_on rfl rfl (decide_eq_false (by omega)) ?_
  refine l_q rfl rfl (q_fieldAddr (ft := 3) (o := 2) rfl (by kernel_rfl)) ?_
  refine l_on rfl rfl (decide_eq_false (by omega)) ?_
  refine l_q rfl rfl (q_load1 rfl (by kernel_rfl) (hS2.cell (i := 0) rfl rfl)) ?_
  refine l_on rfl rfl (decide_eq_false (by omega)) ?_
  refine l_q rfl rfl (q_gtr rfl rfl) ?_
  refine l_q rfl rfl (q_pickF rfl (decide_eq_false (by omega)) rfl) ?_
  refine l_nil ?_
  refine hK4 _ _ ?_
  refine c_condF rfl (decide_eq_false (by omega)) ?_
  refine wp_skip ?_
  refine hK3 _ _ ?_
  refine wp_seq_k (fun K8 hK8 => ?_)
  refine wp_region_lit ?_
  refine l_e rfl (fun K hK => ?_)
  refine e_buildSlice1 (e := 5) (zv := .int .u8 0) (xs := []) hS2 (by kernel_rfl) (by kernel_rfl) (by kernel_rfl) rfl rfl rfl rfl ((by intro u hu; cases hu)) rfl (fun b9 w9 (hS9 : St _ _ [.blk b9 (.cells #[] 5), .blk k (.cells #[.slice ad ((p ++ l ++ q).length) cap, .int .i64 ((p.length : Nat) : Int), .int .i64 (((p.length + l.length) : Nat) : Int), .int .i64 (((p.length + s) : Nat) : Int)] 85), .ow 5 1 ad ((p ++ l ++ q).length) cap (bv (p ++ l ++ q))] _) => ?_)
  clear hS2
  have hS9o : St _ _ [.ow 5 1 (some ⟨b9, 0, none⟩) 0 0 (bv []), .blk k (.cells #[.slice ad ((p ++ l ++ q).length) cap, .int .i64 ((p.length : Nat) : Int), .int .i64 (((p.length + l.length) : Nat) : Int), .int .i64 (((p.length + s) : Nat) : Int)] 85), .ow 5 1 ad ((p ++ l ++ q).length) cap (bv (p ++ l ++ q))] _ := hS9.blkOw' (i := 0) (m := 0) (size := 1) (xs := bv []) rfl rfl rfl (by decide); clear hS9
  refine hK _ _ ?_; clear hK K
  refine l_q rfl rfl (q_moveP rfl) ?_
  refine l_q rfl rfl (q_nilCheck rfl) ?_
  refine l_q rfl rfl (q_fieldAddr (ft := 23) (o := 0) rfl (by kernel_rfl)) ?_
  refine l_q rfl rfl (q_load1 rfl (by kernel_rfl) (hS9o.cell (i := 1) rfl rfl)) ?_
  refine l_q rfl rfl (q_moveI rfl) ?_
  refine l_q rfl rfl (q_moveI rfl) ?_
  have hcp10 := (hS9o.owLen (i := 2) rfl).2.1
  refine l_q rfl rfl (q_sliceX (e := 5) (size := 1) (l := p.length) (h := (p.length + l.length)) (m := cap) (ad' := (subS ad p.length 1 cap)) (len' := ((p.length + l.length) - p.length)) (cap' := (cap - p.length)) rfl (by kernel_rfl) (by kernel_rfl) rfl ⟨_, int_nat (by first | rfl | omega) rfl⟩ ⟨_, int_nat (by first | rfl | omega) rfl⟩ (by omega) (by first | omega | (simp only [List.length_append, List.length_map, List.length_cons, List.length_nil, List.length_take, List.length_drop, List.length_set] <;> omega)) (by first | omega | (simp only [List.length_append, List.length_map, List.length_cons, List.length_nil, List.length_take, List.length_drop, List.length_set] <;> omega)) rfl rfl rfl rfl) ?_
  refine l_e rfl (fun K hK => ?_)
  refine e_app (e := 5) (size := 1) (bytes := 1) (i := 0) (m' := ((p.length + l.length) - p.length)) (by kernel_rfl) hS9o rfl rfl rfl (SlG.src (e := 5) (by kernel_rfl) ((fun q => (bv_sub (SlG.sub (l := p.length) (size := 1) (m := cap) (n := (p.length + l.length) - p.length) q (by first | omega | (simp only [List.length_append, List.length_map, List.length_cons, List.length_nil, List.length_take, List.length_drop, List.length_set] <;> omega)) (by decide)))) (hS9o.owG (i := 2) rfl)) (by first | (simp only [List.length_append, List.length_map, List.length_cons, List.length_nil, List.length_take, List.length_drop, List.length_set, Nat.mul_one]; done) | (simp only [List.length_append, List.length_map, List.length_cons, List.length_nil, List.length_take, List.length_drop, List.length_set]; omega) | rfl | (simp; done)) (by decide) (bv_one _)) (by first | omega | (simp only [List.length_append, List.length_map, List.length_cons, List.length_nil, List.length_take, List.length_drop, List.length_set] <;> omega) | (simp; done)) rfl (by first | omega | (simp only [maxLen, List.length_append, List.length_map, List.length_cons, List.length_nil, List.length_take, List.length_drop, List.length_set] <;> omega) | (simp only [maxLen]; omega)) (by first | omega | (simp only [List.length_append, List.length_map, List.length_cons, List.length_nil, List.length_take, List.length_drop, List.length_set] <;> omega)) (fun ad11 cp11 w11 (hS11 : St _ _ [.ow 5 1 ad11 ((p.length + l.length) - p.length) cp11 (bv (((p ++ l ++ q).drop p.length).take ((p.length + l.length) - p.length))), .blk k (.cells #[.slice ad ((p ++ l ++ q).length) cap, .int .i64 ((p.length : Nat) : Int), .int .i64 (((p.length + l.length) : Nat) : Int), .int .i64 (((p.length + s) : Nat) : Int)] 85), .ow 5 1 ad ((p ++ l ++ q).length) cap (bv (p ++ l ++ q))] _) => ?_)
  clear hS9o
  refine hK _ _ ?_; clear hK K
  refine l_q rfl rfl (q_assignS rfl) ?_
  refine l_q rfl rfl (q_assignI rfl) ?_
  refine l_nil ?_
  refine hK8 _ _ ?_
  refine wp_ret ?_
  refine c_ret2 rfl rfl rfl ?_
  have hS12 := hS11.fr2; clear hS11
  have hS13 := hS12.fr2; clear hS12
  have hS14 := rd_close hS13; clear hS13
  have hS15 := hS14.fr1; clear hS14
  have hS16 : St _ _ [.ow 5 1 ad11 l.length cp11 (bv l), rdk k ad cap p l q s] _ := hS15.cast (by rw [read_all, show p.length + l.length - p.length = l.length from by omega]); clear hS15
  exact ⟨_, _, rfl, ⟨_, _, congrArg (fun z => Value.tuple #[.slice _ z _, _]) (by omega), rfl⟩, hS16⟩

set_option maxRecDepth 100000 in
theorem rPower_ok (k : Nat) (ad : Option Addr) (cap : Nat) (p l q : List Nat) (s : Nat) (hA : Bytes (p ++ l ++ q)) (hb : (p ++ l ++ q).length ≤ 1000000000) (hs : s ≤ l.length) (c : Int) (hc0 : -9223372036854775808 ≤ c) (w : World) (hS : St w (owns [rdk k ad cap p l q s]) [rdk k ad cap p l q s] w) : Calls Try.prog 53 #[pV k, .int .i64 c] w (Post w [rdk k ad cap p l q s] fun v G => ∃ k' ad' cap', v = pV k' ∧ G = [rdk k' ad' cap' p (l.take (pwN l s c)) [] (pwN l s c), rdk k ad cap p l q s]) := by
  have hAl : (p ++ l ++ q).length = p.length + l.length + q.length := by rw [List.length_append, List.length_append]
  have hpw := pwN_le (l := l) c hs
  have hpe : s + pickN c (l.length - s + 1) = pwN l s c := rfl
  refine c_enter Try.func53 rfl rfl rfl ?_
  refine wp_seq_k (fun K1 hK1 => ?_)
  have hS2 := rd_open hS; clear hS
  refine wp_region_lit ?_
  refine l_q rfl rfl (q_assignP rfl) ?_
  refine l_nil ?_
  refine hK1 _ _ ?_
  refine wp_seq_k (fun K3 hK3 => ?_)
  refine r_any (by kernel_rfl) hS2 (fun w4 hS4 => ?_)
  clear hS2
  refine o_pure (i := 0) (fun _ _ => trivial) rfl rfl (by kernel_rfl) (goes0 rfl) (QOk.then QOk.body) (fun w => q_moveP rfl) ?_
  refine o_pure (i := 1) (fun _ _ => trivial) rfl rfl (by kernel_rfl) (goes0 rfl) (QOk.then QOk.body) (fun w => q_nilCheck rfl) ?_
  refine o_pure (i := 2) (fun _ _ => trivial) rfl rfl (by kernel_rfl) (goes0 rfl) (QOk.then QOk.body) (fun w => q_fieldAddr (ft := 3) (o := 3) rfl (by kernel_rfl)) ?_
  refine o_held (i := 3) [16, 17] (fun _ _ => trivial) rfl rfl (by kernel_rfl) (goes0 rfl) (QOk.then QOk.body) (q_load1 rfl (by kernel_rfl) (hS4.cell (i := 0) rfl rfl)) ?_
  refine o_pure (i := 4) (fun j w => ⟨(fun _ _ => trivial) j w, fun _ h => h⟩) rfl rfl (by kernel_rfl) (goes0 rfl) (QOk.then QOk.body) (fun w => q_moveI rfl) ?_
  refine o_pure (i := 5) (fun j w => ⟨(fun _ _ => trivial) j w, fun _ h => h⟩) rfl rfl (by kernel_rfl) (goes0 rfl) (QOk.then QOk.body) (fun w => q_moveP rfl) ?_
  refine o_pure (i := 6) (fun j w => ⟨(fun _ _ => trivial) j w, fun _ h => h⟩) rfl rfl (by kernel_rfl) (goes0 rfl) (QOk.then QOk.body) (fun w => q_nilCheck rfl) ?_
  refine o_pure (i := 7) (fun j w => ⟨(fun _ _ => trivial) j w, fun _ h => h⟩) rfl rfl (by kernel_rfl) (goes0 rfl) (QOk.then QOk.body) (fun w => q_fieldAddr (ft := 3) (o := 2) rfl (by kernel_rfl)) ?_
  refine o_held (i := 8) [13, 14, 15, 16, 17] (fun j w => ⟨(fun _ _ => trivial) j w, fun _ h => h⟩) rfl rfl (by kernel_rfl) (goes0 rfl) (QOk.then QOk.body) (q_load1 rfl (by kernel_rfl) (hS4.cell (i := 0) rfl rfl)) ?_
  refine o_pure (i := 9) (fun j w => ⟨(fun j w => ⟨(fun _ _ => trivial) j w, fun _ h => h⟩) j w, fun _ h => h⟩) rfl rfl (by kernel_rfl) (goes0 rfl) (QOk.then QOk.body) (fun w => q_moveP rfl) ?_
  refine o_pure (i := 10) (fun j w => ⟨(fun j w => ⟨(fun _ _ => trivial) j w, fun _ h => h⟩) j w, fun _ h => h⟩) rfl rfl (by kernel_rfl) (goes0 rfl) (QOk.then QOk.body) (fun w => q_nilCheck rfl) ?_
  refine o_pure (i := 11) (fun j w => ⟨(fun j w => ⟨(fun _ _ => trivial) j w, fun _ h => h⟩) j w, fun _ h => h⟩) rfl rfl (by kernel_rfl) (goes0 rfl) (QOk.then QOk.body) (fun w => q_fieldAddr (ft := 3) (o := 3) rfl (by kernel_rfl)) ?_
  refine o_held (i := 12) [13, 14, 15, 16, 17] (fun j w => ⟨(fun j w => ⟨(fun _ _ => trivial) j w, fun _ h => h⟩) j w, fun _ h => h⟩) rfl rfl (by kernel_rfl) (goes0 rfl) (QOk.then QOk.body) (q_load1 rfl (by kernel_rfl) (hS4.cell (i := 0) rfl rfl)) ?_
  refine o_pure (i := 13) (fun j w => ⟨(fun j w => ⟨(fun j w => ⟨(fun _ _ => trivial) j w, fun _ h => h⟩) j w, fun _ h => h⟩) j w, fun _ h => h⟩) rfl rfl (by kernel_rfl) (goes0 rfl) (QOk.then QOk.body) (fun w => q_subx rfl rfl (by first | decide | omega) (by first | decide | omega)) ?_
  refine o_pure (i := 14) (fun j w => ⟨(fun j w => ⟨(fun j w => ⟨(fun _ _ => trivial) j w, fun _ h => h⟩) j w, fun _ h => h⟩) j w, fun _ h => h⟩) rfl rfl (by kernel_rfl) (goes0 rfl) (QOk.then QOk.body) (fun w => q_addx rfl rfl (by first | decide | omega) (by first | decide | omega)) ?_
  refine o_eff (i := 15) (by kernel_rfl) rfl (goes0 rfl) (fun K hK => ?_)
  refine e_callA (by kernel_rfl) (pickR_ok c ((l.length - s) + 1) (by omega) (by omega) _) (show _ = [.int .i64 c, .int .i64 (((((p.length + l.length) : Nat) : Int) - (((p.length + s) : Nat) : Int)) + (1 : Int))] from rfl) (by rw [show ((((l.length - s) + 1) : Nat) : Int) = (((((p.length + l.length) : Nat) : Int) - (((p.length + s) : Nat) : Int)) + (1 : Int)) from by omega]) (after_R hS4 (fun v5 w5 hv5 hS5 => ?_))
  clear hS4
  obtain rfl := hv5
  refine hK _ _ ⟨⟨⟨trivial, fun _ _ => by first | exact q_load1 rfl (by kernel_rfl) (hS5.cell (i := 0) rfl rfl)⟩, fun h => absurd h (by decide)⟩, fun h => absurd h (by decide)⟩ ?_; clear hK K
  refine o_pure (i := 16) (fun j w => ⟨(fun j w => ⟨(fun j w => ⟨(fun _ _ => trivial) j w, fun _ h => h⟩) j w, fun _ h => h⟩) j w, fun _ h => h⟩) rfl rfl (by kernel_rfl) (goes0 rfl) (QOk.then QOk.body) (fun w => q_addx rfl rfl (by first | decide | omega) (by first | decide | omega)) ?_
  refine o_pure (i := 17) (fun j w => ⟨(fun j w => ⟨(fun j w => ⟨(fun _ _ => trivial) j w, fun _ h => h⟩) j w, fun _ h => h⟩) j w, fun _ h => h⟩) rfl rfl (by kernel_rfl) (goes0 rfl) (QOk.then QOk.body) (fun w => q_assignI rfl) ?_
  refine o_done (by kernel_rfl) ?_
  refine hK3 _ _ ?_
  refine wp_seq_k (fun K6 hK6 => ?_)
  refine r_any (by kernel_rfl) hS5 (fun w7 hS7 => ?_)
  clear hS5
  refine o_pure (i := 1) (fun _ _ => trivial) rfl rfl (by kernel_rfl) (goes0 rfl) (QOk.then QOk.body) (fun w => q_moveP rfl) ?_
  refine o_pure (i := 2) (fun _ _ => trivial) rfl rfl (by kernel_rfl) (goes0 rfl) (QOk.then QOk.body) (fun w => q_nilCheck rfl) ?_
  refine o_pure (i := 3) (fun _ _ => trivial) rfl rfl (by kernel_rfl) (goes0 rfl) (QOk.then QOk.body) (fun w => q_fieldAddr (ft := 23) (o := 0) rfl (by kernel_rfl)) ?_
  refine o_held (i := 4) [6, 7, 14, 15, 16] (fun _ _ => trivial) rfl rfl (by kernel_rfl) (goes0 rfl) (QOk.then QOk.body) (q_load1 rfl (by kernel_rfl) (hS7.cell (i := 0) rfl rfl)) ?_
  refine o_pure (i := 5) (fun j w => ⟨(fun _ _ => trivial) j w, fun _ h => h⟩) rfl rfl (by kernel_rfl) (goes0 rfl) (QOk.then QOk.body) (fun w => q_moveI rfl) ?_
  have hcp8 := (hS7.owLen (i := 1) rfl).2.1
  refine o_pure (i := 6) (fun j w => ⟨(fun _ _ => trivial) j w, fun _ h => h⟩) rfl rfl (by kernel_rfl) (goes0 rfl) (QOk.then QOk.body) (fun w => q_sliceX (e := 5) (size := 1) (l := 0) (h := (p.length + pwN l s c)) (m := cap) (ad' := ad) (len' := (p.length + pwN l s c)) (cap' := cap) rfl (by kernel_rfl) (by kernel_rfl) rfl ⟨_, int_nat (by first | rfl | omega) rfl⟩ rfl (by omega) (by first | omega | (simp only [List.length_append, List.length_map, List.length_cons, List.length_nil, List.length_take, List.length_drop, List.length_set] <;> omega)) (by first | omega | (simp only [List.length_append, List.length_map, List.length_cons, List.length_nil, List.length_take, List.length_drop, List.length_set] <;> omega)) rfl subS_zero (Nat.sub_zero _) (Nat.sub_zero _)) ?_
  refine o_pure (i := 8) (fun j w => ⟨(fun _ _ => trivial) j w, fun _ h => h⟩) rfl rfl (by kernel_rfl) (goes0 rfl) (QOk.then QOk.body) (fun w => q_moveP rfl) ?_
  refine o_pure (i := 9) (fun j w => ⟨(fun _ _ => trivial) j w, fun _ h => h⟩) rfl rfl (by kernel_rfl) (goes0 rfl) (QOk.then QOk.body) (fun w => q_nilCheck rfl) ?_
  refine o_pure (i := 10) (fun j w => ⟨(fun _ _ => trivial) j w, fun _ h => h⟩) rfl rfl (by kernel_rfl) (goes0 rfl) (QOk.then QOk.body) (fun w => q_fieldAddr (ft := 3) (o := 1) rfl (by kernel_rfl)) ?_
  refine o_held (i := 11) [14, 15, 16] (fun j w => ⟨(fun _ _ => trivial) j w, fun _ h => h⟩) rfl rfl (by kernel_rfl) (goes0 rfl) (QOk.then QOk.body) (q_load1 rfl (by kernel_rfl) (hS7.cell (i := 0) rfl rfl)) ?_
  refine o_pure (i := 12) (fun j w => ⟨(fun j w => ⟨(fun _ _ => trivial) j w, fun _ h => h⟩) j w, fun _ h => h⟩) rfl rfl (by kernel_rfl) (goes0 rfl) (QOk.then QOk.body) (fun w => q_moveI rfl) ?_
  refine o_pure (i := 13) (fun j w => ⟨(fun j w => ⟨(fun _ _ => trivial) j w, fun _ h => h⟩) j w, fun _ h => h⟩) rfl rfl (by kernel_rfl) (goes0 rfl) (QOk.then QOk.body) (fun w => q_moveI rfl) ?_
  refine o_eff (i := 0) (by kernel_rfl) rfl (goes0 rfl) (fun K hK => ?_)
  refine e_buildSlice1 (e := 5) (zv := .int .u8 0) (xs := []) hS7 (by kernel_rfl) (by kernel_rfl) (by kernel_rfl) rfl rfl rfl rfl ((by intro u hu; cases hu)) rfl (fun b9 w9 (hS9 : St _ _ [.blk b9 (.cells #[] 5), .blk k (.cells #[.slice ad ((p ++ l ++ q).length) cap, .int .i64 ((p.length : Nat) : Int), .int .i64 (((p.length + l.length) : Nat) : Int), .int .i64 (((p.length + s) : Nat) : Int)] 85), .ow 5 1 ad ((p ++ l ++ q).length) cap (bv (p ++ l ++ q))] _) => ?_)
  clear hS7
  have hS9o : St _ _ [.ow 5 1 (some ⟨b9, 0, none⟩) 0 0 (bv []), .blk k (.cells #[.slice ad ((p ++ l ++ q).length) cap, .int .i64 ((p.length : Nat) : Int), .int .i64 (((p.length + l.length) : Nat) : Int), .int .i64 (((p.length + s) : Nat) : Int)] 85), .ow 5 1 ad ((p ++ l ++ q).length) cap (bv (p ++ l ++ q))] _ := hS9.blkOw' (i := 0) (m := 0) (size := 1) (xs := bv []) rfl rfl rfl (by decide); clear hS9
  refine hK _ _ ⟨⟨trivial, fun _ _ => by first | exact q_load1 rfl (by kernel_rfl) (hS9o.cell (i := 1) rfl rfl)⟩, fun _ _ => by first | exact q_load1 rfl (by kernel_rfl) (hS9o.cell (i := 1) rfl rfl)⟩ ?_; clear hK K
  refine o_eff (i := 7) (by kernel_rfl) rfl (goes0 rfl) (fun K hK => ?_)
  refine e_app (e := 5) (size := 1) (bytes := 1) (i := 0) (m' := (p.length + pwN l s c)) (by kernel_rfl) hS9o rfl rfl rfl (SlG.src (e := 5) (by kernel_rfl) ((fun q => (bv_takeG q)) (hS9o.owG (i := 2) rfl)) (by first | (simp only [List.length_append, List.length_map, List.length_cons, List.length_nil, List.length_take, List.length_drop, List.length_set, Nat.mul_one]; done) | (simp only [List.length_append, List.length_map, List.length_cons, List.length_nil, List.length_take, List.length_drop, List.length_set]; omega) | rfl | (simp; done)) (by decide) (bv_one _)) (by first | omega | (simp only [List.length_append, List.length_map, List.length_cons, List.length_nil, List.length_take, List.length_drop, List.length_set] <;> omega) | (simp; done)) rfl (by first | omega | (simp only [maxLen, List.length_append, List.length_map, List.length_cons, List.length_nil, List.length_take, List.length_drop, List.length_set] <;> omega) | (simp only [maxLen]; omega)) (by first | omega | (simp only [List.length_append, List.length_map, List.length_cons, List.length_nil, List.length_take, List.length_drop, List.length_set] <;> omega)) (fun ad10 cp10 w10 (hS10 : St _ _ [.ow 5 1 ad10 (p.length + pwN l s c) cp10 (bv ((p ++ l ++ q).take (p.length + pwN l s c))), .blk k (.cells #[.slice ad ((p ++ l ++ q).length) cap, .int .i64 ((p.length : Nat) : Int), .int .i64 (((p.length + l.length) : Nat) : Int), .int .i64 (((p.length + s) : Nat) : Int)] 85), .ow 5 1 ad ((p ++ l ++ q).length) cap (bv (p ++ l ++ q))] _) => ?_)
  clear hS9o
  refine hK _ _ ⟨⟨trivial, fun h => absurd h (by decide)⟩, fun _ _ => by first | exact q_load1 rfl (by kernel_rfl) (hS10.cell (i := 1) rfl rfl)⟩ ?_; clear hK K
  refine o_pure (i := 14) (fun j w => ⟨(fun j w => ⟨(fun _ _ => trivial) j w, fun _ h => h⟩) j w, fun _ h => h⟩) rfl rfl (by kernel_rfl) (goes0 rfl) (QOk.then QOk.body) (fun w => q_build (ps := [(0, 1), (1, 1), (2, 1), (3, 1)]) (zv := .agg #[.slice none 0 0, .int .i64 0, .int .i64 0, .int .i64 0]) (by kernel_rfl) (by kernel_rfl) rfl (by repeat' (first | exact trivial | refine ⟨fun _ => by first | rfl | assumption | exact one_if (by assumption), ?_⟩ | refine ⟨fun ⟨_, h⟩ => by simp at h, ?_⟩)) rfl) ?_
  refine o_eff (i := 15) (by kernel_rfl) rfl (goes0 rfl) (fun K hK => ?_)
  refine e_boxA hS10 rfl (fun b11 w11 (hS11 : St _ _ [.blk b11 (.cells #[.slice ad10 (p.length + pwN l s c) cp10, .int .i64 ((p.length : Nat) : Int), .int .i64 ((((p.length + s) : Nat) : Int) + ((pickN c ((l.length - s) + 1) : Nat) : Int)), .int .i64 ((((p.length + s) : Nat) : Int) + ((pickN c ((l.length - s) + 1) : Nat) : Int))] 85), .ow 5 1 ad10 (p.length + pwN l s c) cp10 (bv ((p ++ l ++ q).take (p.length + pwN l s c))), .blk k (.cells #[.slice ad ((p ++ l ++ q).length) cap, .int .i64 ((p.length : Nat) : Int), .int .i64 (((p.length + l.length) : Nat) : Int), .int .i64 (((p.length + s) : Nat) : Int)] 85), .ow 5 1 ad ((p ++ l ++ q).length) cap (bv (p ++ l ++ q))] _) => ?_)
  clear hS10
  refine hK _ _ ⟨⟨trivial, fun h => absurd h (by decide)⟩, fun h => absurd h (by decide)⟩ ?_; clear hK K
  refine o_pure (i := 16) (fun j w => ⟨(fun j w => ⟨(fun _ _ => trivial) j w, fun _ h => h⟩) j w, fun _ h => h⟩) rfl rfl (by kernel_rfl) (goes0 rfl) (QOk.then QOk.body) (fun w => q_assignP rfl) ?_
  refine o_done (by kernel_rfl) ?_
  refine hK6 _ _ ?_
  refine wp_ret ?_
  refine c_ret1 rfl rfl ?_
  have hS12 := hS11.fr3; clear hS11
  have hS13 := hS12.fr3; clear hS12
  have hS14 := rd_close hS13; clear hS13
  have hS15 : St _ _ [rdk k ad cap p l q s, .blk b11 (.cells #[.slice ad10 (((p ++ l ++ q).take (p.length + pwN l s c)).length) cp10, .int .i64 ((p.length : Nat) : Int), .int .i64 ((((p.length + s) : Nat) : Int) + ((pickN c ((l.length - s) + 1) : Nat) : Int)), .int .i64 ((((p.length + s) : Nat) : Int) + ((pickN c ((l.length - s) + 1) : Nat) : Int))] 85), .ow 5 1 ad10 (((p ++ l ++ q).take (p.length + pwN l s c)).length) cp10 (bv ((p ++ l ++ q).take (p.length + pwN l s c)))] _ := hS14.cast (by rw [show ((p ++ l ++ q).take (p.length + pwN l s c)).length = (p.length + pwN l s c) from (by first | omega | (simp only [List.length_append, List.length_map, List.length_cons, List.length_nil, List.length_take, List.length_drop, List.length_set] <;> omega))]); clear hS14
  have hS16 := hS15.fr2; clear hS15
  have hS17 := hS16.fr2; clear hS16
  have hS18 : St _ _ [.blk b11 (.cells #[.slice ad10 ((p ++ (l.take (pwN l s c)) ++ []).length) cp10, .int .i64 ((p.length : Nat) : Int), .int .i64 (((p.length + (l.take (pwN l s c)).length) : Nat) : Int), .int .i64 (((p.length + (pwN l s c)) : Nat) : Int)] 85), .ow 5 1 ad10 ((p ++ (l.take (pwN l s c)) ++ []).length) cp10 (bv (p ++ (l.take (pwN l s c)) ++ [])), rdk k ad cap p l q s] _ := hS17.cast (by rw [show (p ++ l.take (pwN l s c) ++ []) = ((p ++ l ++ q).take (p.length + pwN l s c)) from (by rw [List.append_nil, List.append_assoc, take_app4 hpw.2]), show (((p.length + (l.take (pwN l s c)).length) : Nat) : Int) = ((((p.length + s) : Nat) : Int) + ((pickN c ((l.length - s) + 1) : Nat) : Int)) from (by rw [List.length_take]; omega), show (((p.length + (pwN l s c)) : Nat) : Int) = ((((p.length + s) : Nat) : Int) + ((pickN c ((l.length - s) + 1) : Nat) : Int)) from (by omega)]); clear hS17
  have hS19 := rd_close hS18; clear hS18
  exact ⟨_, _, rfl, ⟨_, _, _, rfl, rfl⟩, hS19⟩

end Go.Proofs.Ytmbbkliekgiolaa
