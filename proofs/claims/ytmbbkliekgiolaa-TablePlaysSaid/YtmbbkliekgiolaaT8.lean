/- slices.Delete at entries, at pages; slices.Clone at entries. -/
import Derived.Test.YtmbbkliekgiolaaV1
import Derived.Test.YtmbbkliekgiolaaSy
set_option linter.unusedVariables false
set_option linter.unusedSimpArgs false
namespace Go.Proofs.Ytmbbkliekgiolaa
open Go.RowKit
attribute [local irreducible] Oper.wp Sem.run Code.wp wpList wpAnyO callFunc execOp Calls

set_option maxRecDepth 100000 in
theorem delE (n i cap : Nat) (ad : Option Addr) (xs : List Value) (hx1 : ∀ u ∈ xs, u.oneCell' = true) (hi : i < n) (hnm : n ≤ 100000000) (w : World) (hS : St w (owns [.ow 41 2 ad n cap xs]) [.ow 41 2 ad n cap xs] w) : Calls Try.prog 67 #[.slice ad n cap, .int .i64 ((i : Nat) : Int), .int .i64 (((i : Nat) : Int) + 1)] w (Post w [.ow 41 2 ad n cap xs] fun v G => v = .slice ad (n - 1) cap ∧ G = [.ow 41 2 ad (n - 1) cap (xs.take (i * 2) ++ xs.drop ((i + 1) * 2))]) := by
  have hxl := (hS.owLen (i := 0) rfl).1
  have hcl := (hS.owLen (i := 0) rfl).2.1
  refine c_enter Try.func67 rfl rfl rfl ?_
  refine wp_seq_k (fun K1 hK1 => ?_)
  refine wp_region_lit ?_
  refine l_q rfl rfl (q_assignS rfl) ?_
  refine l_nil ?_
  refine hK1 _ _ ?_
  refine wp_seq_k (fun K2 hK2 => ?_)
  refine wp_region_lit ?_
  refine l_q rfl rfl (q_moveS rfl) ?_
  refine l_q rfl rfl (q_moveI rfl) ?_
  refine l_q rfl rfl (q_moveI rfl) ?_
  refine l_q rfl rfl (q_moveS rfl) ?_
  refine l_q rfl rfl (q_lenSl (e := 41) rfl (by kernel_rfl)) ?_
  have hcp3 := (hS.owLen (i := 0) rfl).2.1
  refine l_q rfl rfl (q_sliceX (e := 41) (size := 2) (l := i) (h := (i + 1)) (m := n) (ad' := (subS ad i 2 n)) (len' := ((i + 1) - i)) (cap' := (n - i)) rfl (by kernel_rfl) (by kernel_rfl) ⟨_, int_nat (by first | rfl | omega) rfl⟩ ⟨_, int_nat (by first | rfl | omega) rfl⟩ ⟨_, int_nat (by first | rfl | omega) rfl⟩ (by omega) (by first | omega | (simp only [List.length_append, List.length_map, List.length_cons, List.length_nil, List.length_take, List.length_drop, List.length_set] <;> omega)) (by first | omega | (simp only [List.length_append, List.length_map, List.length_cons, List.length_nil, List.length_take, List.length_drop, List.length_set] <;> omega)) rfl rfl rfl rfl) ?_
  refine l_nil ?_
  refine hK2 _ _ ?_
  refine wp_seq_k (fun K4 hK4 => ?_)
  refine wp_seq_k (fun K5 hK5 => ?_)
  refine wp_region_lit ?_
  refine l_q rfl rfl (q_moveI rfl) ?_
  refine l_q rfl rfl (q_moveI rfl) ?_
  refine l_q rfl rfl (q_eql rfl rfl) ?_
  refine l_nil ?_
  refine hK5 _ _ ?_
  refine c_condF rfl (by simp only [decide_eq_false_iff_not]; omega) ?_
  refine wp_skip ?_
  refine hK4 _ _ ?_
  refine wp_seq_k (fun K7 hK7 => ?_)
  refine wp_region_lit ?_
  refine l_q rfl rfl (q_moveS rfl) ?_
  refine l_q rfl rfl (q_lenSl (e := 41) rfl (by kernel_rfl)) ?_
  refine l_q rfl rfl (q_assignI rfl) ?_
  refine l_nil ?_
  refine hK7 _ _ ?_
  refine wp_seq_k (fun K8 hK8 => ?_)
  refine r_any (by kernel_rfl) hS (fun w9 hS9 => ?_)
  clear hS
  refine o_pure (i := 0) (fun _ _ => trivial) rfl rfl (by kernel_rfl) (goes0 rfl) (QOk.then QOk.body) (fun w => q_moveS rfl) ?_
  refine o_pure (i := 1) (fun _ _ => trivial) rfl rfl (by kernel_rfl) (goes0 rfl) (QOk.then QOk.body) (fun w => q_moveI rfl) ?_
  refine o_pure (i := 2) (fun _ _ => trivial) rfl rfl (by kernel_rfl) (goes0 rfl) (QOk.then QOk.body) (fun w => q_sliceX (e := 41) (size := 2) (l := 0) (h := i) (m := cap) (ad' := ad) (len' := i) (cap' := cap) rfl (by kernel_rfl) (by kernel_rfl) rfl ⟨_, int_nat (by first | rfl | omega) rfl⟩ rfl (by omega) (by first | omega | (simp only [List.length_append, List.length_map, List.length_cons, List.length_nil, List.length_take, List.length_drop, List.length_set] <;> omega)) (by first | omega | (simp only [List.length_append, List.length_map, List.length_cons, List.length_nil, List.length_take, List.length_drop, List.length_set] <;> omega)) rfl subS_zero (Nat.sub_zero _) (Nat.sub_zero _)) ?_
  refine o_pure (i := 3) (fun _ _ => trivial) rfl rfl (by kernel_rfl) (goes0 rfl) (QOk.then QOk.body) (fun w => q_moveS rfl) ?_
  refine o_pure (i := 4) (fun _ _ => trivial) rfl rfl (by kernel_rfl) (goes0 rfl) (QOk.then QOk.body) (fun w => q_moveI rfl) ?_
  refine o_pure (i := 5) (fun _ _ => trivial) rfl rfl (by kernel_rfl) (goes0 rfl) (QOk.then QOk.body) (fun w => q_sliceX (e := 41) (size := 2) (l := (i + 1)) (h := n) (m := cap) (ad' := (subS ad (i + 1) 2 cap)) (len' := (n - (i + 1))) (cap' := (cap - (i + 1))) rfl (by kernel_rfl) (by kernel_rfl) rfl rfl ⟨_, int_nat (by first | rfl | omega) rfl⟩ (by omega) (by first | omega | (simp only [List.length_append, List.length_map, List.length_cons, List.length_nil, List.length_take, List.length_drop, List.length_set] <;> omega)) (by first | omega | (simp only [List.length_append, List.length_map, List.length_cons, List.length_nil, List.length_take, List.length_drop, List.length_set] <;> omega)) rfl rfl rfl rfl) ?_
  refine o_eff (i := 6) (by kernel_rfl) rfl (goes0 rfl) (fun K hK => ?_)
  have hsr10 : SlG (hw w9) (subS ad (i + 1) 2 cap) (xs.drop ((i + 1) * 2)) := by
    have := SlG.sub (l := i + 1) (size := 2) (m := cap) (n := n - (i + 1)) (hS9.owG (i := 0) rfl) (by omega) (by decide)
    rwa [List.take_of_length_le (by rw [List.length_drop, hxl]; omega)] at this
  have hSv10 : St _ _ [.ow 41 2 ad i cap (xs.take (i * 2))] _ := hS9.owSubX (i := 0) (l := 0) (hh := i) (mx := cap) (xs' := xs.take (i * 2)) rfl (by omega) (by omega) (by omega) (by omega) subS_zero (Nat.sub_zero _) (Nat.sub_zero _) (by rw [Nat.zero_mul, List.drop_zero, Nat.sub_zero]); clear hS9
  refine e_appRoom (e := 41) (size := 2) (bytes := 48) (i := 0) (m' := n - 1) (by kernel_rfl) hSv10 rfl rfl rfl (SlG.src (e := 41) (by kernel_rfl) hsr10 (by rw [List.length_drop, hxl]; omega) (by decide) (fun u hu => hx1 u (List.mem_of_mem_drop hu))) (by omega) (by omega) rfl (fun w10 (hS10 : St _ _ [.ow 41 2 ad (n - 1) cap (xs.take (i * 2) ++ xs.drop ((i + 1) * 2))] _) => ?_)
  clear hSv10
  refine hK _ _ trivial ?_; clear hK K
  refine o_pure (i := 7) (fun _ _ => trivial) rfl rfl (by kernel_rfl) (goes0 rfl) (QOk.then QOk.body) (fun w => q_assignS rfl) ?_
  refine o_done (by kernel_rfl) ?_
  refine hK8 _ _ ?_
  refine wp_seq_k (fun K11 hK11 => ?_)
  refine wp_region_lit ?_
  refine l_q rfl rfl (q_moveS rfl) ?_
  refine l_q rfl rfl (q_moveS rfl) ?_
  refine l_q rfl rfl (q_lenSl (e := 41) rfl (by kernel_rfl)) ?_
  refine l_q rfl rfl (q_moveI rfl) ?_
  refine l_q rfl rfl (q_sliceX (e := 41) (size := 2) (l := (n - 1)) (h := n) (m := cap) (ad' := (subS ad (n - 1) 2 cap)) (len' := (n - (n - 1))) (cap' := (cap - (n - 1))) rfl (by kernel_rfl) (by kernel_rfl) rfl ⟨_, int_nat (by first | rfl | omega) rfl⟩ ⟨_, int_nat (by first | rfl | omega) rfl⟩ (by omega) (by first | omega | (simp only [List.length_append, List.length_map, List.length_cons, List.length_nil, List.length_take, List.length_drop, List.length_set] <;> omega)) (by first | omega | (simp only [List.length_append, List.length_map, List.length_cons, List.length_nil, List.length_take, List.length_drop, List.length_set] <;> omega)) rfl rfl rfl rfl) ?_
  refine l_e rfl (fun K hK => ?_)
  refine e_clearX (e := 41) (size := 2) (bytes := 48) (i := 0) (m := n - 1) (lo := n - 1) (mx := cap) (by kernel_rfl) (by kernel_rfl) hS10 rfl rfl (by omega) (by omega) (by omega) (fun w12 (hS12 : St _ _ [.ow 41 2 ad (n - 1) cap (xs.take (i * 2) ++ xs.drop ((i + 1) * 2))] _) => ?_)
  clear hS10
  refine hK _ _ ?_; clear hK K
  refine l_nil ?_
  refine hK11 _ _ ?_
  refine wp_seq_k (fun K13 hK13 => ?_)
  refine wp_region_lit ?_
  refine l_q rfl rfl (q_moveS rfl) ?_
  refine l_q rfl rfl (q_assignS rfl) ?_
  refine l_nil ?_
  refine hK13 _ _ ?_
  refine wp_ret ?_
  refine c_ret1 rfl rfl ?_
  exact ⟨_, _, rfl, ⟨rfl, rfl⟩, hS12⟩

set_option maxRecDepth 100000 in
theorem delP (n i cap : Nat) (ad : Option Addr) (xs : List Value) (hx1 : ∀ u ∈ xs, u.oneCell' = true) (hi : i < n) (hnm : n ≤ 100000000) (w : World) (hS : St w (owns [.ow 111 1 ad n cap xs]) [.ow 111 1 ad n cap xs] w) : Calls Try.prog 68 #[.slice ad n cap, .int .i64 ((i : Nat) : Int), .int .i64 (((i : Nat) : Int) + 1)] w (Post w [.ow 111 1 ad n cap xs] fun v G => v = .slice ad (n - 1) cap ∧ G = [.ow 111 1 ad (n - 1) cap (xs.take (i * 1) ++ xs.drop ((i + 1) * 1))]) := by
  have hxl := (hS.owLen (i := 0) rfl).1
  have hcl := (hS.owLen (i := 0) rfl).2.1
  refine c_enter Try.func68 rfl rfl rfl ?_
  refine wp_seq_k (fun K1 hK1 => ?_)
  refine wp_region_lit ?_
  refine l_q rfl rfl (q_assignS rfl) ?_
  refine l_nil ?_
  refine hK1 _ _ ?_
  refine wp_seq_k (fun K2 hK2 => ?_)
  refine wp_region_lit ?_
  refine l_q rfl rfl (q_moveS rfl) ?_
  refine l_q rfl rfl (q_moveI rfl) ?_
  refine l_q rfl rfl (q_moveI rfl) ?_
  refine l_q rfl rfl (q_moveS rfl) ?_
  refine l_q rfl rfl (q_lenSl (e := 111) rfl (by kernel_rfl)) ?_
  have hcp3 := (hS.owLen (i := 0) rfl).2.1
  refine l_q rfl rfl (q_sliceX (e := 111) (size := 1) (l := i) (h := (i + 1)) (m := n) (ad' := (subS ad i 1 n)) (len' := ((i + 1) - i)) (cap' := (n - i)) rfl (by kernel_rfl) (by kernel_rfl) ⟨_, int_nat (by first | rfl | omega) rfl⟩ ⟨_, int_nat (by first | rfl | omega) rfl⟩ ⟨_, int_nat (by first | rfl | omega) rfl⟩ (by omega) (by first | omega | (simp only [List.length_append, List.length_map, List.length_cons, List.length_nil, List.length_take, List.length_drop, List.length_set] <;> omega)) (by first | omega | (simp only [List.length_append, List.length_map, List.length_cons, List.length_nil, List.length_take, List.length_drop, List.length_set] <;> omega)) rfl rfl rfl rfl) ?_
  refine l_nil ?_
  refine hK2 _ _ ?_
  refine wp_seq_k (fun K4 hK4 => ?_)
  refine wp_seq_k (fun K5 hK5 => ?_)
  refine wp_region_lit ?_
  refine l_q rfl rfl (q_moveI rfl) ?_
  refine l_q rfl rfl (q_moveI rfl) ?_
  refine l_q rfl rfl (q_eql rfl rfl) ?_
  refine l_nil ?_
  refine hK5 _ _ ?_
  refine c_condF rfl (by simp only [decide_eq_false_iff_not]; omega) ?_
  refine wp_skip ?_
  refine hK4 _ _ ?_
  refine wp_seq_k (fun K7 hK7 => ?_)
  refine wp_region_lit ?_
  refine l_q rfl rfl (q_moveS rfl) ?_
  refine l_q rfl rfl (q_lenSl (e := 111) rfl (by kernel_rfl)) ?_
  refine l_q rfl rfl (q_assignI rfl) ?_
  refine l_nil ?_
  refine hK7 _ _ ?_
  refine wp_seq_k (fun K8 hK8 => ?_)
  refine r_any (by kernel_rfl) hS (fun w9 hS9 => ?_)
  clear hS
  refine o_pure (i := 0) (fun _ _ => trivial) rfl rfl (by kernel_rfl) (goes0 rfl) (QOk.then QOk.body) (fun w => q_moveS rfl) ?_
  refine o_pure (i := 1) (fun _ _ => trivial) rfl rfl (by kernel_rfl) (goes0 rfl) (QOk.then QOk.body) (fun w => q_moveI rfl) ?_
  refine o_pure (i := 2) (fun _ _ => trivial) rfl rfl (by kernel_rfl) (goes0 rfl) (QOk.then QOk.body) (fun w => q_sliceX (e := 111) (size := 1) (l := 0) (h := i) (m := cap) (ad' := ad) (len' := i) (cap' := cap) rfl (by kernel_rfl) (by kernel_rfl) rfl ⟨_, int_nat (by first | rfl | omega) rfl⟩ rfl (by omega) (by first | omega | (simp only [List.length_append, List.length_map, List.length_cons, List.length_nil, List.length_take, List.length_drop, List.length_set] <;> omega)) (by first | omega | (simp only [List.length_append, List.length_map, List.length_cons, List.length_nil, List.length_take, List.length_drop, List.length_set] <;> omega)) rfl subS_zero (Nat.sub_zero _) (Nat.sub_zero _)) ?_
  refine o_pure (i := 3) (fun _ _ => trivial) rfl rfl (by kernel_rfl) (goes0 rfl) (QOk.then QOk.body) (fun w => q_moveS rfl) ?_
  refine o_pure (i := 4) (fun _ _ => trivial) rfl rfl (by kernel_rfl) (goes0 rfl) (QOk.then QOk.body) (fun w => q_moveI rfl) ?_
  refine o_pure (i := 5) (fun _ _ => trivial) rfl rfl (by kernel_rfl) (goes0 rfl) (QOk.then QOk.body) (fun w => q_sliceX (e := 111) (size := 1) (l := (i + 1)) (h := n) (m := cap) (ad' := (subS ad (i + 1) 1 cap)) (len' := (n - (i + 1))) (cap' := (cap - (i + 1))) rfl (by kernel_rfl) (by kernel_rfl) rfl rfl ⟨_, int_nat (by first | rfl | omega) rfl⟩ (by omega) (by first | omega | (simp only [List.length_append, List.length_map, List.length_cons, List.length_nil, List.length_take, List.length_drop, List.length_set] <;> omega)) (by first | omega | (simp only [List.length_append, List.length_map, List.length_cons, List.length_nil, List.length_take, List.length_drop, List.length_set] <;> omega)) rfl rfl rfl rfl) ?_
  refine o_eff (i := 6) (by kernel_rfl) rfl (goes0 rfl) (fun K hK => ?_)
  have hsr10 : SlG (hw w9) (subS ad (i + 1) 1 cap) (xs.drop ((i + 1) * 1)) := by
    have := SlG.sub (l := i + 1) (size := 1) (m := cap) (n := n - (i + 1)) (hS9.owG (i := 0) rfl) (by omega) (by decide)
    rwa [List.take_of_length_le (by rw [List.length_drop, hxl]; omega)] at this
  have hSv10 : St _ _ [.ow 111 1 ad i cap (xs.take (i * 1))] _ := hS9.owSubX (i := 0) (l := 0) (hh := i) (mx := cap) (xs' := xs.take (i * 1)) rfl (by omega) (by omega) (by omega) (by omega) subS_zero (Nat.sub_zero _) (Nat.sub_zero _) (by rw [Nat.zero_mul, List.drop_zero, Nat.sub_zero]); clear hS9
  refine e_appRoom (e := 111) (size := 1) (bytes := 24) (i := 0) (m' := n - 1) (by kernel_rfl) hSv10 rfl rfl rfl (SlG.src (e := 111) (by kernel_rfl) hsr10 (by rw [List.length_drop, hxl]; omega) (by decide) (fun u hu => hx1 u (List.mem_of_mem_drop hu))) (by omega) (by omega) rfl (fun w10 (hS10 : St _ _ [.ow 111 1 ad (n - 1) cap (xs.take (i * 1) ++ xs.drop ((i + 1) * 1))] _) => ?_)
  clear hSv10
  refine hK _ _ trivial ?_; clear hK K
  refine o_pure (i := 7) (fun _ _ => trivial) rfl rfl (by kernel_rfl) (goes0 rfl) (QOk.then QOk.body) (fun w => q_assignS rfl) ?_
  refine o_done (by kernel_rfl) ?_
  refine hK8 _ _ ?_
  refine wp_seq_k (fun K11 hK11 => ?_)
  refine wp_region_lit ?_
  refine l_q rfl rfl (q_moveS rfl) ?_
  refine l_q rfl rfl (q_moveS rfl) ?_
  refine l_q rfl rfl (q_lenSl (e := 111) rfl (by kernel_rfl)) ?_
  refine l_q rfl rfl (q_moveI rfl) ?_
  refine l_q rfl rfl (q_sliceX (e := 111) (size := 1) (l := (n - 1)) (h := n) (m := cap) (ad' := (subS ad (n - 1) 1 cap)) (len' := (n - (n - 1))) (cap' := (cap - (n - 1))) rfl (by kernel_rfl) (by kernel_rfl) rfl ⟨_, int_nat (by first | rfl | omega) rfl⟩ ⟨_, int_nat (by first | rfl | omega) rfl⟩ (by omega) (by first | omega | (simp only [List.length_append, List.length_map, List.length_cons, List.length_nil, List.length_take, List.length_drop, List.length_set] <;> omega)) (by first | omega | (simp only [List.length_append, List.length_map, List.length_cons, List.length_nil, List.length_take, List.length_drop, List.length_set] <;> omega)) rfl rfl rfl rfl) ?_
  refine l_e rfl (fun K hK => ?_)
  refine e_clearX (e := 111) (size := 1) (bytes := 24) (i := 0) (m := n - 1) (lo := n - 1) (mx := cap) (by kernel_rfl) (by kernel_rfl) hS10 rfl rfl (by omega) (by omega) (by omega) (fun w12 (hS12 : St _ _ [.ow 111 1 ad (n - 1) cap (xs.take (i * 1) ++ xs.drop ((i + 1) * 1))] _) => ?_)
  clear hS10
  refine hK _ _ ?_; clear hK K
  refine l_nil ?_
  refine hK11 _ _ ?_
  refine wp_seq_k (fun K13 hK13 => ?_)
  refine wp_region_lit ?_
  refine l_q rfl rfl (q_moveS rfl) ?_
  refine l_q rfl rfl (q_assignS rfl) ?_
  refine l_nil ?_
  refine hK13 _ _ ?_
  refine wp_ret ?_
  refine c_ret1 rfl rfl ?_
  exact ⟨_, _, rfl, ⟨rfl, rfl⟩, hS12⟩

set_option maxRecDepth 100000 in
theorem clonE (xs : List Value) (hx1 : ∀ u ∈ xs, u.oneCell' = true) (ad : Option Addr) (cap m : Nat) (hm : xs.length = m * 2) (hn : m ≤ 1000000) (w : World) (hG : SlG (hw w) ad xs) : Calls Try.prog 66 #[.slice ad m cap] w (PostN w fun v G => ∃ ad' cap', v = .slice ad' m cap' ∧ G = [.ow 41 2 ad' m cap' xs]) := by
  have hS := St.start w
  refine c_enter Try.func66 rfl rfl rfl ?_
  refine wp_seq_k (fun K1 hK1 => ?_)
  refine wp_region_lit ?_
  refine l_q rfl rfl (q_assignS rfl) ?_
  refine l_nil ?_
  refine hK1 _ _ ?_
  refine wp_seq_k (fun K2 hK2 => ?_)
  refine wp_seq_k (fun K3 hK3 => ?_)
  refine wp_region_lit ?_
  refine l_q rfl rfl (q_moveS rfl) ?_
  refine l_q rfl rfl (q_slice_eql 41 rfl rfl (by kernel_rfl)) ?_
  refine l_nil ?_
  refine hK3 _ _ ?_
  refine c_cond rfl (fun hc4 => ?_) (fun hc4 => ?_)
  ·
    have hc4b := hc4
    try simp only [decide_eq_true_eq, decide_eq_false_iff_not, Bool.not_eq_true', Bool.not_eq_false', Bool.and_eq_true, Bool.or_eq_true, Int.not_lt, Int.not_le, ne_eq, Decidable.not_not] at hc4
    have ha := hc4
    obtain rfl : ad = none := by cases ad with | none => rfl | some a => cases ha
    obtain rfl : xs = [] := SlG.ofNone hG
    obtain rfl : m = 0 := by simp only [List.length_nil] at hm; omega
    refine wp_seq_k (fun K5 hK5 => ?_)
    refine wp_region_lit ?_
    refine l_q rfl rfl (q_assignS rfl) ?_
    refine l_nil ?_
    refine hK5 _ _ ?_
    refine wp_ret ?_
    refine c_ret1 rfl rfl ?_
    exact ⟨_, _, rfl, ⟨_, _, rfl, rfl⟩, hS.ow_nil _ _⟩
  ·
    have hc4b := hc4
    try simp only [decide_eq_true_eq, decide_eq_false_iff_not, Bool.not_eq_true', Bool.not_eq_false', Bool.and_eq_true, Bool.or_eq_true, Int.not_lt, Int.not_le, ne_eq, Decidable.not_not] at hc4
    refine wp_skip ?_
    refine hK2 _ _ ?_
    refine wp_seq_k (fun K6 hK6 => ?_)
    refine wp_region_lit ?_
    refine l_e rfl (fun K hK => ?_)
    refine e_buildSlice0 (e := 41) (m := 2) hS (by kernel_rfl) (by kernel_rfl) (fun b7 w7 (hS7 : St _ _ [.blk b7 (.cells #[] 41)] _) => ?_)
    clear hS
    have hS7o : St _ _ [.ow 41 2 (some ⟨b7, 0, none⟩) 0 0 []] _ := hS7.blkOw' (i := 0) (m := 0) (size := 2) (xs := []) rfl rfl rfl (by decide); clear hS7
    refine hK _ _ ?_; clear hK K
    refine l_q rfl rfl (q_moveS rfl) ?_
    refine l_e rfl (fun K hK => ?_)
    refine e_app (e := 41) (size := 2) (bytes := 48) (i := 0) (m' := m) (by kernel_rfl) hS7o rfl rfl rfl (SlG.src (e := 41) (by kernel_rfl) (hG.mono hS7o.base) (by first | assumption | omega | (simp only [List.length_append, List.length_map, List.length_cons, List.length_nil, List.length_take, List.length_drop, List.length_set] <;> omega)) (by decide) hx1) (by first | omega | (simp only [List.length_append, List.length_map, List.length_cons, List.length_nil, List.length_take, List.length_drop, List.length_set] <;> omega) | (simp; done)) rfl (by first | omega | (simp only [maxLen, List.length_append, List.length_map, List.length_cons, List.length_nil, List.length_take, List.length_drop, List.length_set] <;> omega) | (simp only [maxLen]; omega)) (by first | omega | (simp only [List.length_append, List.length_map, List.length_cons, List.length_nil, List.length_take, List.length_drop, List.length_set] <;> omega)) (fun ad8 cp8 w8 (hS8 : St _ _ [.ow 41 2 ad8 m cp8 xs] _) => ?_)
    clear hS7o
    refine hK _ _ ?_; clear hK K
    refine l_q rfl rfl (q_assignS rfl) ?_
    refine l_nil ?_
    refine hK6 _ _ ?_
    refine wp_ret ?_
    refine c_ret1 rfl rfl ?_
    exact ⟨_, _, rfl, ⟨_, _, rfl, rfl⟩, hS8⟩

end Go.Proofs.Ytmbbkliekgiolaa
